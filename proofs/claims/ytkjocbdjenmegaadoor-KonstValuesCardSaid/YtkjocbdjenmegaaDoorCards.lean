/-
  DERIVED. GIVEN WITH THE SEED: THE CARDS: each row of YtkjocbdjenmegaaDoorRows.lean that lists a variable, with what it lists TIED to the program's text (the seventh form; the later family's looks); each row that meets fmt, with fmt's text TOLD by the authors' own Lean function (tested against real Go, not proved from fmt's source: count such statements apart). THE CARD IS WHAT COUNTS. Prove the row's statement (the work); the ties are given (YtkjocbdjenmegaaDoorTie.lean); close each card by the builder's one call (the guide's Derived/Test/ToyasCard.lean, 'card_holds'). Laid BY PROGRAM, IN A SANDBOX (cutbox-door.mjs). By AI agents, Wed Nov 11 2026. No macro, syntax, notation, axiom, sorry.
-/
import Derived.Test.YtkjocbdjenmegaaDoorRows
import GoSem.ClaimSeven
namespace Go.Proofs.YtkjocbdjenmegaaDoor
namespace Rows

/-- THE TIED CARD OF 'sluicegatelaw02.LitParses'. -/
def litParsesCard : Claim7 := { stood := { row := litParsesRow, standIns := [], harness := (true, "a0a8ad18c30f4d1da7f8f4f08caf43ffef321054548cf3439bd248915d28439b"), looks := false }, kinds := [], alts := [], laidByText := true, laidKinds := [.data, .data, .data], laidTests := true, laidLooks := .later }
def LitParsesCardSaid : Prop := Claim7.holds Tryd.pinned (.plain (OpenSpec.ofChange litParsesSpec)) litParsesCard

/-- THE TIED CARD OF 'sluicegatelaw02.LitUnlike'. -/
def litUnlikeCard : Claim7 := { stood := { row := litUnlikeRow, standIns := [], harness := (true, "a0a8ad18c30f4d1da7f8f4f08caf43ffef321054548cf3439bd248915d28439b"), looks := false }, kinds := [], alts := [], laidByText := true, laidKinds := [.data, .data, .data], laidTests := true, laidLooks := .later }
def LitUnlikeCardSaid : Prop := Claim7.holds Tryd.pinned (.plain (OpenSpec.ofChange litUnlikeSpec)) litUnlikeCard

/-- THE TIED CARD OF 'sluicegatelaw02.LitNumbers'. -/
def litNumbersCard : Claim7 := { stood := { row := litNumbersRow, standIns := [], harness := (true, "a0a8ad18c30f4d1da7f8f4f08caf43ffef321054548cf3439bd248915d28439b"), looks := false }, kinds := [], alts := [], laidByText := true, laidKinds := [.data, .data, .data], laidTests := true, laidLooks := .later }
def LitNumbersCardSaid : Prop := Claim7.holds Tryd.pinned (.plain (OpenSpec.ofChange litNumbersSpec)) litNumbersCard

/-- THE TIED CARD OF 'sluicegatelaw02.LitTexts'. -/
def litTextsCard : Claim7 := { stood := { row := litTextsRow, standIns := [], harness := (true, "a0a8ad18c30f4d1da7f8f4f08caf43ffef321054548cf3439bd248915d28439b"), looks := false }, kinds := [], alts := [], laidByText := true, laidKinds := [.data, .data, .data], laidTests := true, laidLooks := .later }
def LitTextsCardSaid : Prop := Claim7.holds Tryd.pinned (.plain (OpenSpec.ofChange litTextsSpec)) litTextsCard

/-- THE TIED CARD OF 'sluicegatelaw11.KonstValues'. -/
def konstValuesCard : Claim7 := { stood := { row := konstValuesRow, standIns := [], harness := (true, "a0a8ad18c30f4d1da7f8f4f08caf43ffef321054548cf3439bd248915d28439b"), looks := false }, kinds := [], alts := [], laidByText := true, laidKinds := [.data, .data, .data], laidTests := true, laidLooks := .later }
def KonstValuesCardSaid : Prop := Claim7.holds Tryd.pinned (.plain (OpenSpec.ofChange konstValuesSpec)) konstValuesCard

/-- THE SECOND FORM's CARD OF 'sluicegatelaw02.LitParses'. -/
def litParsesUptoCard : Claim7 := { stood := { row := litParsesUptoRow, standIns := [], harness := (true, "a0a8ad18c30f4d1da7f8f4f08caf43ffef321054548cf3439bd248915d28439b"), looks := false }, kinds := [], alts := [], laidByText := true, laidKinds := [.data, .data, .data], laidTests := true, laidLooks := .later }
def LitParsesUptoCardSaid : Prop := Claim7.holds Tryd.pinned (.plain (OpenSpec.upto litParsesSpec)) litParsesUptoCard

/-- THE SECOND FORM's CARD OF 'sluicegatelaw02.LitUnlike'. -/
def litUnlikeUptoCard : Claim7 := { stood := { row := litUnlikeUptoRow, standIns := [], harness := (true, "a0a8ad18c30f4d1da7f8f4f08caf43ffef321054548cf3439bd248915d28439b"), looks := false }, kinds := [], alts := [], laidByText := true, laidKinds := [.data, .data, .data], laidTests := true, laidLooks := .later }
def LitUnlikeUptoCardSaid : Prop := Claim7.holds Tryd.pinned (.plain (OpenSpec.upto litUnlikeSpec)) litUnlikeUptoCard

/-- THE SECOND FORM's CARD OF 'sluicegatelaw02.LitNumbers'. -/
def litNumbersUptoCard : Claim7 := { stood := { row := litNumbersUptoRow, standIns := [], harness := (true, "a0a8ad18c30f4d1da7f8f4f08caf43ffef321054548cf3439bd248915d28439b"), looks := false }, kinds := [], alts := [], laidByText := true, laidKinds := [.data, .data, .data], laidTests := true, laidLooks := .later }
def LitNumbersUptoCardSaid : Prop := Claim7.holds Tryd.pinned (.plain (OpenSpec.upto litNumbersSpec)) litNumbersUptoCard

/-- THE SECOND FORM's CARD OF 'sluicegatelaw02.LitTexts'. -/
def litTextsUptoCard : Claim7 := { stood := { row := litTextsUptoRow, standIns := [], harness := (true, "a0a8ad18c30f4d1da7f8f4f08caf43ffef321054548cf3439bd248915d28439b"), looks := false }, kinds := [], alts := [], laidByText := true, laidKinds := [.data, .data, .data], laidTests := true, laidLooks := .later }
def LitTextsUptoCardSaid : Prop := Claim7.holds Tryd.pinned (.plain (OpenSpec.upto litTextsSpec)) litTextsUptoCard

/-- THE SECOND FORM's CARD OF 'sluicegatelaw11.KonstValues'. -/
def konstValuesUptoCard : Claim7 := { stood := { row := konstValuesUptoRow, standIns := [], harness := (true, "a0a8ad18c30f4d1da7f8f4f08caf43ffef321054548cf3439bd248915d28439b"), looks := false }, kinds := [], alts := [], laidByText := true, laidKinds := [.data, .data, .data], laidTests := true, laidLooks := .later }
def KonstValuesUptoCardSaid : Prop := Claim7.holds Tryd.pinned (.plain (OpenSpec.upto konstValuesSpec)) konstValuesUptoCard
end Rows
end Go.Proofs.YtkjocbdjenmegaaDoor
