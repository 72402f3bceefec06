/-
  DERIVED. GIVEN WITH THE SEED: THE CARDS: each row of YtkjocbdjenmegaaGreatDoorRows.lean that lists a variable, with what it lists TIED to the program's text (the seventh form; the later family's looks); each row that meets fmt, with fmt's text TOLD by the authors' own Lean function (tested against real Go, not proved from fmt's source: count such statements apart). THE CARD IS WHAT COUNTS. Prove the row's statement (the work); the ties are given (YtkjocbdjenmegaaGreatDoorTie.lean); close each card by the builder's one call (the guide's Derived/Test/ToyasCard.lean, 'card_holds'). Laid BY PROGRAM, IN A SANDBOX (cutbox-door.mjs). By AI agents, Wed Nov 11 2026. No macro, syntax, notation, axiom, sorry.
-/
import Derived.Test.YtkjocbdjenmegaaGreatDoorRows
import GoSem.ClaimSeven
namespace Go.Proofs.YtkjocbdjenmegaaGreatDoor
namespace Rows

/-- THE TIED CARD OF 'sluicegatelaw11.KonstEvals'. -/
def konstEvalsCard : Claim7 := { stood := { row := konstEvalsRow, standIns := [], harness := (true, "d3b8e5d393fff10850cbb6a3cfd4a6dfc098be39429070e8c039228da935defd"), looks := false }, kinds := [], alts := [], laidByText := true, laidKinds := [.data, .data, .data], laidTests := true, laidLooks := .later }
def KonstEvalsCardSaid : Prop := Claim7.holds Tryz.pinned (.plain (OpenSpec.ofChange konstEvalsSpec)) konstEvalsCard

/-- THE TIED CARD OF 'sluicegatelaw11.KonstArith'. -/
def konstArithCard : Claim7 := { stood := { row := konstArithRow, standIns := [], harness := (true, "d3b8e5d393fff10850cbb6a3cfd4a6dfc098be39429070e8c039228da935defd"), looks := false }, kinds := [], alts := [], laidByText := true, laidKinds := [.data, .data, .data], laidTests := true, laidLooks := .later }
def KonstArithCardSaid : Prop := Claim7.holds Tryz.pinned (.plain (OpenSpec.ofChange konstArithSpec)) konstArithCard

/-- THE TIED CARD OF 'sluicegatelaw11.KonstWays'. -/
def konstWaysCard : Claim7 := { stood := { row := konstWaysRow, standIns := [], harness := (true, "d3b8e5d393fff10850cbb6a3cfd4a6dfc098be39429070e8c039228da935defd"), looks := false }, kinds := [], alts := [], laidByText := true, laidKinds := [.data, .data, .data], laidTests := true, laidLooks := .later }
def KonstWaysCardSaid : Prop := Claim7.holds Tryz.pinned (.plain (OpenSpec.ofChange konstWaysSpec)) konstWaysCard

/-- THE SECOND FORM's CARD OF 'sluicegatelaw11.KonstEvals'. -/
def konstEvalsUptoCard : Claim7 := { stood := { row := konstEvalsUptoRow, standIns := [], harness := (true, "d3b8e5d393fff10850cbb6a3cfd4a6dfc098be39429070e8c039228da935defd"), looks := false }, kinds := [], alts := [], laidByText := true, laidKinds := [.data, .data, .data], laidTests := true, laidLooks := .later }
def KonstEvalsUptoCardSaid : Prop := Claim7.holds Tryz.pinned (.plain (OpenSpec.upto konstEvalsSpec)) konstEvalsUptoCard

/-- THE SECOND FORM's CARD OF 'sluicegatelaw11.KonstArith'. -/
def konstArithUptoCard : Claim7 := { stood := { row := konstArithUptoRow, standIns := [], harness := (true, "d3b8e5d393fff10850cbb6a3cfd4a6dfc098be39429070e8c039228da935defd"), looks := false }, kinds := [], alts := [], laidByText := true, laidKinds := [.data, .data, .data], laidTests := true, laidLooks := .later }
def KonstArithUptoCardSaid : Prop := Claim7.holds Tryz.pinned (.plain (OpenSpec.upto konstArithSpec)) konstArithUptoCard

/-- THE SECOND FORM's CARD OF 'sluicegatelaw11.KonstWays'. -/
def konstWaysUptoCard : Claim7 := { stood := { row := konstWaysUptoRow, standIns := [], harness := (true, "d3b8e5d393fff10850cbb6a3cfd4a6dfc098be39429070e8c039228da935defd"), looks := false }, kinds := [], alts := [], laidByText := true, laidKinds := [.data, .data, .data], laidTests := true, laidLooks := .later }
def KonstWaysUptoCardSaid : Prop := Claim7.holds Tryz.pinned (.plain (OpenSpec.upto konstWaysSpec)) konstWaysUptoCard
end Rows
end Go.Proofs.YtkjocbdjenmegaaGreatDoor
