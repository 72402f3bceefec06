/-
  DERIVED. GIVEN WITH THE SEED: THE CARDS: each row of YtpmjplpnpnmlcaaGreatDoorRows.lean that lists a variable, with what it lists TIED to the program's text (the seventh form; the later family's looks); each row that meets fmt, with fmt's text TOLD by the authors' own Lean function (tested against real Go, not proved from fmt's source: count such statements apart). THE CARD IS WHAT COUNTS. Prove the row's statement (the work); the ties are given (YtpmjplpnpnmlcaaGreatDoorTie.lean); close each card by the builder's one call (the guide's Derived/Test/ToyasCard.lean, 'card_holds'). Laid BY PROGRAM, IN A SANDBOX (cutbox-door.mjs). By AI agents, Wed Nov 11 2026. No macro, syntax, notation, axiom, sorry.
-/
import Derived.Test.YtpmjplpnpnmlcaaGreatDoorRows
import GoSem.ClaimSeven
namespace Go.Proofs.YtpmjplpnpnmlcaaGreatDoor
namespace Rows

/-- THE TIED CARD OF 'sluicegatelaw14.ElabFaults'. -/
def elabFaultsCard : Claim7 := { stood := { row := elabFaultsRow, standIns := [], harness := (true, "16a04560f04ee2d2d31e39f31ee3eeabb448da85cdc95d70a2d66cfb2a1bfef6"), looks := false }, kinds := [], alts := [], laidByText := true, laidKinds := [.data, .data, .data, .data], laidTests := true, laidLooks := .later }
def ElabFaultsCardSaid : Prop := Claim7.holds Tryz.pinned (.plain (OpenSpec.ofChange elabFaultsSpec)) elabFaultsCard

/-- THE TIED CARD OF 'sluicegatelaw14.ElabSources'. -/
def elabSourcesCard : Claim7 := { stood := { row := elabSourcesRow, standIns := [], harness := (true, "16a04560f04ee2d2d31e39f31ee3eeabb448da85cdc95d70a2d66cfb2a1bfef6"), looks := false }, kinds := [], alts := [], laidByText := true, laidKinds := [.data, .data, .data, .data], laidTests := true, laidLooks := .later }
def ElabSourcesCardSaid : Prop := Claim7.holds Tryz.pinned (.plain (OpenSpec.ofChange elabSourcesSpec)) elabSourcesCard

/-- THE TIED CARD OF 'sluicegatelaw14.ElabAny'. -/
def elabAnyCard : Claim7 := { stood := { row := elabAnyRow, standIns := [], harness := (true, "16a04560f04ee2d2d31e39f31ee3eeabb448da85cdc95d70a2d66cfb2a1bfef6"), looks := false }, kinds := [], alts := [], laidByText := true, laidKinds := [.data, .data, .data, .data], laidTests := true, laidLooks := .later }
def ElabAnyCardSaid : Prop := Claim7.holds Tryz.pinned (.plain (OpenSpec.ofChange elabAnySpec)) elabAnyCard

/-- THE TIED CARD OF 'sluicegatelaw14.ElabFirsts'. -/
def elabFirstsCard : Claim7 := { stood := { row := elabFirstsRow, standIns := [], harness := (true, "16a04560f04ee2d2d31e39f31ee3eeabb448da85cdc95d70a2d66cfb2a1bfef6"), looks := false }, kinds := [], alts := [], laidByText := true, laidKinds := [.data, .data, .data, .data], laidTests := true, laidLooks := .later }
def ElabFirstsCardSaid : Prop := Claim7.holds Tryz.pinned (.plain (OpenSpec.ofChange elabFirstsSpec)) elabFirstsCard

/-- THE TIED CARD OF 'sluicegatelaw14.ElabChains'. -/
def elabChainsCard : Claim7 := { stood := { row := elabChainsRow, standIns := [], harness := (true, "16a04560f04ee2d2d31e39f31ee3eeabb448da85cdc95d70a2d66cfb2a1bfef6"), looks := false }, kinds := [], alts := [], laidByText := true, laidKinds := [.data, .data, .data, .data], laidTests := true, laidLooks := .later }
def ElabChainsCardSaid : Prop := Claim7.holds Tryz.pinned (.plain (OpenSpec.ofChange elabChainsSpec)) elabChainsCard

/-- THE TIED CARD OF 'sluicegatelaw14.ElabPairs'. -/
def elabPairsCard : Claim7 := { stood := { row := elabPairsRow, standIns := [], harness := (true, "16a04560f04ee2d2d31e39f31ee3eeabb448da85cdc95d70a2d66cfb2a1bfef6"), looks := false }, kinds := [], alts := [], laidByText := true, laidKinds := [.data, .data, .data, .data], laidTests := true, laidLooks := .later }
def ElabPairsCardSaid : Prop := Claim7.holds Tryz.pinned (.plain (OpenSpec.ofChange elabPairsSpec)) elabPairsCard

/-- THE TIED CARD OF 'sluicegatelaw14.ElabOrders'. -/
def elabOrdersCard : Claim7 := { stood := { row := elabOrdersRow, standIns := [], harness := (true, "16a04560f04ee2d2d31e39f31ee3eeabb448da85cdc95d70a2d66cfb2a1bfef6"), looks := false }, kinds := [], alts := [], laidByText := true, laidKinds := [.data, .data, .data, .data], laidTests := true, laidLooks := .later }
def ElabOrdersCardSaid : Prop := Claim7.holds Tryz.pinned (.plain (OpenSpec.ofChange elabOrdersSpec)) elabOrdersCard

/-- THE SECOND FORM's CARD OF 'sluicegatelaw14.ElabFaults'. -/
def elabFaultsUptoCard : Claim7 := { stood := { row := elabFaultsUptoRow, standIns := [], harness := (true, "16a04560f04ee2d2d31e39f31ee3eeabb448da85cdc95d70a2d66cfb2a1bfef6"), looks := false }, kinds := [], alts := [], laidByText := true, laidKinds := [.data, .data, .data, .data], laidTests := true, laidLooks := .later }
def ElabFaultsUptoCardSaid : Prop := Claim7.holds Tryz.pinned (.plain (OpenSpec.upto elabFaultsSpec)) elabFaultsUptoCard

/-- THE SECOND FORM's CARD OF 'sluicegatelaw14.ElabSources'. -/
def elabSourcesUptoCard : Claim7 := { stood := { row := elabSourcesUptoRow, standIns := [], harness := (true, "16a04560f04ee2d2d31e39f31ee3eeabb448da85cdc95d70a2d66cfb2a1bfef6"), looks := false }, kinds := [], alts := [], laidByText := true, laidKinds := [.data, .data, .data, .data], laidTests := true, laidLooks := .later }
def ElabSourcesUptoCardSaid : Prop := Claim7.holds Tryz.pinned (.plain (OpenSpec.upto elabSourcesSpec)) elabSourcesUptoCard

/-- THE SECOND FORM's CARD OF 'sluicegatelaw14.ElabAny'. -/
def elabAnyUptoCard : Claim7 := { stood := { row := elabAnyUptoRow, standIns := [], harness := (true, "16a04560f04ee2d2d31e39f31ee3eeabb448da85cdc95d70a2d66cfb2a1bfef6"), looks := false }, kinds := [], alts := [], laidByText := true, laidKinds := [.data, .data, .data, .data], laidTests := true, laidLooks := .later }
def ElabAnyUptoCardSaid : Prop := Claim7.holds Tryz.pinned (.plain (OpenSpec.upto elabAnySpec)) elabAnyUptoCard

/-- THE SECOND FORM's CARD OF 'sluicegatelaw14.ElabFirsts'. -/
def elabFirstsUptoCard : Claim7 := { stood := { row := elabFirstsUptoRow, standIns := [], harness := (true, "16a04560f04ee2d2d31e39f31ee3eeabb448da85cdc95d70a2d66cfb2a1bfef6"), looks := false }, kinds := [], alts := [], laidByText := true, laidKinds := [.data, .data, .data, .data], laidTests := true, laidLooks := .later }
def ElabFirstsUptoCardSaid : Prop := Claim7.holds Tryz.pinned (.plain (OpenSpec.upto elabFirstsSpec)) elabFirstsUptoCard

/-- THE SECOND FORM's CARD OF 'sluicegatelaw14.ElabChains'. -/
def elabChainsUptoCard : Claim7 := { stood := { row := elabChainsUptoRow, standIns := [], harness := (true, "16a04560f04ee2d2d31e39f31ee3eeabb448da85cdc95d70a2d66cfb2a1bfef6"), looks := false }, kinds := [], alts := [], laidByText := true, laidKinds := [.data, .data, .data, .data], laidTests := true, laidLooks := .later }
def ElabChainsUptoCardSaid : Prop := Claim7.holds Tryz.pinned (.plain (OpenSpec.upto elabChainsSpec)) elabChainsUptoCard

/-- THE SECOND FORM's CARD OF 'sluicegatelaw14.ElabPairs'. -/
def elabPairsUptoCard : Claim7 := { stood := { row := elabPairsUptoRow, standIns := [], harness := (true, "16a04560f04ee2d2d31e39f31ee3eeabb448da85cdc95d70a2d66cfb2a1bfef6"), looks := false }, kinds := [], alts := [], laidByText := true, laidKinds := [.data, .data, .data, .data], laidTests := true, laidLooks := .later }
def ElabPairsUptoCardSaid : Prop := Claim7.holds Tryz.pinned (.plain (OpenSpec.upto elabPairsSpec)) elabPairsUptoCard

/-- THE SECOND FORM's CARD OF 'sluicegatelaw14.ElabOrders'. -/
def elabOrdersUptoCard : Claim7 := { stood := { row := elabOrdersUptoRow, standIns := [], harness := (true, "16a04560f04ee2d2d31e39f31ee3eeabb448da85cdc95d70a2d66cfb2a1bfef6"), looks := false }, kinds := [], alts := [], laidByText := true, laidKinds := [.data, .data, .data, .data], laidTests := true, laidLooks := .later }
def ElabOrdersUptoCardSaid : Prop := Claim7.holds Tryz.pinned (.plain (OpenSpec.upto elabOrdersSpec)) elabOrdersUptoCard
end Rows
end Go.Proofs.YtpmjplpnpnmlcaaGreatDoor
