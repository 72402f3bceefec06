/-
  No cell of these rows narrows 'for every input' (looked for: loops, veiled, ifaces, maps, wideKeys, modest, calm, conditions, laid).
  DERIVED. THE GIVEN ROWS OF THIS SEAT. 3 by the template 'for every input the law returns true; each argument reads behind the call as it read before'; 0 by the template 'total and deterministic' (their statements: YthlhbocobgkdmaaGreatTotals.lean).
  GIVEN WITH THE SEED: the statements are not yours to turn. If you find one false, say at which input.
  Laid BY PROGRAM, IN A SANDBOX (cutbox-rows.mjs): the forced cells as the released guide's own fill.sh prints them over the translation 7b9bbae6a08c8e5e… (all of the seat's roots in one cut). By AI agents, Wed Nov 11 2026. No macro, syntax, notation, axiom, sorry.
-/
import Derived.Test.YthlhbocobgkdmaaGreatChecked
import GoSem.Claim
import GoSem.ClaimJoined
import GoSem.ClaimMapViews
import Derived.JoinedTies
import Derived.KernelRfl
namespace Go.Proofs.YthlhbocobgkdmaaGreat
/- THE CELL 'sum', in the pinned program and in every row, IS THE sha256 OF THE DUMP (.gsa) THAT YthlhbocobgkdmaaGreatProg.lean LOADS. Nothing in Lean hashes anything: it is a label: what it is worth is what the hold of that sum in a sandbox is worth. -/
noncomputable def Tryz.pinned : Pinned := { name := "ythlhbocobgkdmaagreat", sum := "7b9bbae6a08c8e5ea548c4588f8f480e982df51c3098238ddd205b69156d08e2", checked := Tryz.checked }
namespace Rows
def none {H : Type} : Left H := { results := [], args := [] }

/-- 'sluicegatelaw12.TypedScopes': WHATEVER THE INPUT: true; the input reads as it did. -/
def typedScopesSpec : ChangeSpec := { name := "typedScopes", fn := fun _ => fun
  | [d1, d2] => { results := [.lit (.bool true)], args := [d1, d2] }
  | _ => none }
def typedScopesRow : OpenClaim := { program := "ythlhbocobgkdmaagreat", sum := "7b9bbae6a08c8e5ea548c4588f8f480e982df51c3098238ddd205b69156d08e2", func := "sluicegate/sluicegatelaw12.TypedScopes", spec := "typedScopes", inPlace := ["internal/bytealg.IndexByteString", "internal/bytealg.IndexString", "math/bits.Add64"], unfollowed := true, recurses := true, named := ["internal/bytealg.MaxLen"], apart := false }
def TypedScopesSaid : Prop := typedScopesRow.holds Tryz.pinned (OpenSpec.ofChange typedScopesSpec)

/-- ITS FALSE NEIGHBOUR: 'it returns false'. Refute it at one input. -/
def typedScopesWrong : ChangeSpec := { name := "typedScopes", fn := fun _ => fun
  | [d1, d2] => { results := [.lit (.bool false)], args := [d1, d2] }
  | _ => none }
def TypedScopesWrongFalsely : Prop := typedScopesRow.holds Tryz.pinned (OpenSpec.ofChange typedScopesWrong)

/-- 'sluicegatelaw12.TypedMakers': WHATEVER THE INPUT: true; the input reads as it did. -/
def typedMakersSpec : ChangeSpec := { name := "typedMakers", fn := fun _ => fun
  | [d1, d2, d3] => { results := [.lit (.bool true)], args := [d1, d2, d3] }
  | _ => none }
def typedMakersRow : OpenClaim := { program := "ythlhbocobgkdmaagreat", sum := "7b9bbae6a08c8e5ea548c4588f8f480e982df51c3098238ddd205b69156d08e2", func := "sluicegate/sluicegatelaw12.TypedMakers", spec := "typedMakers", inPlace := ["internal/bytealg.IndexByteString", "internal/bytealg.IndexString", "math/bits.Add64"], unfollowed := true, recurses := true, named := ["internal/bytealg.MaxLen"], apart := false }
def TypedMakersSaid : Prop := typedMakersRow.holds Tryz.pinned (OpenSpec.ofChange typedMakersSpec)

/-- ITS FALSE NEIGHBOUR: 'it returns false'. Refute it at one input. -/
def typedMakersWrong : ChangeSpec := { name := "typedMakers", fn := fun _ => fun
  | [d1, d2, d3] => { results := [.lit (.bool false)], args := [d1, d2, d3] }
  | _ => none }
def TypedMakersWrongFalsely : Prop := typedMakersRow.holds Tryz.pinned (OpenSpec.ofChange typedMakersWrong)

/-- 'sluicegatelaw12.TypedAsks': WHATEVER THE INPUT: true; the input reads as it did. -/
def typedAsksSpec : ChangeSpec := { name := "typedAsks", fn := fun _ => fun
  | [d1, d2] => { results := [.lit (.bool true)], args := [d1, d2] }
  | _ => none }
def typedAsksRow : OpenClaim := { program := "ythlhbocobgkdmaagreat", sum := "7b9bbae6a08c8e5ea548c4588f8f480e982df51c3098238ddd205b69156d08e2", func := "sluicegate/sluicegatelaw12.TypedAsks", spec := "typedAsks", inPlace := ["internal/bytealg.IndexByteString", "internal/bytealg.IndexString", "math/bits.Add64"], unfollowed := true, recurses := true, named := ["internal/bytealg.MaxLen"], apart := false }
def TypedAsksSaid : Prop := typedAsksRow.holds Tryz.pinned (OpenSpec.ofChange typedAsksSpec)

/-- ITS FALSE NEIGHBOUR: 'it returns false'. Refute it at one input. -/
def typedAsksWrong : ChangeSpec := { name := "typedAsks", fn := fun _ => fun
  | [d1, d2] => { results := [.lit (.bool false)], args := [d1, d2] }
  | _ => none }
def TypedAsksWrongFalsely : Prop := typedAsksRow.holds Tryz.pinned (OpenSpec.ofChange typedAsksWrong)

/- THE SECOND FORM. 'bulk': how many values and letters a reading holds, each counted each time it is reached (what is shared counts as often as it is met; a slice's spare places count too). A statement '..UptoSaid' is the law's where the arguments, and the package variables that the reading takes, are together of bulk at most 1048576: NARROWER than '..Said'. Prove '..Said' where nothing that the law and all that it calls make is longer than what came in: it says more and counts as full. Else prove '..UptoSaid'. A law counts once. -/
mutual
def uptoBulk {H : Type} : DataW H → Nat
  | .lit (.string bytes) => bytes.length + 1
  | .lit _ => 1
  | .nil => 1
  | .ptr d => uptoBulk d + 1
  | .slice elems spare => uptoBulkAll elems + uptoBulkAll spare + 1
  | .agg parts => uptoBulkAll parts + 1
  | .iface _ d => uptoBulk d + 1
  | .map entries => uptoBulkEntries entries + 1
  | .held _ => 1
def uptoBulkAll {H : Type} : List (DataW H) → Nat
  | [] => 0
  | d :: r => uptoBulk d + uptoBulkAll r
def uptoBulkEntries {H : Type} : List (Lit × DataW H) → Nat
  | [] => 0
  | x :: r => uptoBulkEntry x + uptoBulkEntries r
def uptoBulkEntry {H : Type} : Lit × DataW H → Nat
  | (.string bytes, d) => bytes.length + uptoBulk d + 1
  | (_, d) => uptoBulk d + 1
 end
def uptoSmall : (H : Type) → List (DataW H) → Bool := fun _ ds => decide (uptoBulkAll ds ≤ 1048576)
def OpenSpec.upto (s : _root_.Go.ChangeSpec) : _root_.Go.OpenSpec := { _root_.Go.OpenSpec.ofChange s with cond := some uptoSmall }

/-- 'sluicegatelaw12.TypedScopes', WHERE WHAT IT READS IS OF BULK AT MOST 1048576: true; the input reads as it did. -/
def typedScopesUptoRow : OpenClaim := { program := "ythlhbocobgkdmaagreat", sum := "7b9bbae6a08c8e5ea548c4588f8f480e982df51c3098238ddd205b69156d08e2", func := "sluicegate/sluicegatelaw12.TypedScopes", spec := "typedScopes", inPlace := ["internal/bytealg.IndexByteString", "internal/bytealg.IndexString", "math/bits.Add64"], unfollowed := true, recurses := true, named := ["internal/bytealg.MaxLen"], apart := false, narrowed := true }
def TypedScopesUptoSaid : Prop := typedScopesUptoRow.holds Tryz.pinned (OpenSpec.upto typedScopesSpec)

/-- 'sluicegatelaw12.TypedMakers', WHERE WHAT IT READS IS OF BULK AT MOST 1048576: true; the input reads as it did. -/
def typedMakersUptoRow : OpenClaim := { program := "ythlhbocobgkdmaagreat", sum := "7b9bbae6a08c8e5ea548c4588f8f480e982df51c3098238ddd205b69156d08e2", func := "sluicegate/sluicegatelaw12.TypedMakers", spec := "typedMakers", inPlace := ["internal/bytealg.IndexByteString", "internal/bytealg.IndexString", "math/bits.Add64"], unfollowed := true, recurses := true, named := ["internal/bytealg.MaxLen"], apart := false, narrowed := true }
def TypedMakersUptoSaid : Prop := typedMakersUptoRow.holds Tryz.pinned (OpenSpec.upto typedMakersSpec)

/-- 'sluicegatelaw12.TypedAsks', WHERE WHAT IT READS IS OF BULK AT MOST 1048576: true; the input reads as it did. -/
def typedAsksUptoRow : OpenClaim := { program := "ythlhbocobgkdmaagreat", sum := "7b9bbae6a08c8e5ea548c4588f8f480e982df51c3098238ddd205b69156d08e2", func := "sluicegate/sluicegatelaw12.TypedAsks", spec := "typedAsks", inPlace := ["internal/bytealg.IndexByteString", "internal/bytealg.IndexString", "math/bits.Add64"], unfollowed := true, recurses := true, named := ["internal/bytealg.MaxLen"], apart := false, narrowed := true }
def TypedAsksUptoSaid : Prop := typedAsksUptoRow.holds Tryz.pinned (OpenSpec.upto typedAsksSpec)

end Rows
end Go.Proofs.YthlhbocobgkdmaaGreat
