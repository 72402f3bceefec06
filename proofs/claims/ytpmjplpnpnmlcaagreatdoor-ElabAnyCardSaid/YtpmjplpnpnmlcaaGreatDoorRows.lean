/-
  NARROWER THAN 'FOR EVERY INPUT', by the rows' own cells (each row's printed sentence says how): ElabFaults: laid · ElabSources: laid · ElabAny: laid · ElabFirsts: laid · ElabChains: laid · ElabPairs: laid · ElabOrders: laid.
  DERIVED. THE GIVEN ROWS OF THIS SEAT. 7 by the template 'for every input the law returns true; each argument reads behind the call as it read before'; 0 by the template 'total and deterministic' (their statements: YtpmjplpnpnmlcaaGreatDoorTotals.lean).
  GIVEN WITH THE SEED: the statements are not yours to turn. If you find one false, say at which input.
  Laid BY PROGRAM, IN A SANDBOX (cutbox-rows.mjs): the forced cells as the released guide's own fill.sh prints them over the translation db97c4a3af735056… (all of the seat's roots in one cut). By AI agents, Wed Nov 11 2026. No macro, syntax, notation, axiom, sorry.
-/
import Derived.Test.YtpmjplpnpnmlcaaGreatDoorChecked
import GoSem.Claim
import GoSem.ClaimJoined
import GoSem.ClaimMapViews
import Derived.JoinedTies
import Derived.KernelRfl
namespace Go.Proofs.YtpmjplpnpnmlcaaGreatDoor
/- THE CELL 'sum', in the pinned program and in every row, IS THE sha256 OF THE DUMP (.gsa) THAT YtpmjplpnpnmlcaaGreatDoorProg.lean LOADS. Nothing in Lean hashes anything: it is a label: what it is worth is what the hold of that sum in a sandbox is worth. -/
noncomputable def Tryz.pinned : Pinned := { name := "ytpmjplpnpnmlcaagreatdoor", sum := "db97c4a3af735056dd8c1d6f1a4a2f910a251cf813fe7dc41bb4304889365273", checked := Tryz.checked }
namespace Rows
def none {H : Type} : Left H := { results := [], args := [] }

/- WHAT THE LISTED PACKAGE-LEVEL VARIABLES READ AS WHEN THE CALL BEGINS. Each datum BY PROGRAM (the guide's laid-datum.mjs) off the statement by which the dump's own 'gosem.cut.vars' lays the variable. In a bare row this is a premise. The card (YtpmjplpnpnmlcaaGreatDoorCards.lean) ties it to the program's text. -/
def laid_math_bits_deBruijn32tab {H : Type} : DataW H := .agg [.lit (.int .u8 0), .lit (.int .u8 1), .lit (.int .u8 28), .lit (.int .u8 2), .lit (.int .u8 29), .lit (.int .u8 14), .lit (.int .u8 24), .lit (.int .u8 3), .lit (.int .u8 30), .lit (.int .u8 22), .lit (.int .u8 20), .lit (.int .u8 15), .lit (.int .u8 25), .lit (.int .u8 17), .lit (.int .u8 4), .lit (.int .u8 8), .lit (.int .u8 31), .lit (.int .u8 27), .lit (.int .u8 13), .lit (.int .u8 23), .lit (.int .u8 21), .lit (.int .u8 19), .lit (.int .u8 16), .lit (.int .u8 7), .lit (.int .u8 26), .lit (.int .u8 12), .lit (.int .u8 18), .lit (.int .u8 6), .lit (.int .u8 11), .lit (.int .u8 5), .lit (.int .u8 10), .lit (.int .u8 9)]
def laid_math_bits_deBruijn64tab {H : Type} : DataW H := .agg [.lit (.int .u8 0), .lit (.int .u8 1), .lit (.int .u8 56), .lit (.int .u8 2), .lit (.int .u8 57), .lit (.int .u8 49), .lit (.int .u8 28), .lit (.int .u8 3), .lit (.int .u8 61), .lit (.int .u8 58), .lit (.int .u8 42), .lit (.int .u8 50), .lit (.int .u8 38), .lit (.int .u8 29), .lit (.int .u8 17), .lit (.int .u8 4), .lit (.int .u8 62), .lit (.int .u8 47), .lit (.int .u8 59), .lit (.int .u8 36), .lit (.int .u8 45), .lit (.int .u8 43), .lit (.int .u8 51), .lit (.int .u8 22), .lit (.int .u8 53), .lit (.int .u8 39), .lit (.int .u8 33), .lit (.int .u8 30), .lit (.int .u8 24), .lit (.int .u8 18), .lit (.int .u8 12), .lit (.int .u8 5), .lit (.int .u8 63), .lit (.int .u8 55), .lit (.int .u8 48), .lit (.int .u8 27), .lit (.int .u8 60), .lit (.int .u8 41), .lit (.int .u8 37), .lit (.int .u8 16), .lit (.int .u8 46), .lit (.int .u8 35), .lit (.int .u8 44), .lit (.int .u8 21), .lit (.int .u8 52), .lit (.int .u8 32), .lit (.int .u8 23), .lit (.int .u8 11), .lit (.int .u8 54), .lit (.int .u8 26), .lit (.int .u8 40), .lit (.int .u8 15), .lit (.int .u8 34), .lit (.int .u8 20), .lit (.int .u8 31), .lit (.int .u8 10), .lit (.int .u8 25), .lit (.int .u8 14), .lit (.int .u8 19), .lit (.int .u8 9), .lit (.int .u8 13), .lit (.int .u8 8), .lit (.int .u8 7), .lit (.int .u8 6)]
def laid_internal_strconv_uint64pow10 {H : Type} : DataW H := .agg [.lit (.int .u64 1), .lit (.int .u64 10), .lit (.int .u64 100), .lit (.int .u64 1000), .lit (.int .u64 10000), .lit (.int .u64 100000), .lit (.int .u64 1000000), .lit (.int .u64 10000000), .lit (.int .u64 100000000), .lit (.int .u64 1000000000), .lit (.int .u64 10000000000), .lit (.int .u64 100000000000), .lit (.int .u64 1000000000000), .lit (.int .u64 10000000000000), .lit (.int .u64 100000000000000), .lit (.int .u64 1000000000000000), .lit (.int .u64 10000000000000000), .lit (.int .u64 100000000000000000), .lit (.int .u64 1000000000000000000), .lit (.int .u64 10000000000000000000)]
def laid_sluicegate_parse_levels {H : Type} : DataW H := .agg [.lit (.string [32, 124, 124, 32]), .lit (.string [32, 38, 38, 32]), .lit (.string [32, 124, 32]), .lit (.string [32, 94, 32, 126, 94, 32, 94, 126, 32]), .lit (.string [32, 38, 32]), .lit (.string [32, 61, 61, 32, 33, 61, 32]), .lit (.string [32, 60, 32, 60, 61, 32, 62, 32, 62, 61, 32]), .lit (.string [32, 60, 60, 32, 62, 62, 32, 60, 60, 60, 32, 62, 62, 62, 32]), .lit (.string [32, 43, 32, 45, 32]), .lit (.string [32, 42, 32, 47, 32, 37, 32])]

/-- 'sluicegatelaw14.ElabFaults': WHATEVER THE INPUT: true; the input reads as it did. -/
def elabFaultsSpec : ChangeSpec := { name := "elabFaults", fn := fun _ => fun
  | [d1, d2] => { results := [.lit (.bool true)], args := [d1, d2] }
  | _ => none }
def elabFaultsRow : OpenClaim := { program := "ytpmjplpnpnmlcaagreatdoor", sum := "db97c4a3af735056dd8c1d6f1a4a2f910a251cf813fe7dc41bb4304889365273", func := "sluicegate/sluicegatelaw14.ElabFaults", spec := "elabFaults", inPlace := ["internal/bytealg.IndexByteString", "internal/bytealg.IndexString", "math/bits.Add64"], unfollowed := true, recurses := true, named := ["internal/bytealg.MaxLen", "sluicegate/parse.levels", "internal/strconv.uint64pow10", "math/bits.deBruijn32tab", "math/bits.deBruijn64tab"], apart := false, laid := [("math/bits.deBruijn32tab", laid_math_bits_deBruijn32tab), ("math/bits.deBruijn64tab", laid_math_bits_deBruijn64tab), ("internal/strconv.uint64pow10", laid_internal_strconv_uint64pow10), ("sluicegate/parse.levels", laid_sluicegate_parse_levels)] }
def ElabFaultsSaid : Prop := elabFaultsRow.holds Tryz.pinned (OpenSpec.ofChange elabFaultsSpec)

/-- ITS FALSE NEIGHBOUR: 'it returns false'. Refute it at one input. -/
def elabFaultsWrong : ChangeSpec := { name := "elabFaults", fn := fun _ => fun
  | [d1, d2] => { results := [.lit (.bool false)], args := [d1, d2] }
  | _ => none }
def ElabFaultsWrongFalsely : Prop := elabFaultsRow.holds Tryz.pinned (OpenSpec.ofChange elabFaultsWrong)

/-- 'sluicegatelaw14.ElabSources': WHATEVER THE INPUT: true; the input reads as it did. -/
def elabSourcesSpec : ChangeSpec := { name := "elabSources", fn := fun _ => fun
  | [d] => { results := [.lit (.bool true)], args := [d] }
  | _ => none }
def elabSourcesRow : OpenClaim := { program := "ytpmjplpnpnmlcaagreatdoor", sum := "db97c4a3af735056dd8c1d6f1a4a2f910a251cf813fe7dc41bb4304889365273", func := "sluicegate/sluicegatelaw14.ElabSources", spec := "elabSources", inPlace := ["internal/bytealg.IndexByteString", "internal/bytealg.IndexString", "math/bits.Add64"], unfollowed := true, recurses := true, named := ["internal/bytealg.MaxLen", "sluicegate/parse.levels", "internal/strconv.uint64pow10", "math/bits.deBruijn32tab", "math/bits.deBruijn64tab"], apart := false, laid := [("math/bits.deBruijn32tab", laid_math_bits_deBruijn32tab), ("math/bits.deBruijn64tab", laid_math_bits_deBruijn64tab), ("internal/strconv.uint64pow10", laid_internal_strconv_uint64pow10), ("sluicegate/parse.levels", laid_sluicegate_parse_levels)] }
def ElabSourcesSaid : Prop := elabSourcesRow.holds Tryz.pinned (OpenSpec.ofChange elabSourcesSpec)

/-- ITS FALSE NEIGHBOUR: 'it returns false'. Refute it at one input. -/
def elabSourcesWrong : ChangeSpec := { name := "elabSources", fn := fun _ => fun
  | [d] => { results := [.lit (.bool false)], args := [d] }
  | _ => none }
def ElabSourcesWrongFalsely : Prop := elabSourcesRow.holds Tryz.pinned (OpenSpec.ofChange elabSourcesWrong)

/-- 'sluicegatelaw14.ElabAny': WHATEVER THE INPUT: true; the input reads as it did. -/
def elabAnySpec : ChangeSpec := { name := "elabAny", fn := fun _ => fun
  | [d1, d2] => { results := [.lit (.bool true)], args := [d1, d2] }
  | _ => none }
def elabAnyRow : OpenClaim := { program := "ytpmjplpnpnmlcaagreatdoor", sum := "db97c4a3af735056dd8c1d6f1a4a2f910a251cf813fe7dc41bb4304889365273", func := "sluicegate/sluicegatelaw14.ElabAny", spec := "elabAny", inPlace := ["internal/bytealg.IndexByteString", "internal/bytealg.IndexString", "math/bits.Add64"], unfollowed := true, recurses := true, named := ["internal/bytealg.MaxLen", "sluicegate/parse.levels", "internal/strconv.uint64pow10", "math/bits.deBruijn32tab", "math/bits.deBruijn64tab"], apart := false, laid := [("math/bits.deBruijn32tab", laid_math_bits_deBruijn32tab), ("math/bits.deBruijn64tab", laid_math_bits_deBruijn64tab), ("internal/strconv.uint64pow10", laid_internal_strconv_uint64pow10), ("sluicegate/parse.levels", laid_sluicegate_parse_levels)] }
def ElabAnySaid : Prop := elabAnyRow.holds Tryz.pinned (OpenSpec.ofChange elabAnySpec)

/-- ITS FALSE NEIGHBOUR: 'it returns false'. Refute it at one input. -/
def elabAnyWrong : ChangeSpec := { name := "elabAny", fn := fun _ => fun
  | [d1, d2] => { results := [.lit (.bool false)], args := [d1, d2] }
  | _ => none }
def ElabAnyWrongFalsely : Prop := elabAnyRow.holds Tryz.pinned (OpenSpec.ofChange elabAnyWrong)

/-- 'sluicegatelaw14.ElabFirsts': WHATEVER THE INPUT: true; the input reads as it did. -/
def elabFirstsSpec : ChangeSpec := { name := "elabFirsts", fn := fun _ => fun
  | [d1, d2] => { results := [.lit (.bool true)], args := [d1, d2] }
  | _ => none }
def elabFirstsRow : OpenClaim := { program := "ytpmjplpnpnmlcaagreatdoor", sum := "db97c4a3af735056dd8c1d6f1a4a2f910a251cf813fe7dc41bb4304889365273", func := "sluicegate/sluicegatelaw14.ElabFirsts", spec := "elabFirsts", inPlace := ["internal/bytealg.IndexByteString", "internal/bytealg.IndexString", "math/bits.Add64"], unfollowed := true, recurses := true, named := ["internal/bytealg.MaxLen", "sluicegate/parse.levels", "internal/strconv.uint64pow10", "math/bits.deBruijn32tab", "math/bits.deBruijn64tab"], apart := false, laid := [("math/bits.deBruijn32tab", laid_math_bits_deBruijn32tab), ("math/bits.deBruijn64tab", laid_math_bits_deBruijn64tab), ("internal/strconv.uint64pow10", laid_internal_strconv_uint64pow10), ("sluicegate/parse.levels", laid_sluicegate_parse_levels)] }
def ElabFirstsSaid : Prop := elabFirstsRow.holds Tryz.pinned (OpenSpec.ofChange elabFirstsSpec)

/-- ITS FALSE NEIGHBOUR: 'it returns false'. Refute it at one input. -/
def elabFirstsWrong : ChangeSpec := { name := "elabFirsts", fn := fun _ => fun
  | [d1, d2] => { results := [.lit (.bool false)], args := [d1, d2] }
  | _ => none }
def ElabFirstsWrongFalsely : Prop := elabFirstsRow.holds Tryz.pinned (OpenSpec.ofChange elabFirstsWrong)

/-- 'sluicegatelaw14.ElabChains': WHATEVER THE INPUT: true; the input reads as it did. -/
def elabChainsSpec : ChangeSpec := { name := "elabChains", fn := fun _ => fun
  | [d1, d2] => { results := [.lit (.bool true)], args := [d1, d2] }
  | _ => none }
def elabChainsRow : OpenClaim := { program := "ytpmjplpnpnmlcaagreatdoor", sum := "db97c4a3af735056dd8c1d6f1a4a2f910a251cf813fe7dc41bb4304889365273", func := "sluicegate/sluicegatelaw14.ElabChains", spec := "elabChains", inPlace := ["internal/bytealg.IndexByteString", "internal/bytealg.IndexString", "math/bits.Add64"], unfollowed := true, recurses := true, named := ["internal/bytealg.MaxLen", "sluicegate/parse.levels", "internal/strconv.uint64pow10", "math/bits.deBruijn32tab", "math/bits.deBruijn64tab"], apart := false, laid := [("math/bits.deBruijn32tab", laid_math_bits_deBruijn32tab), ("math/bits.deBruijn64tab", laid_math_bits_deBruijn64tab), ("internal/strconv.uint64pow10", laid_internal_strconv_uint64pow10), ("sluicegate/parse.levels", laid_sluicegate_parse_levels)] }
def ElabChainsSaid : Prop := elabChainsRow.holds Tryz.pinned (OpenSpec.ofChange elabChainsSpec)

/-- ITS FALSE NEIGHBOUR: 'it returns false'. Refute it at one input. -/
def elabChainsWrong : ChangeSpec := { name := "elabChains", fn := fun _ => fun
  | [d1, d2] => { results := [.lit (.bool false)], args := [d1, d2] }
  | _ => none }
def ElabChainsWrongFalsely : Prop := elabChainsRow.holds Tryz.pinned (OpenSpec.ofChange elabChainsWrong)

/-- 'sluicegatelaw14.ElabPairs': WHATEVER THE INPUT: true; the input reads as it did. -/
def elabPairsSpec : ChangeSpec := { name := "elabPairs", fn := fun _ => fun
  | [d1, d2, d3] => { results := [.lit (.bool true)], args := [d1, d2, d3] }
  | _ => none }
def elabPairsRow : OpenClaim := { program := "ytpmjplpnpnmlcaagreatdoor", sum := "db97c4a3af735056dd8c1d6f1a4a2f910a251cf813fe7dc41bb4304889365273", func := "sluicegate/sluicegatelaw14.ElabPairs", spec := "elabPairs", inPlace := ["internal/bytealg.IndexByteString", "internal/bytealg.IndexString", "math/bits.Add64", "internal/abi.NoEscape"], unfollowed := true, recurses := true, named := ["internal/bytealg.MaxLen", "sluicegate/parse.levels", "internal/strconv.uint64pow10", "math/bits.deBruijn32tab", "math/bits.deBruijn64tab"], apart := false, laid := [("math/bits.deBruijn32tab", laid_math_bits_deBruijn32tab), ("math/bits.deBruijn64tab", laid_math_bits_deBruijn64tab), ("internal/strconv.uint64pow10", laid_internal_strconv_uint64pow10), ("sluicegate/parse.levels", laid_sluicegate_parse_levels)] }
def ElabPairsSaid : Prop := elabPairsRow.holds Tryz.pinned (OpenSpec.ofChange elabPairsSpec)

/-- ITS FALSE NEIGHBOUR: 'it returns false'. Refute it at one input. -/
def elabPairsWrong : ChangeSpec := { name := "elabPairs", fn := fun _ => fun
  | [d1, d2, d3] => { results := [.lit (.bool false)], args := [d1, d2, d3] }
  | _ => none }
def ElabPairsWrongFalsely : Prop := elabPairsRow.holds Tryz.pinned (OpenSpec.ofChange elabPairsWrong)

/-- 'sluicegatelaw14.ElabOrders': WHATEVER THE INPUT: true; the input reads as it did. -/
def elabOrdersSpec : ChangeSpec := { name := "elabOrders", fn := fun _ => fun
  | [d1, d2, d3] => { results := [.lit (.bool true)], args := [d1, d2, d3] }
  | _ => none }
def elabOrdersRow : OpenClaim := { program := "ytpmjplpnpnmlcaagreatdoor", sum := "db97c4a3af735056dd8c1d6f1a4a2f910a251cf813fe7dc41bb4304889365273", func := "sluicegate/sluicegatelaw14.ElabOrders", spec := "elabOrders", inPlace := ["internal/bytealg.IndexByteString", "internal/bytealg.IndexString", "math/bits.Add64", "internal/abi.NoEscape"], unfollowed := true, recurses := true, named := ["internal/bytealg.MaxLen", "sluicegate/parse.levels", "internal/strconv.uint64pow10", "math/bits.deBruijn32tab", "math/bits.deBruijn64tab"], apart := false, laid := [("math/bits.deBruijn32tab", laid_math_bits_deBruijn32tab), ("math/bits.deBruijn64tab", laid_math_bits_deBruijn64tab), ("internal/strconv.uint64pow10", laid_internal_strconv_uint64pow10), ("sluicegate/parse.levels", laid_sluicegate_parse_levels)] }
def ElabOrdersSaid : Prop := elabOrdersRow.holds Tryz.pinned (OpenSpec.ofChange elabOrdersSpec)

/-- ITS FALSE NEIGHBOUR: 'it returns false'. Refute it at one input. -/
def elabOrdersWrong : ChangeSpec := { name := "elabOrders", fn := fun _ => fun
  | [d1, d2, d3] => { results := [.lit (.bool false)], args := [d1, d2, d3] }
  | _ => none }
def ElabOrdersWrongFalsely : Prop := elabOrdersRow.holds Tryz.pinned (OpenSpec.ofChange elabOrdersWrong)

/- THE SECOND FORM. 'bulk': how many values and letters a reading holds, each counted each time it is reached (what is shared counts as often as it is met; a slice's spare places count too). A statement '..UptoSaid' is the law's where the arguments, and the package variables that the reading takes, are together of bulk at most 1048576: NARROWER than '..Said'. Prove '..Said' where nothing that the law and all that it calls make is longer than what came in: it says more and counts as full. Else prove '..UptoSaid'. A law counts once. -/
mutual
def uptoBulk {H : Type} : DataW H → Nat
  | .lit (.string bytes) => bytes.length + 1
  | .lit _ => 1
  | .nil => 1
  | .ptr d => uptoBulk d + 1
  | .slice elems spare => uptoBulkAll elems + uptoBulkAll spare + 1
  | .agg parts => uptoBulkAll parts + 1
  | .iface _ d => uptoBulk d + 1
  | .map entries => uptoBulkEntries entries + 1
  | .held _ => 1
def uptoBulkAll {H : Type} : List (DataW H) → Nat
  | [] => 0
  | d :: r => uptoBulk d + uptoBulkAll r
def uptoBulkEntries {H : Type} : List (Lit × DataW H) → Nat
  | [] => 0
  | x :: r => uptoBulkEntry x + uptoBulkEntries r
def uptoBulkEntry {H : Type} : Lit × DataW H → Nat
  | (.string bytes, d) => bytes.length + uptoBulk d + 1
  | (_, d) => uptoBulk d + 1
 end
def uptoSmall : (H : Type) → List (DataW H) → Bool := fun _ ds => decide (uptoBulkAll ds ≤ 1048576)
def OpenSpec.upto (s : _root_.Go.ChangeSpec) : _root_.Go.OpenSpec := { _root_.Go.OpenSpec.ofChange s with cond := some uptoSmall }

/-- 'sluicegatelaw14.ElabFaults', WHERE WHAT IT READS IS OF BULK AT MOST 1048576: true; the input reads as it did. -/
def elabFaultsUptoRow : OpenClaim := { program := "ytpmjplpnpnmlcaagreatdoor", sum := "db97c4a3af735056dd8c1d6f1a4a2f910a251cf813fe7dc41bb4304889365273", func := "sluicegate/sluicegatelaw14.ElabFaults", spec := "elabFaults", inPlace := ["internal/bytealg.IndexByteString", "internal/bytealg.IndexString", "math/bits.Add64"], unfollowed := true, recurses := true, named := ["internal/bytealg.MaxLen", "sluicegate/parse.levels", "internal/strconv.uint64pow10", "math/bits.deBruijn32tab", "math/bits.deBruijn64tab"], apart := false, laid := [("math/bits.deBruijn32tab", laid_math_bits_deBruijn32tab), ("math/bits.deBruijn64tab", laid_math_bits_deBruijn64tab), ("internal/strconv.uint64pow10", laid_internal_strconv_uint64pow10), ("sluicegate/parse.levels", laid_sluicegate_parse_levels)], narrowed := true }
def ElabFaultsUptoSaid : Prop := elabFaultsUptoRow.holds Tryz.pinned (OpenSpec.upto elabFaultsSpec)

/-- 'sluicegatelaw14.ElabSources', WHERE WHAT IT READS IS OF BULK AT MOST 1048576: true; the input reads as it did. -/
def elabSourcesUptoRow : OpenClaim := { program := "ytpmjplpnpnmlcaagreatdoor", sum := "db97c4a3af735056dd8c1d6f1a4a2f910a251cf813fe7dc41bb4304889365273", func := "sluicegate/sluicegatelaw14.ElabSources", spec := "elabSources", inPlace := ["internal/bytealg.IndexByteString", "internal/bytealg.IndexString", "math/bits.Add64"], unfollowed := true, recurses := true, named := ["internal/bytealg.MaxLen", "sluicegate/parse.levels", "internal/strconv.uint64pow10", "math/bits.deBruijn32tab", "math/bits.deBruijn64tab"], apart := false, laid := [("math/bits.deBruijn32tab", laid_math_bits_deBruijn32tab), ("math/bits.deBruijn64tab", laid_math_bits_deBruijn64tab), ("internal/strconv.uint64pow10", laid_internal_strconv_uint64pow10), ("sluicegate/parse.levels", laid_sluicegate_parse_levels)], narrowed := true }
def ElabSourcesUptoSaid : Prop := elabSourcesUptoRow.holds Tryz.pinned (OpenSpec.upto elabSourcesSpec)

/-- 'sluicegatelaw14.ElabAny', WHERE WHAT IT READS IS OF BULK AT MOST 1048576: true; the input reads as it did. -/
def elabAnyUptoRow : OpenClaim := { program := "ytpmjplpnpnmlcaagreatdoor", sum := "db97c4a3af735056dd8c1d6f1a4a2f910a251cf813fe7dc41bb4304889365273", func := "sluicegate/sluicegatelaw14.ElabAny", spec := "elabAny", inPlace := ["internal/bytealg.IndexByteString", "internal/bytealg.IndexString", "math/bits.Add64"], unfollowed := true, recurses := true, named := ["internal/bytealg.MaxLen", "sluicegate/parse.levels", "internal/strconv.uint64pow10", "math/bits.deBruijn32tab", "math/bits.deBruijn64tab"], apart := false, laid := [("math/bits.deBruijn32tab", laid_math_bits_deBruijn32tab), ("math/bits.deBruijn64tab", laid_math_bits_deBruijn64tab), ("internal/strconv.uint64pow10", laid_internal_strconv_uint64pow10), ("sluicegate/parse.levels", laid_sluicegate_parse_levels)], narrowed := true }
def ElabAnyUptoSaid : Prop := elabAnyUptoRow.holds Tryz.pinned (OpenSpec.upto elabAnySpec)

/-- 'sluicegatelaw14.ElabFirsts', WHERE WHAT IT READS IS OF BULK AT MOST 1048576: true; the input reads as it did. -/
def elabFirstsUptoRow : OpenClaim := { program := "ytpmjplpnpnmlcaagreatdoor", sum := "db97c4a3af735056dd8c1d6f1a4a2f910a251cf813fe7dc41bb4304889365273", func := "sluicegate/sluicegatelaw14.ElabFirsts", spec := "elabFirsts", inPlace := ["internal/bytealg.IndexByteString", "internal/bytealg.IndexString", "math/bits.Add64"], unfollowed := true, recurses := true, named := ["internal/bytealg.MaxLen", "sluicegate/parse.levels", "internal/strconv.uint64pow10", "math/bits.deBruijn32tab", "math/bits.deBruijn64tab"], apart := false, laid := [("math/bits.deBruijn32tab", laid_math_bits_deBruijn32tab), ("math/bits.deBruijn64tab", laid_math_bits_deBruijn64tab), ("internal/strconv.uint64pow10", laid_internal_strconv_uint64pow10), ("sluicegate/parse.levels", laid_sluicegate_parse_levels)], narrowed := true }
def ElabFirstsUptoSaid : Prop := elabFirstsUptoRow.holds Tryz.pinned (OpenSpec.upto elabFirstsSpec)

/-- 'sluicegatelaw14.ElabChains', WHERE WHAT IT READS IS OF BULK AT MOST 1048576: true; the input reads as it did. -/
def elabChainsUptoRow : OpenClaim := { program := "ytpmjplpnpnmlcaagreatdoor", sum := "db97c4a3af735056dd8c1d6f1a4a2f910a251cf813fe7dc41bb4304889365273", func := "sluicegate/sluicegatelaw14.ElabChains", spec := "elabChains", inPlace := ["internal/bytealg.IndexByteString", "internal/bytealg.IndexString", "math/bits.Add64"], unfollowed := true, recurses := true, named := ["internal/bytealg.MaxLen", "sluicegate/parse.levels", "internal/strconv.uint64pow10", "math/bits.deBruijn32tab", "math/bits.deBruijn64tab"], apart := false, laid := [("math/bits.deBruijn32tab", laid_math_bits_deBruijn32tab), ("math/bits.deBruijn64tab", laid_math_bits_deBruijn64tab), ("internal/strconv.uint64pow10", laid_internal_strconv_uint64pow10), ("sluicegate/parse.levels", laid_sluicegate_parse_levels)], narrowed := true }
def ElabChainsUptoSaid : Prop := elabChainsUptoRow.holds Tryz.pinned (OpenSpec.upto elabChainsSpec)

/-- 'sluicegatelaw14.ElabPairs', WHERE WHAT IT READS IS OF BULK AT MOST 1048576: true; the input reads as it did. -/
def elabPairsUptoRow : OpenClaim := { program := "ytpmjplpnpnmlcaagreatdoor", sum := "db97c4a3af735056dd8c1d6f1a4a2f910a251cf813fe7dc41bb4304889365273", func := "sluicegate/sluicegatelaw14.ElabPairs", spec := "elabPairs", inPlace := ["internal/bytealg.IndexByteString", "internal/bytealg.IndexString", "math/bits.Add64", "internal/abi.NoEscape"], unfollowed := true, recurses := true, named := ["internal/bytealg.MaxLen", "sluicegate/parse.levels", "internal/strconv.uint64pow10", "math/bits.deBruijn32tab", "math/bits.deBruijn64tab"], apart := false, laid := [("math/bits.deBruijn32tab", laid_math_bits_deBruijn32tab), ("math/bits.deBruijn64tab", laid_math_bits_deBruijn64tab), ("internal/strconv.uint64pow10", laid_internal_strconv_uint64pow10), ("sluicegate/parse.levels", laid_sluicegate_parse_levels)], narrowed := true }
def ElabPairsUptoSaid : Prop := elabPairsUptoRow.holds Tryz.pinned (OpenSpec.upto elabPairsSpec)

/-- 'sluicegatelaw14.ElabOrders', WHERE WHAT IT READS IS OF BULK AT MOST 1048576: true; the input reads as it did. -/
def elabOrdersUptoRow : OpenClaim := { program := "ytpmjplpnpnmlcaagreatdoor", sum := "db97c4a3af735056dd8c1d6f1a4a2f910a251cf813fe7dc41bb4304889365273", func := "sluicegate/sluicegatelaw14.ElabOrders", spec := "elabOrders", inPlace := ["internal/bytealg.IndexByteString", "internal/bytealg.IndexString", "math/bits.Add64", "internal/abi.NoEscape"], unfollowed := true, recurses := true, named := ["internal/bytealg.MaxLen", "sluicegate/parse.levels", "internal/strconv.uint64pow10", "math/bits.deBruijn32tab", "math/bits.deBruijn64tab"], apart := false, laid := [("math/bits.deBruijn32tab", laid_math_bits_deBruijn32tab), ("math/bits.deBruijn64tab", laid_math_bits_deBruijn64tab), ("internal/strconv.uint64pow10", laid_internal_strconv_uint64pow10), ("sluicegate/parse.levels", laid_sluicegate_parse_levels)], narrowed := true }
def ElabOrdersUptoSaid : Prop := elabOrdersUptoRow.holds Tryz.pinned (OpenSpec.upto elabOrdersSpec)

end Rows
end Go.Proofs.YtpmjplpnpnmlcaaGreatDoor
