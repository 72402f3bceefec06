/-
  No cell of these rows narrows 'for every input' (looked for: loops, veiled, ifaces, maps, wideKeys, modest, calm, conditions, laid).
  DERIVED. THE GIVEN ROWS OF THIS SEAT. 9 by the template 'for every input the law returns true; each argument reads behind the call as it read before'; 0 by the template 'total and deterministic' (their statements: YtmklmhdgnokcmaaTotals.lean).
  GIVEN WITH THE SEED: the statements are not yours to turn. If you find one false, say at which input.
  Laid BY PROGRAM, IN A SANDBOX (cutbox-rows.mjs): the forced cells as the released guide's own fill.sh prints them over the translation 8bada3fe32386816… (all of the seat's roots in one cut). By AI agents, Wed Nov 11 2026. No macro, syntax, notation, axiom, sorry.
-/
import Derived.Test.YtmklmhdgnokcmaaChecked
import GoSem.Claim
import GoSem.ClaimJoined
import GoSem.ClaimMapViews
import Derived.JoinedTies
import Derived.KernelRfl
namespace Go.Proofs.Ytmklmhdgnokcmaa
/- THE CELL 'sum', in the pinned program and in every row, IS THE sha256 OF THE DUMP (.gsa) THAT YtmklmhdgnokcmaaProg.lean LOADS. Nothing in Lean hashes anything: it is a label: what it is worth is what the hold of that sum in a sandbox is worth. -/
noncomputable def Try.pinned : Pinned := { name := "ytmklmhdgnokcmaa", sum := "8bada3fe32386816c2b0ef76dc112f005a67dc7e63fa6161aff263a07d819f62", checked := Try.checked }
namespace Rows
def none {H : Type} : Left H := { results := [], args := [] }

/-- 'sluicegatelaw09.AstAsks': WHATEVER THE INPUT: true; the input reads as it did. -/
def astAsksSpec : ChangeSpec := { name := "astAsks", fn := fun _ => fun
  | [d] => { results := [.lit (.bool true)], args := [d] }
  | _ => none }
def astAsksRow : OpenClaim := { program := "ytmklmhdgnokcmaa", sum := "8bada3fe32386816c2b0ef76dc112f005a67dc7e63fa6161aff263a07d819f62", func := "sluicegate/sluicegatelaw09.AstAsks", spec := "astAsks", unfollowed := true, recurses := true, apart := false }
def AstAsksSaid : Prop := astAsksRow.holds Try.pinned (OpenSpec.ofChange astAsksSpec)

/-- ITS FALSE NEIGHBOUR: 'it returns false'. Refute it at one input. -/
def astAsksWrong : ChangeSpec := { name := "astAsks", fn := fun _ => fun
  | [d] => { results := [.lit (.bool false)], args := [d] }
  | _ => none }
def AstAsksWrongFalsely : Prop := astAsksRow.holds Try.pinned (OpenSpec.ofChange astAsksWrong)

/-- 'sluicegatelaw09.AstJoins': WHATEVER THE INPUT: true; the input reads as it did. -/
def astJoinsSpec : ChangeSpec := { name := "astJoins", fn := fun _ => fun
  | [d1, d2] => { results := [.lit (.bool true)], args := [d1, d2] }
  | _ => none }
def astJoinsRow : OpenClaim := { program := "ytmklmhdgnokcmaa", sum := "8bada3fe32386816c2b0ef76dc112f005a67dc7e63fa6161aff263a07d819f62", func := "sluicegate/sluicegatelaw09.AstJoins", spec := "astJoins", unfollowed := true, recurses := true, apart := false }
def AstJoinsSaid : Prop := astJoinsRow.holds Try.pinned (OpenSpec.ofChange astJoinsSpec)

/-- ITS FALSE NEIGHBOUR: 'it returns false'. Refute it at one input. -/
def astJoinsWrong : ChangeSpec := { name := "astJoins", fn := fun _ => fun
  | [d1, d2] => { results := [.lit (.bool false)], args := [d1, d2] }
  | _ => none }
def AstJoinsWrongFalsely : Prop := astJoinsRow.holds Try.pinned (OpenSpec.ofChange astJoinsWrong)

/-- 'sluicegatelaw09.AstSame': WHATEVER THE INPUT: true; the input reads as it did. -/
def astSameSpec : ChangeSpec := { name := "astSame", fn := fun _ => fun
  | [d1, d2] => { results := [.lit (.bool true)], args := [d1, d2] }
  | _ => none }
def astSameRow : OpenClaim := { program := "ytmklmhdgnokcmaa", sum := "8bada3fe32386816c2b0ef76dc112f005a67dc7e63fa6161aff263a07d819f62", func := "sluicegate/sluicegatelaw09.AstSame", spec := "astSame", unfollowed := true, recurses := true, apart := false }
def AstSameSaid : Prop := astSameRow.holds Try.pinned (OpenSpec.ofChange astSameSpec)

/-- ITS FALSE NEIGHBOUR: 'it returns false'. Refute it at one input. -/
def astSameWrong : ChangeSpec := { name := "astSame", fn := fun _ => fun
  | [d1, d2] => { results := [.lit (.bool false)], args := [d1, d2] }
  | _ => none }
def AstSameWrongFalsely : Prop := astSameRow.holds Try.pinned (OpenSpec.ofChange astSameWrong)

/-- 'sluicegatelaw08.LexWords': WHATEVER THE INPUT: true; the input reads as it did. -/
def lexWordsSpec : ChangeSpec := { name := "lexWords", fn := fun _ => fun
  | [d] => { results := [.lit (.bool true)], args := [d] }
  | _ => none }
def lexWordsRow : OpenClaim := { program := "ytmklmhdgnokcmaa", sum := "8bada3fe32386816c2b0ef76dc112f005a67dc7e63fa6161aff263a07d819f62", func := "sluicegate/sluicegatelaw08.LexWords", spec := "lexWords", inPlace := ["internal/bytealg.IndexByteString", "internal/bytealg.IndexString", "math/bits.Add64", "internal/abi.NoEscape", "internal/bytealg.MakeNoZero"], unfollowed := true, recurses := true, named := ["internal/bytealg.MaxLen"], apart := false }
def LexWordsSaid : Prop := lexWordsRow.holds Try.pinned (OpenSpec.ofChange lexWordsSpec)

/-- ITS FALSE NEIGHBOUR: 'it returns false'. Refute it at one input. -/
def lexWordsWrong : ChangeSpec := { name := "lexWords", fn := fun _ => fun
  | [d] => { results := [.lit (.bool false)], args := [d] }
  | _ => none }
def LexWordsWrongFalsely : Prop := lexWordsRow.holds Try.pinned (OpenSpec.ofChange lexWordsWrong)

/-- 'sluicegatelaw08.LexTexts': WHATEVER THE INPUT: true; the input reads as it did. -/
def lexTextsSpec : ChangeSpec := { name := "lexTexts", fn := fun _ => fun
  | [d] => { results := [.lit (.bool true)], args := [d] }
  | _ => none }
def lexTextsRow : OpenClaim := { program := "ytmklmhdgnokcmaa", sum := "8bada3fe32386816c2b0ef76dc112f005a67dc7e63fa6161aff263a07d819f62", func := "sluicegate/sluicegatelaw08.LexTexts", spec := "lexTexts", inPlace := ["internal/bytealg.IndexByteString", "internal/bytealg.IndexString", "math/bits.Add64", "internal/abi.NoEscape", "internal/bytealg.MakeNoZero"], unfollowed := true, recurses := true, named := ["internal/bytealg.MaxLen"], apart := false }
def LexTextsSaid : Prop := lexTextsRow.holds Try.pinned (OpenSpec.ofChange lexTextsSpec)

/-- ITS FALSE NEIGHBOUR: 'it returns false'. Refute it at one input. -/
def lexTextsWrong : ChangeSpec := { name := "lexTexts", fn := fun _ => fun
  | [d] => { results := [.lit (.bool false)], args := [d] }
  | _ => none }
def LexTextsWrongFalsely : Prop := lexTextsRow.holds Try.pinned (OpenSpec.ofChange lexTextsWrong)

/-- 'sluicegatelaw08.LexCovers': WHATEVER THE INPUT: true; the input reads as it did. -/
def lexCoversSpec : ChangeSpec := { name := "lexCovers", fn := fun _ => fun
  | [d] => { results := [.lit (.bool true)], args := [d] }
  | _ => none }
def lexCoversRow : OpenClaim := { program := "ytmklmhdgnokcmaa", sum := "8bada3fe32386816c2b0ef76dc112f005a67dc7e63fa6161aff263a07d819f62", func := "sluicegate/sluicegatelaw08.LexCovers", spec := "lexCovers", inPlace := ["internal/bytealg.IndexByteString", "internal/bytealg.IndexString", "math/bits.Add64", "internal/abi.NoEscape", "internal/bytealg.MakeNoZero"], unfollowed := true, recurses := true, named := ["internal/bytealg.MaxLen"], apart := false }
def LexCoversSaid : Prop := lexCoversRow.holds Try.pinned (OpenSpec.ofChange lexCoversSpec)

/-- ITS FALSE NEIGHBOUR: 'it returns false'. Refute it at one input. -/
def lexCoversWrong : ChangeSpec := { name := "lexCovers", fn := fun _ => fun
  | [d] => { results := [.lit (.bool false)], args := [d] }
  | _ => none }
def LexCoversWrongFalsely : Prop := lexCoversRow.holds Try.pinned (OpenSpec.ofChange lexCoversWrong)

/-- 'sluicegatelaw08.LexMany': WHATEVER THE INPUT: true; the input reads as it did. -/
def lexManySpec : ChangeSpec := { name := "lexMany", fn := fun _ => fun
  | [d] => { results := [.lit (.bool true)], args := [d] }
  | _ => none }
def lexManyRow : OpenClaim := { program := "ytmklmhdgnokcmaa", sum := "8bada3fe32386816c2b0ef76dc112f005a67dc7e63fa6161aff263a07d819f62", func := "sluicegate/sluicegatelaw08.LexMany", spec := "lexMany", inPlace := ["internal/bytealg.IndexByteString", "internal/bytealg.IndexString", "math/bits.Add64", "internal/abi.NoEscape", "internal/bytealg.MakeNoZero"], unfollowed := true, recurses := true, named := ["internal/bytealg.MaxLen"], apart := false }
def LexManySaid : Prop := lexManyRow.holds Try.pinned (OpenSpec.ofChange lexManySpec)

/-- ITS FALSE NEIGHBOUR: 'it returns false'. Refute it at one input. -/
def lexManyWrong : ChangeSpec := { name := "lexMany", fn := fun _ => fun
  | [d] => { results := [.lit (.bool false)], args := [d] }
  | _ => none }
def LexManyWrongFalsely : Prop := lexManyRow.holds Try.pinned (OpenSpec.ofChange lexManyWrong)

/-- 'sluicegatelaw08.LexBlanks': WHATEVER THE INPUT: true; the input reads as it did. -/
def lexBlanksSpec : ChangeSpec := { name := "lexBlanks", fn := fun _ => fun
  | [d1, d2] => { results := [.lit (.bool true)], args := [d1, d2] }
  | _ => none }
def lexBlanksRow : OpenClaim := { program := "ytmklmhdgnokcmaa", sum := "8bada3fe32386816c2b0ef76dc112f005a67dc7e63fa6161aff263a07d819f62", func := "sluicegate/sluicegatelaw08.LexBlanks", spec := "lexBlanks", inPlace := ["internal/bytealg.IndexByteString", "internal/bytealg.IndexString", "math/bits.Add64", "internal/abi.NoEscape", "internal/bytealg.MakeNoZero"], unfollowed := true, recurses := true, named := ["internal/bytealg.MaxLen"], apart := false }
def LexBlanksSaid : Prop := lexBlanksRow.holds Try.pinned (OpenSpec.ofChange lexBlanksSpec)

/-- ITS FALSE NEIGHBOUR: 'it returns false'. Refute it at one input. -/
def lexBlanksWrong : ChangeSpec := { name := "lexBlanks", fn := fun _ => fun
  | [d1, d2] => { results := [.lit (.bool false)], args := [d1, d2] }
  | _ => none }
def LexBlanksWrongFalsely : Prop := lexBlanksRow.holds Try.pinned (OpenSpec.ofChange lexBlanksWrong)

/-- 'sluicegatelaw08.LexJoins': WHATEVER THE INPUT: true; the input reads as it did. -/
def lexJoinsSpec : ChangeSpec := { name := "lexJoins", fn := fun _ => fun
  | [d] => { results := [.lit (.bool true)], args := [d] }
  | _ => none }
def lexJoinsRow : OpenClaim := { program := "ytmklmhdgnokcmaa", sum := "8bada3fe32386816c2b0ef76dc112f005a67dc7e63fa6161aff263a07d819f62", func := "sluicegate/sluicegatelaw08.LexJoins", spec := "lexJoins", inPlace := ["internal/bytealg.IndexByteString", "internal/bytealg.IndexString", "math/bits.Add64", "internal/abi.NoEscape", "internal/bytealg.MakeNoZero"], unfollowed := true, recurses := true, named := ["internal/bytealg.MaxLen"], apart := false }
def LexJoinsSaid : Prop := lexJoinsRow.holds Try.pinned (OpenSpec.ofChange lexJoinsSpec)

/-- ITS FALSE NEIGHBOUR: 'it returns false'. Refute it at one input. -/
def lexJoinsWrong : ChangeSpec := { name := "lexJoins", fn := fun _ => fun
  | [d] => { results := [.lit (.bool false)], args := [d] }
  | _ => none }
def LexJoinsWrongFalsely : Prop := lexJoinsRow.holds Try.pinned (OpenSpec.ofChange lexJoinsWrong)

/- THE SECOND FORM. 'bulk': how many values and letters a reading holds, each counted each time it is reached (what is shared counts as often as it is met; a slice's spare places count too). A statement '..UptoSaid' is the law's where the arguments, and the package variables that the reading takes, are together of bulk at most 1048576: NARROWER than '..Said'. Prove '..Said' where nothing that the law and all that it calls make is longer than what came in: it says more and counts as full. Else prove '..UptoSaid'. A law counts once. -/
mutual
def uptoBulk {H : Type} : DataW H → Nat
  | .lit (.string bytes) => bytes.length + 1
  | .lit _ => 1
  | .nil => 1
  | .ptr d => uptoBulk d + 1
  | .slice elems spare => uptoBulkAll elems + uptoBulkAll spare + 1
  | .agg parts => uptoBulkAll parts + 1
  | .iface _ d => uptoBulk d + 1
  | .map entries => uptoBulkEntries entries + 1
  | .held _ => 1
def uptoBulkAll {H : Type} : List (DataW H) → Nat
  | [] => 0
  | d :: r => uptoBulk d + uptoBulkAll r
def uptoBulkEntries {H : Type} : List (Lit × DataW H) → Nat
  | [] => 0
  | x :: r => uptoBulkEntry x + uptoBulkEntries r
def uptoBulkEntry {H : Type} : Lit × DataW H → Nat
  | (.string bytes, d) => bytes.length + uptoBulk d + 1
  | (_, d) => uptoBulk d + 1
 end
def uptoSmall : (H : Type) → List (DataW H) → Bool := fun _ ds => decide (uptoBulkAll ds ≤ 1048576)
def OpenSpec.upto (s : _root_.Go.ChangeSpec) : _root_.Go.OpenSpec := { _root_.Go.OpenSpec.ofChange s with cond := some uptoSmall }

/-- 'sluicegatelaw09.AstAsks', WHERE WHAT IT READS IS OF BULK AT MOST 1048576: true; the input reads as it did. -/
def astAsksUptoRow : OpenClaim := { program := "ytmklmhdgnokcmaa", sum := "8bada3fe32386816c2b0ef76dc112f005a67dc7e63fa6161aff263a07d819f62", func := "sluicegate/sluicegatelaw09.AstAsks", spec := "astAsks", unfollowed := true, recurses := true, apart := false, narrowed := true }
def AstAsksUptoSaid : Prop := astAsksUptoRow.holds Try.pinned (OpenSpec.upto astAsksSpec)

/-- 'sluicegatelaw09.AstJoins', WHERE WHAT IT READS IS OF BULK AT MOST 1048576: true; the input reads as it did. -/
def astJoinsUptoRow : OpenClaim := { program := "ytmklmhdgnokcmaa", sum := "8bada3fe32386816c2b0ef76dc112f005a67dc7e63fa6161aff263a07d819f62", func := "sluicegate/sluicegatelaw09.AstJoins", spec := "astJoins", unfollowed := true, recurses := true, apart := false, narrowed := true }
def AstJoinsUptoSaid : Prop := astJoinsUptoRow.holds Try.pinned (OpenSpec.upto astJoinsSpec)

/-- 'sluicegatelaw09.AstSame', WHERE WHAT IT READS IS OF BULK AT MOST 1048576: true; the input reads as it did. -/
def astSameUptoRow : OpenClaim := { program := "ytmklmhdgnokcmaa", sum := "8bada3fe32386816c2b0ef76dc112f005a67dc7e63fa6161aff263a07d819f62", func := "sluicegate/sluicegatelaw09.AstSame", spec := "astSame", unfollowed := true, recurses := true, apart := false, narrowed := true }
def AstSameUptoSaid : Prop := astSameUptoRow.holds Try.pinned (OpenSpec.upto astSameSpec)

/-- 'sluicegatelaw08.LexWords', WHERE WHAT IT READS IS OF BULK AT MOST 1048576: true; the input reads as it did. -/
def lexWordsUptoRow : OpenClaim := { program := "ytmklmhdgnokcmaa", sum := "8bada3fe32386816c2b0ef76dc112f005a67dc7e63fa6161aff263a07d819f62", func := "sluicegate/sluicegatelaw08.LexWords", spec := "lexWords", inPlace := ["internal/bytealg.IndexByteString", "internal/bytealg.IndexString", "math/bits.Add64", "internal/abi.NoEscape", "internal/bytealg.MakeNoZero"], unfollowed := true, recurses := true, named := ["internal/bytealg.MaxLen"], apart := false, narrowed := true }
def LexWordsUptoSaid : Prop := lexWordsUptoRow.holds Try.pinned (OpenSpec.upto lexWordsSpec)

/-- 'sluicegatelaw08.LexTexts', WHERE WHAT IT READS IS OF BULK AT MOST 1048576: true; the input reads as it did. -/
def lexTextsUptoRow : OpenClaim := { program := "ytmklmhdgnokcmaa", sum := "8bada3fe32386816c2b0ef76dc112f005a67dc7e63fa6161aff263a07d819f62", func := "sluicegate/sluicegatelaw08.LexTexts", spec := "lexTexts", inPlace := ["internal/bytealg.IndexByteString", "internal/bytealg.IndexString", "math/bits.Add64", "internal/abi.NoEscape", "internal/bytealg.MakeNoZero"], unfollowed := true, recurses := true, named := ["internal/bytealg.MaxLen"], apart := false, narrowed := true }
def LexTextsUptoSaid : Prop := lexTextsUptoRow.holds Try.pinned (OpenSpec.upto lexTextsSpec)

/-- 'sluicegatelaw08.LexCovers', WHERE WHAT IT READS IS OF BULK AT MOST 1048576: true; the input reads as it did. -/
def lexCoversUptoRow : OpenClaim := { program := "ytmklmhdgnokcmaa", sum := "8bada3fe32386816c2b0ef76dc112f005a67dc7e63fa6161aff263a07d819f62", func := "sluicegate/sluicegatelaw08.LexCovers", spec := "lexCovers", inPlace := ["internal/bytealg.IndexByteString", "internal/bytealg.IndexString", "math/bits.Add64", "internal/abi.NoEscape", "internal/bytealg.MakeNoZero"], unfollowed := true, recurses := true, named := ["internal/bytealg.MaxLen"], apart := false, narrowed := true }
def LexCoversUptoSaid : Prop := lexCoversUptoRow.holds Try.pinned (OpenSpec.upto lexCoversSpec)

/-- 'sluicegatelaw08.LexMany', WHERE WHAT IT READS IS OF BULK AT MOST 1048576: true; the input reads as it did. -/
def lexManyUptoRow : OpenClaim := { program := "ytmklmhdgnokcmaa", sum := "8bada3fe32386816c2b0ef76dc112f005a67dc7e63fa6161aff263a07d819f62", func := "sluicegate/sluicegatelaw08.LexMany", spec := "lexMany", inPlace := ["internal/bytealg.IndexByteString", "internal/bytealg.IndexString", "math/bits.Add64", "internal/abi.NoEscape", "internal/bytealg.MakeNoZero"], unfollowed := true, recurses := true, named := ["internal/bytealg.MaxLen"], apart := false, narrowed := true }
def LexManyUptoSaid : Prop := lexManyUptoRow.holds Try.pinned (OpenSpec.upto lexManySpec)

/-- 'sluicegatelaw08.LexBlanks', WHERE WHAT IT READS IS OF BULK AT MOST 1048576: true; the input reads as it did. -/
def lexBlanksUptoRow : OpenClaim := { program := "ytmklmhdgnokcmaa", sum := "8bada3fe32386816c2b0ef76dc112f005a67dc7e63fa6161aff263a07d819f62", func := "sluicegate/sluicegatelaw08.LexBlanks", spec := "lexBlanks", inPlace := ["internal/bytealg.IndexByteString", "internal/bytealg.IndexString", "math/bits.Add64", "internal/abi.NoEscape", "internal/bytealg.MakeNoZero"], unfollowed := true, recurses := true, named := ["internal/bytealg.MaxLen"], apart := false, narrowed := true }
def LexBlanksUptoSaid : Prop := lexBlanksUptoRow.holds Try.pinned (OpenSpec.upto lexBlanksSpec)

/-- 'sluicegatelaw08.LexJoins', WHERE WHAT IT READS IS OF BULK AT MOST 1048576: true; the input reads as it did. -/
def lexJoinsUptoRow : OpenClaim := { program := "ytmklmhdgnokcmaa", sum := "8bada3fe32386816c2b0ef76dc112f005a67dc7e63fa6161aff263a07d819f62", func := "sluicegate/sluicegatelaw08.LexJoins", spec := "lexJoins", inPlace := ["internal/bytealg.IndexByteString", "internal/bytealg.IndexString", "math/bits.Add64", "internal/abi.NoEscape", "internal/bytealg.MakeNoZero"], unfollowed := true, recurses := true, named := ["internal/bytealg.MaxLen"], apart := false, narrowed := true }
def LexJoinsUptoSaid : Prop := lexJoinsUptoRow.holds Try.pinned (OpenSpec.upto lexJoinsSpec)

end Rows
end Go.Proofs.Ytmklmhdgnokcmaa
