/- The parser's words: what comes next, is taken, is wanted; names. -/
import Derived.Test.YtalibicpmfbieaaGreatDoorLexTotal
namespace Go.Proofs.YtalibicpmfbieaaGreatDoor
open Go.AE
set_option linter.unusedVariables false
set_option linter.unusedSimpArgs false
theorem evDf {t u : Nat → Out} {P : Bool × List D → Prop} (he : ∀ n, t n = u n) (h : Ev u P) : Ev t P := by
  have : t = u := funext he
  rw [this]; exact h
def opsT : List (List UInt8) := [[124, 124], [38, 38], [124], [94], [126, 94], [38], [61, 61], [33, 61], [60], [60, 61], [62], [62, 61], [60, 60], [62, 62], [60, 60, 60], [62, 62, 62], [43], [45], [42], [47], [37]]
theorem op_short : (opsT.all fun o => decide (o.length ≤ 3)) = true := by kernel_rfl
theorem op_len {o : List UInt8} (ho : o ∈ opsT) : o.length ≤ 3 := of_decide_eq_true (List.all_eq_true.1 op_short o ho)
section
variable {l : List D} {i : Nat} {d c p0 p1 p2 : Int} {k : Int} {t : List UInt8} {a b e : Int}
end
end Go.Proofs.YtalibicpmfbieaaGreatDoor
