/- Expressions that are alike but for places are the same; the law's source, read. -/
import Derived.Test.YtalibicpmfbieaaGreatDoorPxG
namespace Go.Proofs.YtalibicpmfbieaaGreatDoor
open Go.AE
set_option linter.unusedVariables false
set_option linter.unusedSimpArgs false
def Rl (R : D → D → Prop) (xs ys : List D) : Prop := xs.length = ys.length ∧ ∀ (i : Nat) (h : i < xs.length) (h' : i < ys.length), R xs[i] ys[i]
theorem Rl.refl {R : D → D → Prop} {xs : List D} (h : ∀ x ∈ xs, R x x) : Rl R xs xs := ⟨rfl, fun i hi _ => h _ (List.getElem_mem hi)⟩
end Go.Proofs.YtalibicpmfbieaaGreatDoor
