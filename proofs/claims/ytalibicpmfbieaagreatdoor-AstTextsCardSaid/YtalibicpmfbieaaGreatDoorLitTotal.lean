/- Numbers as they are written: every function returns, and vectors are well formed. -/
import Derived.Test.YtalibicpmfbieaaGreatDoorAe1
import Derived.Test.YtalibicpmfbieaaGreatDoorAe2
import Derived.Test.YtalibicpmfbieaaGreatDoorEng
namespace Go.Proofs.YtalibicpmfbieaaGreatDoor
open Go.AE
set_option linter.unusedVariables false
set_option linter.unusedSimpArgs false
def U64s (ws : List D) : Prop := ∀ y ∈ ws, ∃ i : Int, y = .int .u64 i ∧ 0 ≤ i ∧ i < 18446744073709551616
/-- A vector: its width and its words. -/
def Vec (w : Int) (ws : List D) : Prop := 1 ≤ w ∧ w ≤ 128 ∧ (ws.length : Int) = (w + 63) / 64 ∧ U64s ws
theorem U64s.set {ws : List D} (h : U64s ws) {i : Nat} {x : Int} (hx : 0 ≤ x) (hx2 : x < 18446744073709551616) : U64s (ws.set i (.int .u64 x)) := fun y hy => by
  rcases List.mem_or_eq_of_mem_set hy with hy | rfl
  · exact h y hy
  · exact ⟨x, rfl, hx, hx2⟩
theorem U64s.append {a b : List D} (ha : U64s a) (hb : U64s b) : U64s (a ++ b) := fun y hy => by
  rcases List.mem_append.1 hy with hy | hy
  · exact ha y hy
  · exact hb y hy
end Go.Proofs.YtalibicpmfbieaaGreatDoor
