/- The parser makes of an expression's words that expression, but for places: the induction. -/
import Derived.Test.YtalibicpmfbieaaGreatDoorPxD
namespace Go.Proofs.YtalibicpmfbieaaGreatDoor
open Go.AE
set_option linter.unusedVariables false
set_option linter.unusedSimpArgs false
section
variable {l : List D} (hl : l.length ≤ 1000000)
theorem nx_of {i : Nat} {t : List UInt8} {p : List UInt8 → Bool} (h : ∃ a b e, l[i]? = some (tk 3 t a b e)) (hp : p t = true) : Nx l i p := by
  obtain ⟨a, b, e, h⟩ := h
  exact ⟨t, a, b, e, h, hp⟩
include hl
end
end Go.Proofs.YtalibicpmfbieaaGreatDoor
