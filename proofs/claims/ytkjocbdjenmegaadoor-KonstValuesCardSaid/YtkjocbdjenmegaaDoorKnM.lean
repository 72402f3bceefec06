/- Konst: trees with places: Placed, OwnExpr, Env; every tree evaluates alike. -/
import Derived.Test.YtkjocbdjenmegaaDoorKnL
namespace Go.Proofs.YtkjocbdjenmegaaDoor
open Go.AE
set_option linter.unusedVariables false
def wfK : Nat → D → Prop
  | 0, _ => False
  | n + 1, x => ∃ (k a b c : Int) (t : List UInt8) (xs : List D), x = exD k a b c t xs ∧ shapeE k t xs.length ∧ ∀ y ∈ xs, wfK n y
theorem wfK_of : ∀ {d : Nat} {x : D}, wfE d x → wfK d x
  | d + 1, x, h => by
    obtain ⟨k, t, xs, rfl, hs, hy⟩ := h
    exact ⟨k, 0, 0, 0, t, xs, rfl, hs, fun y hm => wfK_of (hy y hm)⟩
theorem shapeE_len {k : Int} {t : List UInt8} {m : Nat} (h : shapeE k t m) : m ≤ 3 := by
  unfold shapeE at h
  rcases h with ⟨_, _, h⟩ | ⟨_, _, h⟩ | ⟨_, _, h⟩ | ⟨_, _, h⟩ | ⟨_, _, h⟩ | ⟨_, _, _, h⟩ | ⟨_, _, _, h⟩ | ⟨_, _, h⟩ | ⟨_, _, h⟩ | ⟨_, _, _, h⟩ <;> omega
theorem wfX_of : ∀ {d : Nat} {x : D}, wfK d x → wfX d x
  | d + 1, x, h => by
    obtain ⟨k, a, b, c, t, xs, rfl, hs, hy⟩ := h
    have := shapeE_len hs
    exact ⟨k, a, b, c, t, xs, rfl, by omega, fun y hm => wfX_of (hy y hm)⟩
theorem wfK_isE {d : Nat} {x : D} (h : wfK d x) : IsE x := by
  cases d with
  | zero => exact h.elim
  | succ d => obtain ⟨k, a, b, c, t, xs, rfl, _⟩ := h; exact ⟨k, a, b, c, t, xs, rfl⟩
theorem isE_ok {x : D} (h : IsE x) : (notAny ty_iiiisl6 && okTy ty_iiiisl6 x) = true ∧ expTy ty_iiiisl6 x = x := by
  obtain ⟨k, a, b, c, t, xs, rfl⟩ := h
  exact ⟨rfl, rfl⟩
theorem num_table : ∀ t ∈ numT, ∃ (w n : Nat) (sg sz : Bool) (v : Int), parseF t = .ok w n sg sz ∧ intF w n sg = (v, 0) ∧ InR v ∧ t.length ≤ 100 := by
  intro t ht
  simp only [numT, List.mem_cons, List.not_mem_nil, or_false] at ht
  rcases ht with rfl | rfl | rfl | rfl | rfl | rfl | rfl | rfl
  · exact ⟨32, 0, true, false, 0, rfl, rfl, ⟨by decide, by decide⟩, by decide⟩
  · exact ⟨32, 1, true, false, 1, rfl, rfl, ⟨by decide, by decide⟩, by decide⟩
  · exact ⟨32, 2, true, false, 2, rfl, rfl, ⟨by decide, by decide⟩, by decide⟩
  · exact ⟨32, 7, true, false, 7, rfl, rfl, ⟨by decide, by decide⟩, by decide⟩
  · exact ⟨4, 10, false, true, 10, rfl, rfl, ⟨by decide, by decide⟩, by decide⟩
  · exact ⟨8, 255, false, true, 255, rfl, rfl, ⟨by decide, by decide⟩, by decide⟩
  · exact ⟨3, 2, true, true, 2, rfl, rfl, ⟨by decide, by decide⟩, by decide⟩
  · exact ⟨32, 10, true, false, 10, rfl, rfl, ⟨by decide, by decide⟩, by decide⟩
/-- Environments, the program's and the reference's. -/
structure EnvOk (lo lr : Env0) : Prop where
  szo : lo.length ≤ 1048576
  szr : lr.length ≤ 1048576
  rng : ∀ q ∈ lr, InR q.2
  look : ∀ t, lookF t lo = lookB t lr
end Go.Proofs.YtkjocbdjenmegaaDoor
