/- Words: a number is known by its own bytes. -/
import Derived.Test.YtalibicpmfbieaaGreatDoorLexStable
namespace Go.Proofs.YtalibicpmfbieaaGreatDoor
open Go.AE
set_option linter.unusedVariables false
set_option linter.unusedSimpArgs false
theorem spanN_lt {p : UInt8 → Bool} : ∀ {w r0 r : List UInt8}, spanN p (w ++ r0) < w.length → spanN p (w ++ r) = spanN p (w ++ r0)
  | [], _, _, h => by simp at h
  | c :: w, r0, r, h => by
    rw [List.cons_append, spanN_cons] at h
    rw [List.cons_append, List.cons_append, spanN_cons, spanN_cons]
    cases hc : p c with
    | false => rfl
    | true =>
      rw [hc] at h
      have h : spanN p (w ++ r0) + 1 < w.length + 1 := h
      rw [spanN_lt (w := w) (r0 := r0) (r := r) (by omega)]
theorem numF_stable {w r0 r : List UInt8} (h : numF (w ++ r0) = w.length) (hr : Gap r) : numF (w ++ r) = w.length := by
  unfold numF at h
  by_cases hw : w.length ≤ spanN p3 (w ++ r0)
  · have ha := spanN_all hw
    have hs : spanN p3 (w ++ r) = w.length := by rw [spanN_app ha, gap_p blank_p3 hr]; omega
    unfold numF
    rw [hs, List.drop_left]
    cases r with
    | nil => rfl
    | cons b t =>
      have : ((b.toNat : Int) == 39) = false := by rcases blankB_cases (hr b t rfl) with rfl | rfl | rfl | rfl <;> rfl
      simp only [this, cond_false]
  · have hs := spanN_lt (r := r) (show spanN p3 (w ++ r0) < w.length by omega)
    unfold numF
    rw [hs]
    generalize spanN p3 (w ++ r0) = k at h hw
    have hk : k < w.length := by omega
    have hd : ∀ x : List UInt8, (w ++ x).drop k = w[k] :: (w.drop (k + 1) ++ x) := fun x => by
      rw [List.drop_append_of_le_length (by omega), drop_cons hk]; rfl
    rw [hd] at h ⊢
    cases hq : ((w[k].toNat : Int) == 39) with
    | false => simp only [hq, cond_false] at h; omega
    | true =>
      simp only [hq, cond_true] at h ⊢
      have hl : (w.drop (k + 1)).length = w.length - (k + 1) := List.length_drop ..
      have ha := spanN_all (p := p4) (w := w.drop (k + 1)) (r := r0) (by omega)
      rw [spanN_app ha, gap_p blank_p4 hr]
      omega
end Go.Proofs.YtalibicpmfbieaaGreatDoor
