/- Words: a sign is known by its own bytes. -/
import Derived.Test.YtalibicpmfbieaaGreatDoorLexSign
namespace Go.Proofs.YtalibicpmfbieaaGreatDoor
open Go.AE
set_option linter.unusedVariables false
set_option linter.unusedSimpArgs false
theorem signDown_one (s : List UInt8) : ∀ j, signDown s j ≠ 1 ∧ signDown s j ≤ j
  | 0 => ⟨by simp [signDown], by simp [signDown]⟩
  | 1 => ⟨by simp [signDown], by simp [signDown]⟩
  | j + 2 => by
    have ih := signDown_one s (j + 1)
    unfold signDown
    cases longB (s.take (j + 2)) with
    | true => exact ⟨by simp, by simp⟩
    | false => exact ⟨ih.1, by have := ih.2; show signDown s (j + 1) ≤ j + 2; omega⟩
theorem signF_one {a : UInt8} {r0 r : List UInt8} (h : signF (a :: r0) = 1) (hr : Gap r) : signF (a :: r) = 1 := by
  have h1 : oneB a = true := by
    unfold signF at h
    have := signDown_one (a :: r0) (min 3 (a :: r0).length)
    cases hd : signDown (a :: r0) (min 3 (a :: r0).length) with
    | zero =>
      rw [hd] at h
      cases ho : oneB a with
      | true => rfl
      | false => simp [ho] at h
    | succ k =>
      rw [hd] at h this
      have h : k + 1 = 1 := h
      exact absurd h this.1
  have hd : signDown (a :: r) (min 3 (a :: r).length) = 0 := by
    cases r with
    | nil => rfl
    | cons x r =>
      have hx := hr x r rfl
      have e2 : longB [a, x] = false := longB_blank (b := x) (by simp) hx
      cases r with
      | nil =>
        show (bif longB [a, x] then 2 else 0) = 0
        rw [e2]; rfl
      | cons y r =>
        have e3 : longB [a, x, y] = false := longB_blank (b := x) (by simp) hx
        have : min 3 (a :: x :: y :: r).length = 3 := by simp only [List.length_cons]; omega
        rw [this]
        show (bif longB [a, x, y] then 3 else (bif longB [a, x] then 2 else 0)) = 0
        rw [e3, e2]; rfl
  unfold signF
  rw [hd]
  simp [h1]
theorem signF_two {a b : UInt8} {r0 r : List UInt8} (h : signF (a :: b :: r0) = 2) (hr : Gap r) : signF (a :: b :: r) = 2 := by
  have hl : longB [a, b] = true := by
    cases ho : longB [a, b] with
    | true => rfl
    | false =>
      exfalso
      unfold signF at h
      cases r0 with
      | nil =>
        have e : signDown [a, b] (min 3 [a, b].length) = 0 := by
          show (bif longB [a, b] then 2 else 0) = 0
          rw [ho]; rfl
        rw [e] at h
        have h : (bif oneB a then 1 else 0) = 2 := h
        revert h; cases oneB a <;> decide
      | cons c r0 =>
        have hm : min 3 (a :: b :: c :: r0).length = 3 := by simp only [List.length_cons]; omega
        have e : signDown (a :: b :: c :: r0) 3 = (bif longB [a, b, c] then 3 else (bif longB [a, b] then 2 else 0)) := rfl
        rw [hm, e, ho] at h
        cases h3 : longB [a, b, c] with
        | true => rw [h3] at h; exact absurd (show 3 = 2 from h) (by decide)
        | false =>
          rw [h3] at h
          have h : (bif oneB a then 1 else 0) = 2 := h
          revert h; cases oneB a <;> decide
  unfold signF
  cases r with
  | nil =>
    have e : signDown [a, b] (min 3 [a, b].length) = 2 := by
      show (bif longB [a, b] then 2 else 0) = 2
      rw [hl]; rfl
    rw [e]
  | cons x r =>
    have hm : min 3 (a :: b :: x :: r).length = 3 := by simp only [List.length_cons]; omega
    have e : signDown (a :: b :: x :: r) 3 = (bif longB [a, b, x] then 3 else (bif longB [a, b] then 2 else 0)) := rfl
    rw [hm, e, hl, longB_blank (t := [a, b, x]) (b := x) (by simp) (hr x r rfl)]
    rfl
theorem signF_three {a b c : UInt8} {r0 r : List UInt8} (h : signF (a :: b :: c :: r0) = 3) : signF (a :: b :: c :: r) = 3 := by
  have hm : ∀ t : List UInt8, min 3 (a :: b :: c :: t).length = 3 := fun t => by simp only [List.length_cons]; omega
  have e : ∀ t : List UInt8, signDown (a :: b :: c :: t) 3 = (bif longB [a, b, c] then 3 else (bif longB [a, b] then 2 else 0)) := fun _ => rfl
  unfold signF at h ⊢
  rw [hm, e] at h ⊢
  exact h
end Go.Proofs.YtalibicpmfbieaaGreatDoor
