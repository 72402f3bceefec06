/- The reference's literals: values, digits, decimal, number, told exactly. -/
import Derived.Test.YtkjocbdjenmegaaDoorRefA
namespace Go.Proofs.YtkjocbdjenmegaaDoor
open Go.AE
set_option linter.unusedVariables false
theorem wrap_u8n (n : Int) : IntKind.u8.wrap n = n % 256 := by simp [IntKind.wrap, IntKind.bits, IntKind.signed]
theorem valN_at (c : UInt8) : (48 ≤ c.toNat ∧ c.toNat ≤ 57 ∧ valN c = c.toNat - 48) ∨ (97 ≤ c.toNat ∧ c.toNat ≤ 102 ∧ valN c = c.toNat - 87) ∨ (65 ≤ c.toNat ∧ c.toNat ≤ 70 ∧ valN c = c.toNat - 55) ∨ (¬ (48 ≤ c.toNat ∧ c.toNat ≤ 57) ∧ ¬ (97 ≤ c.toNat ∧ c.toNat ≤ 102) ∧ ¬ (65 ≤ c.toNat ∧ c.toNat ≤ 70) ∧ valN c = 16) := by
  unfold valN
  by_cases h1 : 48 ≤ c.toNat ∧ c.toNat ≤ 57
  · exact .inl ⟨h1.1, h1.2, by rw [decide_eq_true h1.1, decide_eq_true h1.2]; rfl⟩
  · have e1 : (decide (48 ≤ c.toNat) && decide (c.toNat ≤ 57)) = false := by simp; omega
    by_cases h2 : 97 ≤ c.toNat ∧ c.toNat ≤ 102
    · exact .inr (.inl ⟨h2.1, h2.2, by rw [e1, decide_eq_true h2.1, decide_eq_true h2.2]; rfl⟩)
    · have e2 : (decide (97 ≤ c.toNat) && decide (c.toNat ≤ 102)) = false := by simp; omega
      by_cases h3 : 65 ≤ c.toNat ∧ c.toNat ≤ 70
      · exact .inr (.inr (.inl ⟨h3.1, h3.2, by rw [e1, e2, decide_eq_true h3.1, decide_eq_true h3.2]; rfl⟩))
      · have e3 : (decide (65 ≤ c.toNat) && decide (c.toNat ≤ 70)) = false := by simp; omega
        exact .inr (.inr (.inr ⟨h1, h2, h3, by rw [e1, e2, e3]; rfl⟩))
theorem leafV {c : UInt8} {v : Int} (h : v = (valN c : Int)) : ((true, [D.int .i64 v]) : Bool × List D) = (true, [iD (valN c)]) := by rw [h]; rfl
def digE (b : Nat) (s : List UInt8) : Nat := match s with
  | [] => 6
  | c :: t => match digF b (c :: t) with
    | none => 5
    | some _ => 0
/-- What digits are left, the first one already read or not. -/
theorem digF_G {b : Nat} {s : List UInt8} {l : List Nat} (h : digF b s = some l) (hb : b ≤ 16) : digG b s = some l := by
  cases s with
  | nil => cases h
  | cons c t =>
    have hF : digF b (c :: t) = (bif decide (valN c < b) then (digG b t).map (valN c :: ·) else none) := rfl
    have hG : digG b (c :: t) = (bif ((c.toNat : Int) == 95) then digG b t else bif decide (valN c < b) then (digG b t).map (valN c :: ·) else none) := rfl
    rw [hF] at h
    rw [hG]
    have hv := valN_at c
    cases h95 : ((c.toNat : Int) == 95) with
    | false => exact h
    | true =>
      have h1 : c.toNat = 95 := by have := eq_of_beq h95; omega
      rw [decide_eq_false (by omega)] at h
      cases h
end Go.Proofs.YtkjocbdjenmegaaDoor
