/- Konst: the reference's bits are two's complement. -/
import Derived.Test.YtkjocbdjenmegaaDoorKnA
namespace Go.Proofs.YtkjocbdjenmegaaDoor
open Go.AE
set_option linter.unusedVariables false
def bitL : Nat → Int → List Bool
  | 0, _ => []
  | k + 1, a => (a % 2 == 1) :: bitL k (a / 2)
theorem bitL_len : ∀ (k : Nat) (a : Int), (bitL k a).length = k
  | 0, _ => rfl
  | k + 1, a => by show (bitL k (a / 2)).length + 1 = k + 1; rw [bitL_len k]
theorem set_at {α : Type} (x y : α) (t : List α) : ∀ pre : List α, (pre ++ x :: t).set pre.length y = pre ++ y :: t
  | [] => rfl
  | p :: pre => by
    show p :: (pre ++ x :: t).set pre.length y = p :: (pre ++ y :: t)
    rw [set_at x y t pre]
theorem half_neg {a : Int} (h : a.tmod 2 < 0) : a % 2 = 1 ∧ (a - 1).tdiv 2 = a / 2 := by
  have hn : a < 0 := by
    rcases Int.lt_or_le a 0 with h0 | h0
    · exact h0
    · have := Int.tmod_nonneg 2 h0; omega
  obtain ⟨b, rfl⟩ : ∃ b : Int, a = -b := ⟨-a, by omega⟩
  rw [Int.neg_tmod, Int.tmod_eq_emod_of_nonneg (by omega)] at h
  have e : (-b - 1).tdiv 2 = -((b + 1) / 2) := by
    rw [show -b - 1 = -(b + 1) by omega, Int.neg_tdiv, Int.tdiv_eq_ediv_of_nonneg (by omega)]
  rw [e]
  omega
theorem half_pos {a : Int} (h : ¬ a.tmod 2 < 0) : (a.tmod 2 == 1) = (a % 2 == 1) ∧ (a - a.tmod 2).tdiv 2 = a / 2 := by
  rcases Int.lt_or_le a 0 with h0 | h0
  · obtain ⟨b, rfl⟩ : ∃ b : Int, a = -b := ⟨-a, by omega⟩
    rw [Int.neg_tmod, Int.tmod_eq_emod_of_nonneg (by omega)] at h ⊢
    have hb : b % 2 = 0 := by omega
    have e : (-b - -(b % 2)).tdiv 2 = -(b / 2) := by
      rw [hb, show -b - -(0 : Int) = -b by omega, Int.neg_tdiv, Int.tdiv_eq_ediv_of_nonneg (by omega)]
    rw [e, hb]
    have : -b % 2 = 0 := by omega
    rw [this]
    exact ⟨rfl, by omega⟩
  · rw [Int.tmod_eq_emod_of_nonneg h0, Int.tdiv_eq_ediv_of_nonneg (by omega)]
    exact ⟨rfl, by omega⟩
theorem numB_take (l : List Bool) {k : Nat} (h : k < l.length) : numB (l.take (k + 1)) = numB (l.take k) + (l[k]).toNat * 2 ^ k := by
  have e : l.take (k + 1) = l.take k ++ [l[k]] := by rw [List.take_succ_eq_append_getElem h]
  rw [e, numB_snoc, List.length_take, Nat.min_eq_left (by omega)]
theorem mod_half (a : Int) {m : Int} (hm : 0 < m) : a % (2 * m) = a % 2 + 2 * (a / 2 % m) := by
  have h1 : a = 2 * (a / 2) + a % 2 := by omega
  have h2 : a / 2 = m * (a / 2 / m) + a / 2 % m := (Int.mul_ediv_add_emod (a / 2) m).symm
  have h3 := Int.emod_nonneg (a / 2) (show m ≠ 0 by omega)
  have h4 := Int.emod_lt_of_pos (a / 2) hm
  have h5 : a = a % 2 + 2 * (a / 2 % m) + (a / 2 / m) * (2 * m) := by
    have : (a / 2 / m) * (2 * m) = 2 * (m * (a / 2 / m)) := by rw [Int.mul_left_comm, Int.mul_comm (a / 2 / m) m]
    omega
  have h6 : (a % 2 + 2 * (a / 2 % m) + (a / 2 / m) * (2 * m)) % (2 * m) = (a % 2 + 2 * (a / 2 % m)) % (2 * m) := Int.add_mul_emod_self_right _ _ _
  rw [← h5] at h6
  rw [h6]
  exact Int.emod_eq_of_lt (by omega) (by omega)
theorem numB_bitL : ∀ (k : Nat) (a : Int), (numB (bitL k a) : Int) = a % ((2 ^ k : Nat) : Int)
  | 0, a => by show ((0 : Nat) : Int) = a % 1; omega
  | k + 1, a => by
    have ih := numB_bitL k (a / 2)
    have e : ((2 ^ (k + 1) : Nat) : Int) = 2 * ((2 ^ k : Nat) : Int) := by rw [Nat.pow_succ]; omega
    have hp := Nat.two_pow_pos k
    rw [e, mod_half a (by omega), ← ih]
    show ((numB ((a % 2 == 1) :: bitL k (a / 2)) : Nat) : Int) = _
    have hn : numB ((a % 2 == 1) :: bitL k (a / 2)) = (a % 2 == 1).toNat + 2 * numB (bitL k (a / 2)) := rfl
    rw [hn]
    have : ((a % 2 == 1).toNat : Int) = a % 2 := by
      rcases (show a % 2 = 0 ∨ a % 2 = 1 by omega) with h | h <;> rw [h] <;> rfl
    omega
theorem ofInt_bits (a : Int) (i : Nat) : (BitVec.ofInt 33 a).getLsbD i = (bitL 33 a).getD i false := by
  rw [← numB_bit, BitVec.getLsbD]
  have : (BitVec.ofInt 33 a).toNat = numB (bitL 33 a) := by
    have h := numB_bitL 33 a
    rw [BitVec.toNat_ofInt]
    omega
  rw [this]
/-- The sign told by the last of 33 bits. -/
theorem toInt_bits {l : List Bool} (hl : l.length = 33) {x : BitVec 33} (hx : ∀ i, i < 33 → x.getLsbD i = l.getD i false) : (numB (l.take 32) : Int) - (bif l.getD 32 false then 4294967296 else 0) = x.toInt := by
  have hn : x.toNat = numB l := by
    refine Nat.eq_of_testBit_eq fun i => ?_
    rw [numB_bit]
    by_cases hi : i < 33
    · rw [← hx i hi]; rfl
    · rw [List.getD_eq_getElem?_getD, List.getElem?_eq_none (by omega)]
      exact BitVec.getLsbD_of_ge x i (by omega)
  have h1 := numB_take l (k := 32) (by omega)
  have h2 : l.take (32 + 1) = l := List.take_of_length_le (by omega)
  rw [h2] at h1
  have hlt := numB_lt (l.take 32)
  rw [List.length_take, hl] at hlt
  have h3 : l.getD 32 false = l[32] := by rw [List.getD_eq_getElem?_getD, List.getElem?_eq_getElem (by omega)]; rfl
  rw [h3, BitVec.toInt_eq_toNat_cond, hn, h1]
  have hlt : numB (l.take 32) < 4294967296 := hlt
  cases l[32] with
  | false =>
    have e1 : (false.toNat * 2 ^ 32 : Nat) = 0 := rfl
    rw [e1]
    simp only [cond_false]
    rw [if_pos (by omega)]; omega
  | true =>
    have e1 : (true.toNat * 2 ^ 32 : Nat) = 4294967296 := rfl
    have e2 : ((2 ^ 33 : Nat) : Int) = 8589934592 := rfl
    rw [e1, e2]
    simp only [cond_true]
    rw [if_neg (by omega)]; omega
end Go.Proofs.YtkjocbdjenmegaaDoor
