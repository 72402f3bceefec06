/- The reference's vectors: lists of bits. -/
import Derived.Test.YtkjocbdjenmegaaDoorLitC
namespace Go.Proofs.YtkjocbdjenmegaaDoor
open Go.AE
set_option linter.unusedVariables false
theorem bitsD_mod (w n : Nat) : bitsD w (n % 2 ^ w) = bitsD w n := by
  apply List.ext_getElem?
  intro i
  by_cases h : i < w
  · rw [bitsD_get h, bitsD_get h, Nat.testBit_mod_two_pow, decide_eq_true h, Bool.true_and]
  · rw [List.getElem?_eq_none (by rw [bitsD_len]; omega), List.getElem?_eq_none (by rw [bitsD_len]; omega)]
theorem bitsD_zero (w : Nat) : List.replicate w (D.bool false) = bitsD w 0 := by
  apply List.ext_getElem?
  intro i
  by_cases h : i < w
  · rw [bitsD_get h, List.getElem?_replicate, if_pos h, Nat.zero_testBit]
  · rw [List.getElem?_eq_none (by simp; omega), List.getElem?_eq_none (by rw [bitsD_len]; omega)]
theorem bitsD_ext {w n : Nat} {out : List D} (hl : out.length = w) (h : ∀ i, i < w → out[i]? = some (.bool (n.testBit i))) : out = bitsD w n := by
  apply List.ext_getElem?
  intro i
  by_cases hi : i < w
  · rw [h i hi, bitsD_get hi]
  · rw [List.getElem?_eq_none (by omega), List.getElem?_eq_none (by rw [bitsD_len]; omega)]
theorem bitsD_at {w n i : Nat} (h : i < w) : (bitsD w n)[((i : Nat) : Int).toNat]?.getD D.top = .bool (n.testBit i) := by
  rw [Int.toNat_natCast, bitsD_get h]; rfl
theorem set_get {out : List D} {j i : Nat} {v : D} (hj : j < out.length) : (out.set j v)[i]? = if j = i then some v else out[i]? := by
  rw [List.getElem?_set]
  by_cases e : j = i
  · rw [if_pos e, if_pos e, if_pos (by omega)]
  · rw [if_neg e, if_neg e]
def maj (x y c : Bool) : Bool := (x && y) || (x && c) || (y && c)
def carryB (a b c i : Nat) : Bool := decide (2 ^ i ≤ a % 2 ^ i + b % 2 ^ i + c)
theorem mod_next (a i : Nat) : a % 2 ^ (i + 1) = a % 2 ^ i + 2 ^ i * (a.testBit i).toNat := by
  rw [Nat.testBit_eq_decide_div_mod_eq, Nat.pow_succ, Nat.mod_mul]
  have h : a / 2 ^ i % 2 = 0 ∨ a / 2 ^ i % 2 = 1 := by omega
  rcases h with h | h <;> rw [h] <;> rfl
theorem carry_zero (a b : Nat) (c : Bool) : carryB a b c.toNat 0 = c := by
  unfold carryB
  rw [Nat.pow_zero, Nat.mod_one, Nat.mod_one]
  cases c <;> rfl
theorem carry_next {a b c i : Nat} (hc : c ≤ 1) : carryB a b c (i + 1) = maj (a.testBit i) (b.testBit i) (carryB a b c i) := by
  unfold carryB
  have h1 := Nat.mod_lt a (two_pos i)
  have h2 := Nat.mod_lt b (two_pos i)
  rw [mod_next, mod_next, Nat.pow_succ]
  generalize 2 ^ i = p at *
  by_cases h : p ≤ a % p + b % p + c
  · rw [decide_eq_true h]
    cases a.testBit i <;> cases b.testBit i
    · exact decide_eq_false (by simp; omega)
    · exact decide_eq_true (by simp; omega)
    · exact decide_eq_true (by simp; omega)
    · exact decide_eq_true (by simp; omega)
  · rw [decide_eq_false h]
    cases a.testBit i <;> cases b.testBit i
    · exact decide_eq_false (by simp; omega)
    · exact decide_eq_false (by simp; omega)
    · exact decide_eq_false (by simp; omega)
    · exact decide_eq_true (by simp; omega)
theorem sum_bit {a b c i : Nat} (hc : c ≤ 1) : (a + b + c).testBit i = (!((!(a.testBit i == b.testBit i)) == carryB a b c i)) := by
  have ha := Nat.mod_add_div a (2 ^ i)
  have hb := Nat.mod_add_div b (2 ^ i)
  have h1 := Nat.mod_lt a (two_pos i)
  have h2 := Nat.mod_lt b (two_pos i)
  have hp := two_pos i
  rw [Nat.testBit_eq_decide_div_mod_eq, Nat.testBit_eq_decide_div_mod_eq, Nat.testBit_eq_decide_div_mod_eq]
  unfold carryB
  have hsum : a + b + c = (a % 2 ^ i + b % 2 ^ i + c) + 2 ^ i * (a / 2 ^ i + b / 2 ^ i) := by
    rw [Nat.mul_add]; omega
  have hd : (a + b + c) / 2 ^ i = (a % 2 ^ i + b % 2 ^ i + c) / 2 ^ i + (a / 2 ^ i + b / 2 ^ i) := by
    rw [hsum, Nat.add_mul_div_left _ _ hp]
  have hl : (a % 2 ^ i + b % 2 ^ i + c) / 2 ^ i = if 2 ^ i ≤ a % 2 ^ i + b % 2 ^ i + c then 1 else 0 := by
    by_cases h : 2 ^ i ≤ a % 2 ^ i + b % 2 ^ i + c
    · rw [if_pos h]
      exact Nat.div_eq_of_lt_le (by omega) (by omega)
    · rw [if_neg h]
      exact Nat.div_eq_of_lt (by omega)
  rw [hd, hl]
  generalize a / 2 ^ i = x
  generalize b / 2 ^ i = y
  have hx : x % 2 = 0 ∨ x % 2 = 1 := by omega
  have hy : y % 2 = 0 ∨ y % 2 = 1 := by omega
  by_cases h : 2 ^ i ≤ a % 2 ^ i + b % 2 ^ i + c
  · rw [if_pos h, decide_eq_true h]
    rcases hx with hx | hx <;> rcases hy with hy | hy <;> rw [hx, hy]
    · exact decide_eq_true (by omega)
    · exact decide_eq_false (by omega)
    · exact decide_eq_false (by omega)
    · exact decide_eq_true (by omega)
  · rw [if_neg h, decide_eq_false h]
    rcases hx with hx | hx <;> rcases hy with hy | hy <;> rw [hx, hy]
    · exact decide_eq_false (by omega)
    · exact decide_eq_true (by omega)
    · exact decide_eq_true (by omega)
    · exact decide_eq_false (by omega)
theorem shr_bit (n i : Nat) : n / 2 ^ i = 2 * (n / 2 ^ (i + 1)) + (n.testBit i).toNat := by
  rw [Nat.testBit_eq_decide_div_mod_eq, Nat.pow_succ, ← Nat.div_div_eq_div_mul]
  have h : n / 2 ^ i % 2 = 0 ∨ n / 2 ^ i % 2 = 1 := by omega
  rcases h with h | h <;> rw [h] <;> simp <;> omega
theorem div_le_of (n i m : Nat) (h : m < n / 2 ^ i) : m < n := Nat.lt_of_lt_of_le h (Nat.div_le_self _ _)
theorem bitsD_plain (w n : Nat) : (bitsD w n).all plainD = true := List.all_eq_true.2 fun y hy => by
  simp only [bitsD, List.mem_map] at hy
  obtain ⟨i, _, rfl⟩ := hy
  rfl
end Go.Proofs.YtkjocbdjenmegaaDoor
