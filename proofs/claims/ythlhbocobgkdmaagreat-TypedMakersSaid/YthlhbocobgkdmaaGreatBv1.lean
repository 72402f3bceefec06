/- Bit vectors: vectors are numbers below a power of two: blank, cut, New, plus. -/
import Derived.Test.YthlhbocobgkdmaaGreatAe1
import Derived.Test.YthlhbocobgkdmaaGreatEng
namespace Go.Proofs.YthlhbocobgkdmaaGreat
open Go.AE
set_option linter.unusedVariables false
set_option linter.unusedSimpArgs false
def M64 : Nat := 18446744073709551616
def wd (x : Nat) : D := .int .u64 (x : Int)
/-- The words of a number. -/
def wordsN (w n : Nat) : List D := if w ≤ 64 then [wd n] else [wd (n % M64), wd (n / M64)]
def vec (w n : Nat) : D := .agg [.int .i64 (w : Int), .lst 1 (wordsN w n)]
theorem wordsN1 {w n : Nat} (h : w ≤ 64) : wordsN w n = [wd n] := if_pos h
theorem wordsN2 {w n : Nat} (h : 64 < w) : wordsN w n = [wd (n % M64), wd (n / M64)] := if_neg (by omega)
theorem pow_le64 {w : Nat} (h : w ≤ 64) : 2 ^ w ≤ M64 := Nat.pow_le_pow_right (by omega) h
theorem pow_split {w : Nat} (h : 64 < w) : 2 ^ w = M64 * 2 ^ (w - 64) := by
  have : w = 64 + (w - 64) := by omega
  rw [this, Nat.pow_add]
  have e : 64 + (w - 64) - 64 = w - 64 := by omega
  rw [e]; rfl
theorem lt_m64 {w n : Nat} (h : w ≤ 64) (hn : n < 2 ^ w) : n < M64 := Nat.lt_of_lt_of_le hn (pow_le64 h)
theorem div_lt {w n : Nat} (h : 64 < w) (hn : n < 2 ^ w) : n / M64 < 2 ^ (w - 64) := by
  rw [pow_split h] at hn
  exact Nat.div_lt_of_lt_mul hn
theorem div_lt64 {w n : Nat} (h : 64 < w) (h2 : w ≤ 128) (hn : n < 2 ^ w) : n / M64 < M64 := Nat.lt_of_lt_of_le (div_lt h hn) (pow_le64 (by omega))
theorem mod_m (n : Nat) : n % M64 < M64 := Nat.mod_lt _ (by decide)
theorem div_mod_m (n : Nat) : n = n % M64 + M64 * (n / M64) := (Nat.mod_add_div n M64).symm
theorem pow_dvd_m {k : Nat} (hk : k ≤ 64) : 2 ^ k ∣ M64 := by
  have h : 2 ^ k ∣ 2 ^ 64 := Nat.pow_dvd_pow 2 hk
  exact h
theorem wrap_u64_nat (x : Nat) : IntKind.u64.wrap (x : Int) = ((x % M64 : Nat) : Int) := by
  rw [IntKind.wrap_u64]; unfold M64; omega
theorem ofInt_toNat {x : Nat} (h : x < M64) : (BitVec.ofInt (IntKind.u64).bits (x : Int)).toNat = x := by
  rw [BitVec.toNat_ofInt]
  show ((x : Int) % ((2 ^ 64 : Nat) : Int)).toNat = x
  unfold M64 at h
  omega
theorem pow_int (r : Nat) : ((2 : Int) ^ r) = ((2 ^ r : Nat) : Int) := by simp
theorem mask_is {r : Nat} (hr : r ≤ 63) : IntKind.u64.wrap (IntKind.u64.wrap (1 * 2 ^ (min r (IntKind.u64).bits)) - 1) = ((2 ^ r - 1 : Nat) : Int) := by
  have hp : 2 ^ r < M64 := Nat.lt_of_le_of_lt (Nat.pow_le_pow_right (by omega) hr) (by decide)
  have h1 : 1 ≤ 2 ^ r := Nat.one_le_pow _ _ (by decide)
  have e : min r (IntKind.u64).bits = r := Nat.min_eq_left (by show r ≤ 64; omega)
  rw [e, Int.one_mul, pow_int, wrap_u64_nat, Nat.mod_eq_of_lt hp]
  have e2 : ((2 ^ r : Nat) : Int) - 1 = ((2 ^ r - 1 : Nat) : Int) := by omega
  rw [e2, wrap_u64_nat, Nat.mod_eq_of_lt (by omega)]
theorem and_mask {x r : Nat} (hx : x < M64) (hr : r ≤ 63) : IntKind.u64.wrap ((BitVec.ofInt (IntKind.u64).bits (x : Int) &&& BitVec.ofInt (IntKind.u64).bits (IntKind.u64.wrap (IntKind.u64.wrap (1 * 2 ^ (min r (IntKind.u64).bits)) - 1))).toNat : Int) = ((x % 2 ^ r : Nat) : Int) := by
  have hp : 2 ^ r < M64 := Nat.lt_of_le_of_lt (Nat.pow_le_pow_right (by omega) hr) (by decide)
  have h1 : 1 ≤ 2 ^ r := Nat.one_le_pow _ _ (by decide)
  rw [mask_is hr, BitVec.toNat_and, ofInt_toNat hx, ofInt_toNat (by omega), Nat.and_two_pow_sub_one_eq_mod, wrap_u64_nat, Nat.mod_eq_of_lt]
  exact Nat.lt_of_le_of_lt (Nat.mod_le _ _) hx
theorem count_is {w : Int} (h1 : 0 ≤ w) (h2 : w ≤ 1000) : Ev (fun n => bv_count n (.int .i64 w)) fun r => r = (true, [.int .i64 ((w + 63) / 64)]) := by
  refine Ev.eq (fun n => bv_count_eq n w) (Ev.ret ?_)
  have e1 : IntKind.i64.wrap (w + 64) = w + 64 := wrap_id (by omega) (by omega)
  have e2 : IntKind.i64.wrap (w + 64 - 1) = w + 63 := by rw [wrap_id (by omega) (by omega)]; omega
  have e3 : (w + 63).tdiv 64 = (w + 63) / 64 := Int.tdiv_eq_ediv_of_nonneg (by omega)
  rw [e1, e2, e3, wrap_id (by omega) (by omega)]
theorem words_zero {w : Nat} (h1 : 1 ≤ w) (h2 : w ≤ 128) : List.replicate (((w : Int) + 63) / 64).toNat (D.int .u64 0) = wordsN w 0 := by
  by_cases h : w ≤ 64
  · have : (((w : Int) + 63) / 64).toNat = 1 := by omega
    rw [this, wordsN1 h]; rfl
  · have : (((w : Int) + 63) / 64).toNat = 2 := by omega
    rw [this, wordsN2 (by omega)]; rfl
theorem words_len {w n : Nat} (h1 : 1 ≤ w) (h2 : w ≤ 128) : ((wordsN w n).length : Int) = ((w : Int) + 63) / 64 := by
  by_cases h : w ≤ 64
  · rw [wordsN1 h]; show (1 : Int) = _; omega
  · rw [wordsN2 (by omega)]; show (2 : Int) = _; omega
theorem blank_is {w : Nat} (h1 : 1 ≤ w) (h2 : w ≤ 128) : Ev (fun n => bv_blank n (.int .i64 (w : Int))) fun r => r = (true, [.int .i64 (w : Int), .lst 1 (wordsN w 0)]) := by
  refine Ev.eq (fun n => bv_blank_eq n _) (Ev.bindC (count_is (by omega) (by omega)) ?_)
  intro _ _ h; cases h
  refine ⟨rfl, Ev.yes rfl (Ev.yes (and_tt (and_tt (decide_eq_true (show (0 : Int) ≤ ((w : Int) + 63) / 64 by omega)) (decide_eq_true (Int.le_refl _))) (decide_eq_true (show ((w : Int) + 63) / 64 ≤ (maxLst : Int) by simp only [maxLst]; omega))) (Ev.ret ?_))⟩
  show (true, [D.int .i64 (w : Int), .lst 1 (List.replicate (((w : Int) + 63) / 64).toNat (D.int .u64 0))]) = _
  rw [words_zero h1 h2]
theorem mod2 {w lo hi : Nat} (h : 64 < w) (hl : lo < M64) : (lo + M64 * hi) % 2 ^ w = lo + M64 * (hi % 2 ^ (w - 64)) := by
  rw [pow_split h, Nat.mod_mul]
  have e1 : (lo + M64 * hi) % M64 = lo := by rw [Nat.add_mul_mod_self_left, Nat.mod_eq_of_lt hl]
  have e2 : (lo + M64 * hi) / M64 = hi := by rw [Nat.add_mul_div_left _ _ (by decide), Nat.div_eq_of_lt hl, Nat.zero_add]
  rw [e1, e2]
theorem words_two {w lo hi : Nat} (h : 64 < w) (hl : lo < M64) : wordsN w (lo + M64 * hi) = [wd lo, wd hi] := by
  rw [wordsN2 h]
  have e1 : (lo + M64 * hi) % M64 = lo := by rw [Nat.add_mul_mod_self_left, Nat.mod_eq_of_lt hl]
  have e2 : (lo + M64 * hi) / M64 = hi := by rw [Nat.add_mul_div_left _ _ (by decide), Nat.div_eq_of_lt hl, Nat.zero_add]
  rw [e1, e2]
theorem cut1_is {w x : Nat} (h1 : 1 ≤ w) (h2 : w ≤ 64) (hx : x < M64) : Ev (fun n => bv_Vec_cut n (.int .i64 (w : Int)) (.lst 1 [wd x])) fun r => r = (true, [.int .i64 (w : Int), .lst 1 (wordsN w (x % 2 ^ w))]) := by
  have e : (w : Int).tmod 64 = ((w % 64 : Nat) : Int) := by rw [Int.tmod_eq_emod_of_nonneg (by omega)]; omega
  refine Ev.eq (fun n => bv_Vec_cut_eq n _ _) ?_
  rw [e, wordsN1 h2]
  by_cases hw : w = 64
  · subst hw
    refine Ev.no rfl (Ev.ret ?_)
    rw [Nat.mod_eq_of_lt (show x < 2 ^ 64 from hx)]
  · have hm : w % 64 = w := Nat.mod_eq_of_lt (by omega)
    rw [hm]
    refine Ev.yes (by simp; omega) (Ev.yes rfl (Ev.yes rfl (Ev.no (decide_eq_false (by omega)) (Ev.yes rfl (Ev.ret ?_)))))
    show (true, [D.int .i64 (w : Int), .lst 1 [.int .u64 (IntKind.u64.wrap ((BitVec.ofInt (IntKind.u64).bits (x : Int) &&& BitVec.ofInt (IntKind.u64).bits (IntKind.u64.wrap (IntKind.u64.wrap (1 * 2 ^ (min w (IntKind.u64).bits)) - 1))).toNat : Int))]]) = _
    rw [and_mask hx (by omega)]; rfl
theorem cut2_is {w lo hi : Nat} (h1 : 64 < w) (h2 : w ≤ 128) (hl : lo < M64) (hh : hi < M64) : Ev (fun n => bv_Vec_cut n (.int .i64 (w : Int)) (.lst 1 [wd lo, wd hi])) fun r => r = (true, [.int .i64 (w : Int), .lst 1 (wordsN w ((lo + M64 * hi) % 2 ^ w))]) := by
  have e : (w : Int).tmod 64 = ((w % 64 : Nat) : Int) := by rw [Int.tmod_eq_emod_of_nonneg (by omega)]; omega
  rw [mod2 h1 hl, words_two h1 hl]
  refine Ev.eq (fun n => bv_Vec_cut_eq n _ _) ?_
  rw [e]
  by_cases hw : w = 128
  · subst hw
    refine Ev.no rfl (Ev.ret ?_)
    rw [Nat.mod_eq_of_lt (show hi < 2 ^ (128 - 64) from hh)]
  · have hm : w % 64 = w - 64 := by omega
    rw [hm]
    refine Ev.yes (by simp; omega) (Ev.yes rfl (Ev.yes rfl (Ev.no (decide_eq_false (by omega)) (Ev.yes rfl (Ev.ret ?_)))))
    show (true, [D.int .i64 (w : Int), .lst 1 [wd lo, .int .u64 (IntKind.u64.wrap ((BitVec.ofInt (IntKind.u64).bits (hi : Int) &&& BitVec.ofInt (IntKind.u64).bits (IntKind.u64.wrap (IntKind.u64.wrap (1 * 2 ^ (min (w - 64) (IntKind.u64).bits)) - 1))).toNat : Int))]]) = _
    rw [and_mask hh (by omega)]; rfl
theorem good_is {w : Nat} (h1 : 1 ≤ w) (h2 : w ≤ 128) : Ev (fun n => bv_good n (.int .i64 (w : Int))) fun r => r = (true, [.bool true]) := by
  refine Ev.eq (fun n => bv_good_eq n _) (Ev.yes (decide_eq_true (by omega)) (Ev.ret ?_))
  rw [decide_eq_true (show (w : Int) ≤ 128 by omega)]
theorem sum_ok {a b k : Nat} (hk : k ≤ 1) : (decide ((0 : Int) ≤ (a : Int)) && decide ((0 : Int) ≤ (b : Int)) && decide ((0 : Int) ≤ (k : Int)) && decide ((k : Int) ≤ 1)) = true := and_tt (and_tt (and_tt (decide_eq_true (by omega)) (decide_eq_true (by omega))) (decide_eq_true (by omega))) (decide_eq_true (by omega))
theorem sum_mod (a b k : Nat) : ((a : Int) + (b : Int) + (k : Int)) % 18446744073709551616 = (((a + b + k) % M64 : Nat) : Int) := by unfold M64; omega
theorem sum_div (a b k : Nat) : ((a : Int) + (b : Int) + (k : Int)) / 18446744073709551616 = (((a + b + k) / M64 : Nat) : Int) := by unfold M64; omega
theorem plus_is {w a b k : Nat} (h1 : 1 ≤ w) (h2 : w ≤ 128) (ha : a < 2 ^ w) (hb : b < 2 ^ w) (hk : k ≤ 1) : Ev (fun n => bv_plus n (vec w a) (vec w b) (.int .u64 (k : Int))) fun r => r = (true, [.int .i64 (w : Int), .lst 1 (wordsN w ((a + b + k) % 2 ^ w))]) := by
  refine Ev.eq (fun n => bv_plus_eq n _ _ _ _ _) (Ev.bindC (blank_is h1 h2) ?_)
  intro _ _ h; cases h
  refine ⟨rfl, Ev.yes rfl ?_⟩
  by_cases hw : w ≤ 64
  · rw [wordsN1 hw, wordsN1 hw, wordsN1 hw]
    have ha' := lt_m64 hw ha
    have hb' := lt_m64 hw hb
    refine Ev.bindL (Q := fun r => r = (false, [.int .u64 (((a + b + k) / M64 : Nat) : Int), .int .i64 1, .int .i64 1, .int .i64 (w : Int), .lst 1 [wd a], .int .i64 (w : Int), .lst 1 [wd b], .int .i64 0, .int .i64 (w : Int), .lst 1 [], .lst 1 [wd ((a + b + k) % M64)]])) ?_ (fun ds h => by cases h) fun ds h => ?_
    · refine Ev.eq (fun n => bv_plus_L0_eq n _ _ _ _ _ _ _ _ _ _ _) (Ev.yes rfl (Ev.yes rfl (Ev.yes rfl (Ev.yes rfl (Ev.yes rfl (Ev.yes (sum_ok hk) (Ev.yes rfl (Ev.eq (fun n => bv_plus_L0_eq n _ _ _ _ _ _ _ _ _ _ _) (Ev.no rfl (Ev.ret ?_))))))))))
      show (false, [D.int .u64 (((a : Int) + (b : Int) + (k : Int)) / 18446744073709551616), _, _, _, _, _, _, _, _, _, D.lst 1 [.int .u64 (((a : Int) + (b : Int) + (k : Int)) % 18446744073709551616)]]) = _
      rw [sum_mod, sum_div]; rfl
    · cases h
      refine Ev.yes rfl (Ev.bindC (cut1_is h1 hw (mod_m _)) ?_)
      intro _ _ h; cases h
      refine ⟨rfl, Ev.yes rfl (Ev.ret ?_)⟩
      show (true, [D.int .i64 (w : Int), .lst 1 (wordsN w ((a + b + k) % M64 % 2 ^ w))]) = _
      have : (a + b + k) % M64 % 2 ^ w = (a + b + k) % 2 ^ w := Nat.mod_mod_of_dvd _ (pow_dvd_m hw)
      rw [this]
  · have hw : 64 < w := by omega
    rw [wordsN2 hw, wordsN2 hw, wordsN2 hw]
    have c1 : (a % M64 + b % M64 + k) / M64 ≤ 1 := by
      have := mod_m a
      have := mod_m b
      unfold M64 at *; omega
    refine Ev.bindL (Q := fun r => ∃ k' : Int, r = (false, [.int .u64 k', .int .i64 2, .int .i64 2, .int .i64 (w : Int), .lst 1 [wd (a % M64), wd (a / M64)], .int .i64 (w : Int), .lst 1 [wd (b % M64), wd (b / M64)], .int .i64 0, .int .i64 (w : Int), .lst 1 [], .lst 1 [wd ((a % M64 + b % M64 + k) % M64), wd ((a / M64 + b / M64 + (a % M64 + b % M64 + k) / M64) % M64)]])) ?_ (fun ds h => by obtain ⟨_, h⟩ := h; cases h) fun ds h => ?_
    · refine Ev.eq (fun n => bv_plus_L0_eq n _ _ _ _ _ _ _ _ _ _ _) (Ev.yes rfl (Ev.yes rfl (Ev.yes rfl (Ev.yes rfl (Ev.yes rfl (Ev.yes (sum_ok hk) (Ev.yes rfl ?_)))))))
      show Ev (fun n => bv_plus_L0 n (.int .u64 ((((a % M64 : Nat) : Int) + ((b % M64 : Nat) : Int) + (k : Int)) / 18446744073709551616)) (.int .i64 2) (.int .i64 1) (.int .i64 (w : Int)) (.lst 1 [wd (a % M64), wd (a / M64)]) (.int .i64 (w : Int)) (.lst 1 [wd (b % M64), wd (b / M64)]) (.int .i64 0) (.int .i64 (w : Int)) (.lst 1 []) (.lst 1 [.int .u64 ((((a % M64 : Nat) : Int) + ((b % M64 : Nat) : Int) + (k : Int)) % 18446744073709551616), wd (0 / M64)])) _
      rw [sum_mod, sum_div]
      refine Ev.eq (fun n => bv_plus_L0_eq n _ _ _ _ _ _ _ _ _ _ _) (Ev.yes rfl (Ev.yes rfl (Ev.yes rfl (Ev.yes rfl (Ev.yes rfl (Ev.yes (sum_ok c1) (Ev.yes rfl (Ev.eq (fun n => bv_plus_L0_eq n _ _ _ _ _ _ _ _ _ _ _) (Ev.no rfl (Ev.ret ⟨(((a / M64 + b / M64 + (a % M64 + b % M64 + k) / M64) / M64 : Nat) : Int), ?_⟩))))))))))
      show (false, [D.int .u64 ((((a / M64 : Nat) : Int) + ((b / M64 : Nat) : Int) + (((a % M64 + b % M64 + k) / M64 : Nat) : Int)) / 18446744073709551616), _, _, _, _, _, _, _, _, _, D.lst 1 [wd ((a % M64 + b % M64 + k) % M64), .int .u64 ((((a / M64 : Nat) : Int) + ((b / M64 : Nat) : Int) + (((a % M64 + b % M64 + k) / M64 : Nat) : Int)) % 18446744073709551616)]]) = _
      rw [sum_mod, sum_div]; rfl
    · obtain ⟨k', h⟩ := h
      cases h
      refine Ev.yes rfl (Ev.bindC (cut2_is hw h2 (mod_m _) (mod_m _)) ?_)
      intro _ _ h; cases h
      refine ⟨rfl, Ev.yes rfl (Ev.ret ?_)⟩
      show (true, [D.int .i64 (w : Int), .lst 1 (wordsN w (((a % M64 + b % M64 + k) % M64 + M64 * ((a / M64 + b / M64 + (a % M64 + b % M64 + k) / M64) % M64)) % 2 ^ w))]) = _
      have e : ((a % M64 + b % M64 + k) % M64 + M64 * ((a / M64 + b / M64 + (a % M64 + b % M64 + k) / M64) % M64)) % 2 ^ w = (a + b + k) % 2 ^ w := by
        rw [mod2 hw (mod_m _), Nat.mod_mod_of_dvd _ (pow_dvd_m (show w - 64 ≤ 64 by omega)), ← mod2 hw (mod_m _)]
        congr 1
        have e1 := Nat.mod_add_div (a % M64 + b % M64 + k) M64
        have e2 := div_mod_m a
        have e3 := div_mod_m b
        rw [Nat.mul_add, Nat.mul_add]
        omega
      rw [e]
end Go.Proofs.YthlhbocobgkdmaaGreat
