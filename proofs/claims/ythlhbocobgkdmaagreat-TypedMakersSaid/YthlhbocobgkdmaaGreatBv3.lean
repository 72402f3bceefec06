/- Bit vectors: complement, negative, single bits, the number that it is, of bits. -/
import Derived.Test.YthlhbocobgkdmaaGreatBv2
namespace Go.Proofs.YthlhbocobgkdmaaGreat
open Go.AE
set_option linter.unusedVariables false
set_option linter.unusedSimpArgs false
theorem not_words {x : Nat} (hx : x < M64) : IntKind.u64.wrap ((BitVec.ofInt (IntKind.u64).bits (if (IntKind.u64).signed then -1 else (IntKind.u64).max) ^^^ BitVec.ofInt (IntKind.u64).bits (x : Int)).toNat : Int) = ((M64 - 1 - x : Nat) : Int) := by
  have e : (if (IntKind.u64).signed then -1 else (IntKind.u64).max) = ((M64 - 1 : Nat) : Int) := by decide
  rw [e]
  have e2 : (BitVec.ofInt (IntKind.u64).bits ((M64 - 1 : Nat) : Int) ^^^ BitVec.ofInt (IntKind.u64).bits (x : Int)).toNat = M64 - 1 - x := by
    show (BitVec.ofInt 64 ((M64 - 1 : Nat) : Int) ^^^ BitVec.ofInt 64 (x : Int)).toNat = M64 - 1 - x
    have e3 : BitVec.ofInt 64 ((M64 - 1 : Nat) : Int) = BitVec.allOnes 64 := by decide
    rw [e3, BitVec.allOnes_xor, BitVec.toNat_not]
    have this : (BitVec.ofInt 64 (x : Int)).toNat = x := ofInt_toNat hx
    rw [this]; rfl
  rw [e2, wrap_u64_nat, Nat.mod_eq_of_lt (by unfold M64 at *; omega)]
theorem top_mod {w a : Nat} (hw : w ≤ 64) (ha : a < 2 ^ w) : (M64 - 1 - a) % 2 ^ w = 2 ^ w - 1 - a := by
  obtain ⟨q, hq⟩ := pow_dvd_m hw
  cases q with
  | zero => unfold M64 at hq; omega
  | succ q =>
    rw [Nat.mul_succ] at hq
    have : M64 - 1 - a = (2 ^ w - 1 - a) + 2 ^ w * q := by omega
    rw [this, Nat.add_mul_mod_self_left, Nat.mod_eq_of_lt (by omega)]
theorem not_is {w a : Nat} (h1 : 1 ≤ w) (h2 : w ≤ 128) (ha : a < 2 ^ w) : Ev (fun n => bv_not n (vec w a)) fun r => r = (true, [.int .i64 (w : Int), .lst 1 (wordsN w (2 ^ w - 1 - a))]) := by
  refine Ev.eq (fun n => bv_not_eq n _ _) (Ev.bindC (blank_is h1 h2) ?_)
  intro _ _ h; cases h
  refine ⟨rfl, Ev.yes rfl ?_⟩
  by_cases hw : w ≤ 64
  · rw [wordsN1 hw, wordsN1 hw]
    have ha' := lt_m64 hw ha
    refine Ev.bindL (Q := fun r => r = (false, [.lst 1 [wd a], .int .i64 1, .int .i64 1, .int .i64 0, .int .i64 (w : Int), .lst 1 [], .lst 1 [wd (M64 - 1 - a)]])) ?_ (fun ds h => by cases h) fun ds h => ?_
    · refine Ev.eq (fun n => bv_not_L0_eq n _ _ _ _ _ _ _) (Ev.yes rfl (Ev.yes rfl (Ev.yes rfl (Ev.yes rfl (Ev.eq (fun n => bv_not_L0_eq n _ _ _ _ _ _ _) (Ev.no rfl (Ev.ret ?_)))))))
      show (false, [_, _, _, _, _, _, D.lst 1 [.int .u64 (IntKind.u64.wrap ((BitVec.ofInt (IntKind.u64).bits (if (IntKind.u64).signed then -1 else (IntKind.u64).max) ^^^ BitVec.ofInt (IntKind.u64).bits (a : Int)).toNat : Int))]]) = _
      rw [not_words ha']; rfl
    · cases h
      refine Ev.yes rfl (Ev.bindC (cut1_is h1 hw (by unfold M64; omega)) ?_)
      intro _ _ h; cases h
      refine ⟨rfl, Ev.yes rfl (Ev.ret ?_)⟩
      show (true, [D.int .i64 (w : Int), .lst 1 (wordsN w ((M64 - 1 - a) % 2 ^ w))]) = _
      have e : (M64 - 1 - a) % 2 ^ w = 2 ^ w - 1 - a := by
        exact top_mod hw ha
      rw [e]
  · have hw : 64 < w := by omega
    rw [wordsN2 hw, wordsN2 hw]
    have a0 := mod_m a
    have a1 := div_lt64 hw h2 ha
    have a2 := div_lt hw ha
    have hd := div_mod_m a
    refine Ev.bindL (Q := fun r => r = (false, [.lst 1 [wd (a % M64), wd (a / M64)], .int .i64 2, .int .i64 2, .int .i64 0, .int .i64 (w : Int), .lst 1 [], .lst 1 [wd (M64 - 1 - a % M64), wd (M64 - 1 - a / M64)]])) ?_ (fun ds h => by cases h) fun ds h => ?_
    · refine Ev.eq (fun n => bv_not_L0_eq n _ _ _ _ _ _ _) (Ev.yes rfl (Ev.yes rfl (Ev.yes rfl (Ev.yes rfl (Ev.eq (fun n => bv_not_L0_eq n _ _ _ _ _ _ _) (Ev.yes rfl (Ev.yes rfl (Ev.yes rfl (Ev.yes rfl (Ev.eq (fun n => bv_not_L0_eq n _ _ _ _ _ _ _) (Ev.no rfl (Ev.ret ?_))))))))))))
      show (false, [_, _, _, _, _, _, D.lst 1 [.int .u64 (IntKind.u64.wrap ((BitVec.ofInt (IntKind.u64).bits (if (IntKind.u64).signed then -1 else (IntKind.u64).max) ^^^ BitVec.ofInt (IntKind.u64).bits ((a % M64 : Nat) : Int)).toNat : Int)), .int .u64 (IntKind.u64.wrap ((BitVec.ofInt (IntKind.u64).bits (if (IntKind.u64).signed then -1 else (IntKind.u64).max) ^^^ BitVec.ofInt (IntKind.u64).bits ((a / M64 : Nat) : Int)).toNat : Int))]]) = _
      rw [not_words a0, not_words a1]; rfl
    · cases h
      refine Ev.yes rfl (Ev.bindC (cut2_is hw h2 (lo := M64 - 1 - a % M64) (hi := M64 - 1 - a / M64) (by unfold M64; omega) (by unfold M64; omega)) ?_)
      intro _ _ h; cases h
      refine ⟨rfl, Ev.yes rfl (Ev.ret ?_)⟩
      show (true, [D.int .i64 (w : Int), .lst 1 (wordsN w ((M64 - 1 - a % M64 + M64 * (M64 - 1 - a / M64)) % 2 ^ w))]) = _
      have e : (M64 - 1 - a % M64 + M64 * (M64 - 1 - a / M64)) % 2 ^ w = 2 ^ w - 1 - a := by
        rw [mod2 hw (by unfold M64; omega)]
        have e1 : (M64 - 1 - a / M64) % 2 ^ (w - 64) = 2 ^ (w - 64) - 1 - a / M64 := by
          exact top_mod (show w - 64 ≤ 64 by omega) a2
        rw [e1, pow_split hw]
        generalize 2 ^ (w - 64) = p at *
        generalize a / M64 = y at *
        generalize a % M64 = x at *
        subst hd
        have : p = y + 1 + (p - 1 - y) := by omega
        generalize p - 1 - y = z at *
        subst this
        rw [Nat.mul_add, Nat.mul_add]
        omega
      rw [e]
theorem neg_is {w a : Nat} (h1 : 1 ≤ w) (h2 : w ≤ 128) (ha : a < 2 ^ w) : Ev (fun n => bv_neg n (vec w a)) fun r => r = (true, [vec w ((2 ^ w - a) % 2 ^ w)]) := by
  refine Ev.eq (fun n => bv_neg_eq n _ _) (Ev.bindC (not_is h1 h2 ha) ?_)
  intro _ _ h; cases h
  refine ⟨rfl, Ev.yes rfl (Ev.bindC (blank_is h1 h2) ?_)⟩
  intro _ _ h; cases h
  refine ⟨rfl, Ev.yes rfl (Ev.bindC (plus_is (a := 2 ^ w - 1 - a) (b := 0) (k := 1) h1 h2 (by omega) (by omega) (by decide)) ?_)⟩
  intro _ _ h; cases h
  refine ⟨rfl, Ev.yes ?_ (Ev.ret ?_)⟩
  · by_cases hw : w ≤ 64
    · rw [wordsN1 hw]; rfl
    · rw [wordsN2 (by omega)]; rfl
  · show (true, [D.agg [.int .i64 (w : Int), .lst 1 (wordsN w ((2 ^ w - 1 - a + 0 + 1) % 2 ^ w))]]) = _
    have : 2 ^ w - 1 - a + 0 + 1 = 2 ^ w - a := by omega
    rw [this]; rfl
theorem bit_word {x r : Nat} (hx : x < M64) (hr : r < 64) : (IntKind.u64.wrap ((BitVec.ofInt (IntKind.u64).bits ((x : Int).fdiv (2 ^ (min r (IntKind.u64).bits))) &&& BitVec.ofInt (IntKind.u64).bits 1).toNat : Int) == 1) = x.testBit r := by
  have e : min r (IntKind.u64).bits = r := Nat.min_eq_left (by show r ≤ 64; omega)
  rw [e, fdiv_pow]
  have hq : x / 2 ^ r < M64 := Nat.lt_of_le_of_lt (Nat.div_le_self _ _) hx
  have := and_nat hq (y := 1) (by decide)
  rw [show ((1 : Nat) : Int) = 1 from rfl] at this
  rw [this, Nat.and_one_is_mod, wrap_u64_nat, Nat.mod_eq_of_lt (show x / 2 ^ r % 2 < M64 by unfold M64; omega), Nat.testBit_eq_decide_div_mod_eq]
  have h2 : x / 2 ^ r % 2 = 0 ∨ x / 2 ^ r % 2 = 1 := by omega
  rcases h2 with h2 | h2 <;> rw [h2] <;> rfl
theorem bit_is {w a i : Nat} (h2 : w ≤ 128) (ha : a < 2 ^ w) : Ev (fun n => bv_Vec_Bit n (vec w a) (.int .i64 (i : Int))) fun r => r = (true, [.bool (a.testBit i)]) := by
  refine Ev.eq (fun n => bv_Vec_Bit_eq n _ _ _) (Ev.yes (decide_eq_true (by omega)) (Ev.test (fun hi => ?_) fun hi => Ev.ret ?_))
  · have hi : i < w := by have := of_decide_eq_true hi; omega
    have e1 : IntKind.i64.wrap ((i : Int).tdiv 64) = ((i / 64 : Nat) : Int) := by
      rw [Int.tdiv_eq_ediv_of_nonneg (by omega), wrap_id (by omega) (by omega)]; omega
    have e2 : (i : Int).tmod 64 = ((i % 64 : Nat) : Int) := by rw [Int.tmod_eq_emod_of_nonneg (by omega)]; omega
    rw [e1, e2]
    have hr : i % 64 < 64 := Nat.mod_lt _ (by decide)
    by_cases hw : w ≤ 64
    · rw [wordsN1 hw]
      have e3 : i / 64 = 0 := by omega
      have e4 : i % 64 = i := by omega
      rw [e3, e4]
      refine Ev.yes rfl (Ev.yes rfl (Ev.no (decide_eq_false (by omega)) (Ev.ret ?_)))
      show (true, [D.bool (IntKind.u64.wrap ((BitVec.ofInt (IntKind.u64).bits ((a : Int).fdiv (2 ^ (min i (IntKind.u64).bits))) &&& BitVec.ofInt (IntKind.u64).bits 1).toNat : Int) == 1)]) = _
      rw [bit_word (lt_m64 hw ha) (by omega)]
    · have hw : 64 < w := by omega
      rw [wordsN2 hw]
      by_cases h64 : i < 64
      · have e3 : i / 64 = 0 := by omega
        have e4 : i % 64 = i := by omega
        rw [e3, e4]
        refine Ev.yes rfl (Ev.yes rfl (Ev.no (decide_eq_false (by omega)) (Ev.ret ?_)))
        show (true, [D.bool (IntKind.u64.wrap ((BitVec.ofInt (IntKind.u64).bits (((a % M64 : Nat) : Int).fdiv (2 ^ (min i (IntKind.u64).bits))) &&& BitVec.ofInt (IntKind.u64).bits 1).toNat : Int) == 1)]) = _
        rw [bit_word (mod_m a) (by omega)]
        show (true, [D.bool ((a % 2 ^ 64).testBit i)]) = _
        rw [Nat.testBit_mod_two_pow, decide_eq_true h64, Bool.true_and]
      · have e3 : i / 64 = 1 := by omega
        have e4 : i % 64 = i - 64 := by omega
        rw [e3, e4]
        refine Ev.yes rfl (Ev.yes rfl (Ev.no (decide_eq_false (by omega)) (Ev.ret ?_)))
        show (true, [D.bool (IntKind.u64.wrap ((BitVec.ofInt (IntKind.u64).bits (((a / M64 : Nat) : Int).fdiv (2 ^ (min (i - 64) (IntKind.u64).bits))) &&& BitVec.ofInt (IntKind.u64).bits 1).toNat : Int) == 1)]) = _
        rw [bit_word (div_lt64 hw h2 ha) (by omega)]
        show (true, [D.bool ((a / 2 ^ 64).testBit (i - 64))]) = _
        rw [Nat.testBit_div_two_pow]
        have : i - 64 + 64 = i := by omega
        rw [this]
  · have hi : w ≤ i := by have := of_decide_eq_false hi; omega
    rw [Nat.testBit_lt_two_pow (Nat.lt_of_lt_of_le ha (Nat.pow_le_pow_right (by omega) hi))]
theorem bit_neg {w a : Nat} {i : Int} (hi : i < 0) : Ev (fun n => bv_Vec_Bit n (vec w a) (.int .i64 i)) fun r => r = (true, [.bool false]) :=
  Ev.eq (fun n => bv_Vec_Bit_eq n _ _ _) (Ev.no (decide_eq_false (by omega)) (Ev.ret rfl))
theorem num_is {w a m : Nat} (h1 : 1 ≤ w) (h2 : w ≤ 128) (ha : a < 2 ^ w) (hm : m < 9223372036854775808) : Ev (fun n => bv_Vec_Num n (vec w a) (.int .i64 (m : Int))) fun r => r = (true, [.int .i64 ((min a m : Nat) : Int)]) := by
  have em : max (m : Int) 0 = (m : Int) := by omega
  have fin : ∀ x : Nat, IntKind.i64.wrap (min (x : Int) (IntKind.u64.wrap (m : Int))) = ((min x m : Nat) : Int) := fun x => by
    rw [wrap_u64_nat, Nat.mod_eq_of_lt (by unfold M64; omega), wrap_id (by omega) (by omega)]; omega
  refine Ev.eq (fun n => bv_Vec_Num_eq n _ _ _) ?_
  rw [em]
  by_cases hw : w ≤ 64
  · rw [wordsN1 hw]
    refine Ev.bindL (Q := fun r => r = (false, [.int .i64 (m : Int), .lst 1 [wd a], .int .i64 1, .int .i64 1, .int .i64 (w : Int), .lst 1 [wd a]])) ?_ (fun ds h => by cases h) fun ds h => ?_
    · exact Ev.eq (fun n => bv_Vec_Num_L0_eq n _ _ _ _ _ _) (Ev.yes rfl (Ev.yes rfl (Ev.yes rfl (Ev.no rfl (Ev.eq (fun n => bv_Vec_Num_L0_eq n _ _ _ _ _ _) (Ev.no rfl (Ev.ret rfl)))))))
    · cases h
      refine Ev.yes rfl (Ev.no (by simp [nth, D.i]; omega) (Ev.yes rfl (Ev.yes rfl (Ev.ret ?_))))
      show (true, [D.int .i64 (IntKind.i64.wrap (min (a : Int) (IntKind.u64.wrap (m : Int))))]) = _
      rw [fin]
  · have hw : 64 < w := by omega
    have hd := div_mod_m a
    have a0 := mod_m a
    rw [wordsN2 hw]
    by_cases hz : a / M64 = 0
    · refine Ev.bindL (Q := fun r => r = (false, [.int .i64 (m : Int), .lst 1 [wd (a % M64), wd (a / M64)], .int .i64 2, .int .i64 2, .int .i64 (w : Int), .lst 1 [wd (a % M64), wd (a / M64)]])) ?_ (fun ds h => by cases h) fun ds h => ?_
      · refine Ev.eq (fun n => bv_Vec_Num_L0_eq n _ _ _ _ _ _) (Ev.yes rfl (Ev.yes rfl (Ev.yes rfl (Ev.no rfl (Ev.eq (fun n => bv_Vec_Num_L0_eq n _ _ _ _ _ _) (Ev.yes rfl (Ev.yes rfl (Ev.yes rfl (Ev.yes rfl (Ev.no ?_ (Ev.eq (fun n => bv_Vec_Num_L0_eq n _ _ _ _ _ _) (Ev.no rfl (Ev.ret rfl)))))))))))))
        show (((a / M64 : Nat) : Int) != 0) = false
        rw [hz]; rfl
      · cases h
        refine Ev.yes rfl (Ev.no (by simp [nth, D.i]; omega) (Ev.yes rfl (Ev.yes rfl (Ev.ret ?_))))
        show (true, [D.int .i64 (IntKind.i64.wrap (min ((a % M64 : Nat) : Int) (IntKind.u64.wrap (m : Int))))]) = _
        rw [fin]
        have : a % M64 = a := by rw [hz] at hd; omega
        rw [this]
    · refine Ev.bindL (Q := fun r => r = (true, [.int .i64 (m : Int)])) ?_ (fun ds h => ?_) fun ds h => by cases h
      · refine Ev.eq (fun n => bv_Vec_Num_L0_eq n _ _ _ _ _ _) (Ev.yes rfl (Ev.yes rfl (Ev.yes rfl (Ev.no rfl (Ev.eq (fun n => bv_Vec_Num_L0_eq n _ _ _ _ _ _) (Ev.yes rfl (Ev.yes rfl (Ev.yes rfl (Ev.yes rfl (Ev.yes ?_ (Ev.ret rfl)))))))))))
        show (((a / M64 : Nat) : Int) != 0) = true
        simp; omega
      · rw [h]
        have : min a m = m := by
          have h1 : 1 ≤ a / M64 := Nat.pos_of_ne_zero hz
          have h2 := Nat.mul_le_mul_left M64 h1
          unfold M64 at *
          omega
        rw [this]
theorem num0_is {m : Int} (hm : 0 ≤ m) : Ev (fun n => bv_Vec_Num n (.agg [.int .i64 0, .lst 1 []]) (.int .i64 m)) fun r => r = (true, [.int .i64 0]) := by
  refine Ev.eq (fun n => bv_Vec_Num_eq n _ _ _) (Ev.bindL (Q := fun r => r = (false, [.int .i64 (max m 0), .lst 1 [], .int .i64 0, .int .i64 0, .int .i64 0, .lst 1 []])) (Ev.eq (fun n => bv_Vec_Num_L0_eq n _ _ _ _ _ _) (Ev.no rfl (Ev.ret rfl))) (fun ds h => by cases h) fun ds h => ?_)
  cases h
  exact Ev.yes rfl (Ev.yes rfl (Ev.ret rfl))
/-- The bits of a number, the lowest first. -/
def bitsD (w n : Nat) : List D := (List.range w).map fun i => .bool (n.testBit i)
theorem bitsD_len (w n : Nat) : (bitsD w n).length = w := by simp [bitsD]
theorem bitsD_get {w n i : Nat} (h : i < w) : (bitsD w n)[i]? = some (.bool (n.testBit i)) := by simp [bitsD, h]
theorem Bits_is {w a : Nat} (h2 : w ≤ 128) (ha : a < 2 ^ w) : Ev (fun n => bv_Vec_Bits n (vec w a)) fun r => r = (true, [.lst 1 (bitsD w a)]) := by
  refine Ev.eq (fun n => bv_Vec_Bits_eq n _ _) (Ev.yes (and_tt (and_tt (decide_eq_true (by omega)) (decide_eq_true (Int.le_refl _))) (decide_eq_true (by simp only [maxLst]; omega))) ?_)
  rw [Int.toNat_natCast, List.length_replicate]
  have loop : ∀ (m j : Nat) (out : List D), w - j = m → j ≤ w → out.length = w → (∀ i, i < j → out[i]? = some (.bool (a.testBit i))) →
      Ev (fun n => bv_Vec_Bits_L0 n (.int .i64 (w : Int)) (.int .i64 (j : Int)) (.int .i64 (w : Int)) (.lst 1 (wordsN w a)) (.lst 1 out)) fun r => ∃ j' : Int, r = (false, [.int .i64 (w : Int), .int .i64 j', .int .i64 (w : Int), .lst 1 (wordsN w a), .lst 1 (bitsD w a)]) := by
    intro m
    induction m with
    | zero =>
      intro j out hm hj hl ho
      refine Ev.eq (fun n => bv_Vec_Bits_L0_eq n _ _ _ _ _) (Ev.no (decide_eq_false (by omega)) (Ev.ret ⟨(j : Int), ?_⟩))
      have : out = bitsD w a := by
        apply List.ext_getElem?
        intro i
        by_cases hi : i < w
        · rw [ho i (by omega), bitsD_get hi]
        · rw [List.getElem?_eq_none (by omega), List.getElem?_eq_none (by rw [bitsD_len]; omega)]
      rw [this]
    | succ m ih =>
      intro j out hm hj hl ho
      have hw : IntKind.i64.wrap ((j : Int) + 1) = ((j + 1 : Nat) : Int) := wrap_succ (by omega)
      refine Ev.eq (fun n => bv_Vec_Bits_L0_eq n _ _ _ _ _) (Ev.yes (decide_eq_true (by omega)) (Ev.bindC (bit_is (i := j) h2 ha) ?_))
      intro _ _ h; cases h
      rw [hw]
      refine ⟨rfl, Ev.yes rfl (Ev.yes (in_range (by omega)) ?_)⟩
      rw [Int.toNat_natCast]
      refine ih (j + 1) _ (by omega) (by omega) (by rw [List.length_set]; exact hl) fun i hi => ?_
      rw [List.getElem?_set]
      by_cases e : j = i
      · subst e
        rw [if_pos rfl, if_pos (by omega)]; rfl
      · rw [if_neg e]; exact ho i (by omega)
  refine Ev.bindL (loop w 0 _ rfl (Nat.zero_le _) (by simp) (fun i hi => by omega)) (fun ds h => by obtain ⟨_, h⟩ := h; cases h) fun ds h => ?_
  obtain ⟨j', h⟩ := h
  cases h
  exact Ev.yes rfl (Ev.ret rfl)
end Go.Proofs.YthlhbocobgkdmaaGreat
