/- The reference's vectors: lists of bits. -/
import Derived.Test.YthlhbocobgkdmaaGreatLitC
namespace Go.Proofs.YthlhbocobgkdmaaGreat
open Go.AE
set_option linter.unusedVariables false
set_option linter.unusedSimpArgs false
theorem bitsD_mod (w n : Nat) : bitsD w (n % 2 ^ w) = bitsD w n := by
  apply List.ext_getElem?
  intro i
  by_cases h : i < w
  · rw [bitsD_get h, bitsD_get h, Nat.testBit_mod_two_pow, decide_eq_true h, Bool.true_and]
  · rw [List.getElem?_eq_none (by rw [bitsD_len]; omega), List.getElem?_eq_none (by rw [bitsD_len]; omega)]
theorem bitsD_zero (w : Nat) : List.replicate w (D.bool false) = bitsD w 0 := by
  apply List.ext_getElem?
  intro i
  by_cases h : i < w
  · rw [bitsD_get h, List.getElem?_replicate, if_pos h, Nat.zero_testBit]
  · rw [List.getElem?_eq_none (by simp; omega), List.getElem?_eq_none (by rw [bitsD_len]; omega)]
theorem bitsD_ext {w n : Nat} {out : List D} (hl : out.length = w) (h : ∀ i, i < w → out[i]? = some (.bool (n.testBit i))) : out = bitsD w n := by
  apply List.ext_getElem?
  intro i
  by_cases hi : i < w
  · rw [h i hi, bitsD_get hi]
  · rw [List.getElem?_eq_none (by omega), List.getElem?_eq_none (by rw [bitsD_len]; omega)]
theorem bitsD_at {w n i : Nat} (h : i < w) : (bitsD w n)[((i : Nat) : Int).toNat]?.getD D.top = .bool (n.testBit i) := by
  rw [Int.toNat_natCast, bitsD_get h]; rfl
theorem set_get {out : List D} {j i : Nat} {v : D} (hj : j < out.length) : (out.set j v)[i]? = if j = i then some v else out[i]? := by
  rw [List.getElem?_set]
  by_cases e : j = i
  · rw [if_pos e, if_pos e, if_pos (by omega)]
  · rw [if_neg e, if_neg e]
def maj (x y c : Bool) : Bool := (x && y) || (x && c) || (y && c)
def carryB (a b c i : Nat) : Bool := decide (2 ^ i ≤ a % 2 ^ i + b % 2 ^ i + c)
theorem mod_next (a i : Nat) : a % 2 ^ (i + 1) = a % 2 ^ i + 2 ^ i * (a.testBit i).toNat := by
  rw [Nat.testBit_eq_decide_div_mod_eq, Nat.pow_succ, Nat.mod_mul]
  have h : a / 2 ^ i % 2 = 0 ∨ a / 2 ^ i % 2 = 1 := by omega
  rcases h with h | h <;> rw [h] <;> rfl
theorem carry_zero (a b : Nat) (c : Bool) : carryB a b c.toNat 0 = c := by
  unfold carryB
  rw [Nat.pow_zero, Nat.mod_one, Nat.mod_one]
  cases c <;> rfl
theorem carry_next {a b c i : Nat} (hc : c ≤ 1) : carryB a b c (i + 1) = maj (a.testBit i) (b.testBit i) (carryB a b c i) := by
  unfold carryB
  have h1 := Nat.mod_lt a (two_pos i)
  have h2 := Nat.mod_lt b (two_pos i)
  rw [mod_next, mod_next, Nat.pow_succ]
  generalize 2 ^ i = p at *
  by_cases h : p ≤ a % p + b % p + c
  · rw [decide_eq_true h]
    cases a.testBit i <;> cases b.testBit i
    · exact decide_eq_false (by simp; omega)
    · exact decide_eq_true (by simp; omega)
    · exact decide_eq_true (by simp; omega)
    · exact decide_eq_true (by simp; omega)
  · rw [decide_eq_false h]
    cases a.testBit i <;> cases b.testBit i
    · exact decide_eq_false (by simp; omega)
    · exact decide_eq_false (by simp; omega)
    · exact decide_eq_false (by simp; omega)
    · exact decide_eq_true (by simp; omega)
theorem sum_bit {a b c i : Nat} (hc : c ≤ 1) : (a + b + c).testBit i = (!((!(a.testBit i == b.testBit i)) == carryB a b c i)) := by
  have ha := Nat.mod_add_div a (2 ^ i)
  have hb := Nat.mod_add_div b (2 ^ i)
  have h1 := Nat.mod_lt a (two_pos i)
  have h2 := Nat.mod_lt b (two_pos i)
  have hp := two_pos i
  rw [Nat.testBit_eq_decide_div_mod_eq, Nat.testBit_eq_decide_div_mod_eq, Nat.testBit_eq_decide_div_mod_eq]
  unfold carryB
  have hsum : a + b + c = (a % 2 ^ i + b % 2 ^ i + c) + 2 ^ i * (a / 2 ^ i + b / 2 ^ i) := by
    rw [Nat.mul_add]; omega
  have hd : (a + b + c) / 2 ^ i = (a % 2 ^ i + b % 2 ^ i + c) / 2 ^ i + (a / 2 ^ i + b / 2 ^ i) := by
    rw [hsum, Nat.add_mul_div_left _ _ hp]
  have hl : (a % 2 ^ i + b % 2 ^ i + c) / 2 ^ i = if 2 ^ i ≤ a % 2 ^ i + b % 2 ^ i + c then 1 else 0 := by
    by_cases h : 2 ^ i ≤ a % 2 ^ i + b % 2 ^ i + c
    · rw [if_pos h]
      exact Nat.div_eq_of_lt_le (by omega) (by omega)
    · rw [if_neg h]
      exact Nat.div_eq_of_lt (by omega)
  rw [hd, hl]
  generalize a / 2 ^ i = x
  generalize b / 2 ^ i = y
  have hx : x % 2 = 0 ∨ x % 2 = 1 := by omega
  have hy : y % 2 = 0 ∨ y % 2 = 1 := by omega
  by_cases h : 2 ^ i ≤ a % 2 ^ i + b % 2 ^ i + c
  · rw [if_pos h, decide_eq_true h]
    rcases hx with hx | hx <;> rcases hy with hy | hy <;> rw [hx, hy]
    · exact decide_eq_true (by omega)
    · exact decide_eq_false (by omega)
    · exact decide_eq_false (by omega)
    · exact decide_eq_true (by omega)
  · rw [if_neg h, decide_eq_false h]
    rcases hx with hx | hx <;> rcases hy with hy | hy <;> rw [hx, hy]
    · exact decide_eq_false (by omega)
    · exact decide_eq_true (by omega)
    · exact decide_eq_true (by omega)
    · exact decide_eq_false (by omega)
theorem Plus_is {w : Nat} (hw : w ≤ 1000) (a b : Nat) (c : Bool) : Ev (fun n => ref01_Plus n (.lst 1 (bitsD w a)) (.lst 1 (bitsD w b)) (.bool c)) fun r => r = (true, [.lst 1 (bitsD w (a + b + c.toNat))]) := by
  have hc : c.toNat ≤ 1 := by cases c <;> decide
  refine Ev.eq (fun n => ref01_Plus_eq n _ _ _) (Ev.yes (and_tt (and_tt (decide_eq_true (by omega)) (decide_eq_true (Int.le_refl _))) (decide_eq_true (by rw [bitsD_len]; simp only [maxLst]; omega))) ?_)
  rw [Int.toNat_natCast, bitsD_len]
  have loop : ∀ (m j : Nat) (out : List D), w - j = m → j ≤ w → out.length = w → (∀ i, i < j → out[i]? = some (.bool ((a + b + c.toNat).testBit i))) →
      Ev (fun n => ref01_Plus_L0 n (.lst 1 (bitsD w a)) (.lst 1 (bitsD w b)) (.bool (carryB a b c.toNat j)) (.int .i64 (j : Int)) (.lst 1 out)) fun r => ∃ c' : Bool, ∃ j' : Int, r = (false, [.lst 1 (bitsD w a), .lst 1 (bitsD w b), .bool c', .int .i64 j', .lst 1 (bitsD w (a + b + c.toNat))]) := by
    intro m
    induction m with
    | zero =>
      intro j out hm hj hl ho
      refine Ev.eq (fun n => ref01_Plus_L0_eq n _ _ _ _ _) (Ev.no (decide_eq_false (by rw [bitsD_len]; omega)) (Ev.ret ⟨carryB a b c.toNat j, (j : Int), ?_⟩))
      rw [bitsD_ext hl fun i hi => ho i (by omega)]
    | succ m ih =>
      intro j out hm hj hl ho
      have hj2 : j < w := by omega
      have hw2 : IntKind.i64.wrap ((j : Int) + 1) = ((j + 1 : Nat) : Int) := wrap_succ (by omega)
      refine Ev.eq (fun n => ref01_Plus_L0_eq n _ _ _ _ _) (Ev.yes (decide_eq_true (by rw [bitsD_len]; omega)) (Ev.yes (in_range (by rw [bitsD_len]; exact hj2)) ?_))
      rw [bitsD_at hj2, bitsD_at hj2, hw2]
      refine Ev.yes rfl (Ev.yes (in_range (by rw [bitsD_len]; exact hj2)) (Ev.yes rfl (Ev.yes (in_range (by rw [hl]; exact hj2)) ?_)))
      have i1 := ih (j + 1) (out.set j (.bool ((a + b + c.toNat).testBit j))) (by omega) hj2 (by rw [List.length_set]; exact hl) fun i hi => by
        rw [set_get (by omega)]
        by_cases e : j = i
        · subst e; rw [if_pos rfl]
        · rw [if_neg e]; exact ho i (by omega)
      rw [carry_next hc, sum_bit hc] at i1
      rw [Int.toNat_natCast]
      generalize a.testBit j = x at i1 ⊢
      generalize b.testBit j = y at i1 ⊢
      generalize carryB a b c.toNat j = z at i1 ⊢
      cases x <;> cases y <;> cases z <;> exact i1
  have l0 := loop w 0 (List.replicate w (.bool false)) rfl (Nat.zero_le _) (by simp) (fun i hi => by omega)
  rw [carry_zero] at l0
  refine Ev.bindL l0 (fun ds h => by obtain ⟨_, _, h⟩ := h; cases h) fun ds h => ?_
  obtain ⟨c', j', h⟩ := h
  cases h
  exact Ev.yes rfl (Ev.ret rfl)
theorem shr_bit (n i : Nat) : n / 2 ^ i = 2 * (n / 2 ^ (i + 1)) + (n.testBit i).toNat := by
  rw [Nat.testBit_eq_decide_div_mod_eq, Nat.pow_succ, ← Nat.div_div_eq_div_mul]
  have h : n / 2 ^ i % 2 = 0 ∨ n / 2 ^ i % 2 = 1 := by omega
  rcases h with h | h <;> rw [h] <;> simp <;> omega
theorem div_le_of (n i m : Nat) (h : m < n / 2 ^ i) : m < n := Nat.lt_of_lt_of_le h (Nat.div_le_self _ _)
theorem rNum_is {w n m : Nat} (hw : w ≤ 1000) (hn : n < 2 ^ w) (hm : m < 4611686018427387904) : Ev (fun k => ref01_Num k (.lst 1 (bitsD w n)) (.int .i64 (m : Int))) fun r => r = (true, [iD (min n m)]) := by
  refine Ev.eq (fun k => ref01_Num_eq k _ _) (Ev.no (decide_eq_false (by omega)) ?_)
  rw [bitsD_len]
  have e0 : IntKind.i64.wrap ((w : Int) - 1) = (w : Int) - 1 := wrap_id (by omega) (by omega)
  rw [e0]
  have loop : ∀ (j : Nat), j ≤ w → n / 2 ^ j ≤ m →
      Ev (fun k => ref01_Num_L0 k (.lst 1 (bitsD w n)) (.int .i64 (m : Int)) (iD (n / 2 ^ j)) (.int .i64 ((j : Int) - 1))) fun r => (n ≤ m ∧ ∃ j' : Int, r = (false, [.lst 1 (bitsD w n), .int .i64 (m : Int), iD n, .int .i64 j'])) ∨ (m ≤ n ∧ r = (true, [.int .i64 (m : Int)])) := by
    intro j
    induction j with
    | zero =>
      intro _ hv
      rw [Nat.pow_zero, Nat.div_one] at hv ⊢
      exact Ev.eq (fun k => ref01_Num_L0_eq k _ _ _ _) (Ev.no rfl (Ev.ret (.inl ⟨hv, _, rfl⟩)))
    | succ j ih =>
      intro hj hv
      have hj2 : j < w := by omega
      have e1 : ((j + 1 : Nat) : Int) - 1 = (j : Int) := by omega
      have e2 : IntKind.i64.wrap ((j : Int) - 1) = (j : Int) - 1 := wrap_id (by omega) (by omega)
      have e3 : IntKind.i64.wrap ((m : Int).tdiv 2) = ((m / 2 : Nat) : Int) := by
        rw [Int.tdiv_eq_ediv_of_nonneg (by omega), wrap_id (by omega) (by omega)]; omega
      have hs := shr_bit n j
      rw [e1]
      refine Ev.eq (fun k => ref01_Num_L0_eq k _ _ _ _) (Ev.yes (decide_eq_true (by omega)) (Ev.yes (in_range (by rw [bitsD_len]; exact hj2)) ?_))
      rw [bitsD_at hj2, e2, e3]
      have e4 : IntKind.i64.wrap (2 * ((n / 2 ^ (j + 1) : Nat) : Int)) = ((2 * (n / 2 ^ (j + 1)) : Nat) : Int) := by rw [wrap_id (by omega) (by omega)]; omega
      rw [e4]
      refine Ev.yes rfl ?_
      cases hb : n.testBit j with
      | true =>
        rw [hb] at hs
        have hs : n / 2 ^ j = 2 * (n / 2 ^ (j + 1)) + 1 := hs
        refine Ev.yes rfl ?_
        by_cases h1 : n / 2 ^ (j + 1) > m / 2
        · refine Ev.yes (decide_eq_true (by omega)) (Ev.ret (.inr ⟨?_, rfl⟩))
          have := div_le_of n j m (by omega)
          omega
        · have e5 : IntKind.i64.wrap ((m : Int) - 1) = (m : Int) - 1 := wrap_id (by omega) (by omega)
          rw [e5]
          refine Ev.no (decide_eq_false (by omega)) ?_
          by_cases h2 : 2 * (n / 2 ^ (j + 1)) + 1 > m
          · refine Ev.yes (decide_eq_true (by omega)) (Ev.ret (.inr ⟨?_, rfl⟩))
            have := div_le_of n j m (by omega)
            omega
          · refine Ev.no (decide_eq_false (by omega)) ?_
            have e6 : IntKind.i64.wrap (((2 * (n / 2 ^ (j + 1)) : Nat) : Int) + 1) = ((n / 2 ^ j : Nat) : Int) := by rw [wrap_id (by omega) (by omega)]; omega
            rw [e6]
            exact ih (by omega) (by omega)
      | false =>
        rw [hb] at hs
        have hs : n / 2 ^ j = 2 * (n / 2 ^ (j + 1)) := hs
        refine Ev.no rfl ?_
        by_cases h1 : n / 2 ^ (j + 1) > m / 2
        · refine Ev.yes (decide_eq_true (by omega)) (Ev.ret (.inr ⟨?_, rfl⟩))
          have := div_le_of n j m (by omega)
          omega
        · have e5 : IntKind.i64.wrap ((m : Int) - 0) = (m : Int) := by rw [wrap_id (by omega) (by omega)]; omega
          rw [e5]
          refine Ev.no (decide_eq_false (by omega)) ?_
          by_cases h2 : 2 * (n / 2 ^ (j + 1)) > m
          · refine Ev.yes (decide_eq_true (by omega)) (Ev.ret (.inr ⟨?_, rfl⟩))
            have := div_le_of n j m (by omega)
            omega
          · refine Ev.no (decide_eq_false (by omega)) ?_
            have e6 : IntKind.i64.wrap (((2 * (n / 2 ^ (j + 1)) : Nat) : Int) + 0) = ((n / 2 ^ j : Nat) : Int) := by rw [wrap_id (by omega) (by omega)]; omega
            rw [e6]
            exact ih (by omega) (by omega)
  have l0 := loop w (Nat.le_refl _) (by rw [Nat.div_eq_of_lt hn]; exact Nat.zero_le _)
  rw [Nat.div_eq_of_lt hn] at l0
  refine Ev.bindL l0 (fun ds h => ?_) fun ds h => ?_
  · rcases h with ⟨_, _, h⟩ | ⟨h1, h⟩
    · cases h
    · rw [h, Nat.min_eq_right h1]; rfl
  · rcases h with ⟨h1, _, h⟩ | ⟨_, h⟩
    · cases h
      rw [Nat.min_eq_left h1]
      exact Ev.yes rfl (Ev.ret rfl)
    · cases h
theorem Not_is {w a : Nat} (hw : w ≤ 1000) (ha : a < 2 ^ w) : Ev (fun n => ref01_Not n (.lst 1 (bitsD w a))) fun r => r = (true, [.lst 1 (bitsD w (2 ^ w - 1 - a))]) := by
  have hbit : ∀ i, i < w → (2 ^ w - 1 - a).testBit i = !a.testBit i := fun i hi => by
    have := Nat.testBit_two_pow_sub_succ ha i
    rw [show 2 ^ w - 1 - a = 2 ^ w - (a + 1) by omega, this, decide_eq_true hi, Bool.true_and]
  refine Ev.eq (fun n => ref01_Not_eq n _) (Ev.yes (and_tt (and_tt (decide_eq_true (by omega)) (decide_eq_true (Int.le_refl _))) (decide_eq_true (by rw [bitsD_len]; simp only [maxLst]; omega))) ?_)
  rw [Int.toNat_natCast, bitsD_len]
  have loop : ∀ (m j : Nat) (out : List D), w - j = m → j ≤ w → out.length = w → (∀ i, i < j → out[i]? = some (.bool ((2 ^ w - 1 - a).testBit i))) →
      Ev (fun n => ref01_Not_L0 n (.lst 1 (bitsD w a)) (.int .i64 (j : Int)) (.lst 1 out)) fun r => ∃ j' : Int, r = (false, [.lst 1 (bitsD w a), .int .i64 j', .lst 1 (bitsD w (2 ^ w - 1 - a))]) := by
    intro m
    induction m with
    | zero =>
      intro j out hm hj hl ho
      refine Ev.eq (fun n => ref01_Not_L0_eq n _ _ _) (Ev.no (decide_eq_false (by rw [bitsD_len]; omega)) (Ev.ret ⟨(j : Int), ?_⟩))
      rw [bitsD_ext hl fun i hi => ho i (by omega)]
    | succ m ih =>
      intro j out hm hj hl ho
      have hj2 : j < w := by omega
      have hw2 : IntKind.i64.wrap ((j : Int) + 1) = ((j + 1 : Nat) : Int) := wrap_succ (by omega)
      refine Ev.eq (fun n => ref01_Not_L0_eq n _ _ _) (Ev.yes (decide_eq_true (by rw [bitsD_len]; omega)) (Ev.yes (in_range (by rw [bitsD_len]; exact hj2)) ?_))
      rw [bitsD_at hj2, hw2, Int.toNat_natCast]
      refine Ev.yes rfl (Ev.yes (in_range (by rw [hl]; exact hj2)) (ih (j + 1) _ (by omega) hj2 (by rw [List.length_set]; exact hl) fun i hi => ?_))
      rw [set_get (by omega)]
      by_cases e : j = i
      · subst e; rw [if_pos rfl, hbit j hj2]; rfl
      · rw [if_neg e]; exact ho i (by omega)
  refine Ev.bindL (loop w 0 (List.replicate w (.bool false)) rfl (Nat.zero_le _) (by simp) (fun i hi => by omega)) (fun ds h => by obtain ⟨_, h⟩ := h; cases h) fun ds h => ?_
  obtain ⟨j', h⟩ := h
  cases h
  exact Ev.yes rfl (Ev.ret rfl)
theorem bitsD_plain (w n : Nat) : (bitsD w n).all plainD = true := List.all_eq_true.2 fun y hy => by
  simp only [bitsD, List.mem_map] at hy
  obtain ⟨i, _, rfl⟩ := hy
  rfl
theorem Neg_is {w a : Nat} (hw : w ≤ 1000) (ha : a < 2 ^ w) : Ev (fun n => ref01_Neg n (.lst 1 (bitsD w a))) fun r => r = (true, [.lst 1 (bitsD w ((2 ^ w - a) % 2 ^ w))]) := by
  refine Ev.eq (fun n => ref01_Neg_eq n _) (evCall (Not_is hw ha) (Ev.yes rfl (Ev.yes (and_tt (and_tt (decide_eq_true (by omega)) (decide_eq_true (Int.le_refl _))) (decide_eq_true (by rw [bitsD_len]; simp only [maxLst]; omega))) ?_)))
  rw [Int.toNat_natCast, bitsD_len, bitsD_zero, bitsD_mod]
  refine evCall (Plus_is hw (2 ^ w - 1 - a) 0 true) (Ev.yes ?_ (Ev.ret ?_))
  · show (chk ref01_Plus.osk [D.lst 1 (bitsD w (2 ^ w - 1 - a + 0 + true.toNat))] && plainDs ref01_Plus.osk [D.lst 1 (bitsD w (2 ^ w - 1 - a + 0 + true.toNat))]) = true
    simp [plainDs, bitsD_plain]; rfl
  · show (true, [D.lst 1 (bitsD w (2 ^ w - 1 - a + 0 + 1))]) = _
    have : 2 ^ w - 1 - a + 0 + 1 = 2 ^ w - a := by omega
    rw [this]
theorem Equal_is (a b : List Bool) (ha : a.length ≤ 4611686018427387903) : Ev (fun n => ref01_Equal n (.lst 1 (a.map bD)) (.lst 1 (b.map bD))) fun r => r = (true, [.bool (decide (a = b))]) := by
  refine Ev.eq (fun n => ref01_Equal_eq n _ _) ?_
  rw [List.length_map, List.length_map]
  by_cases hl : a.length = b.length
  · refine Ev.no (by simp [hl]) ?_
    have loop : ∀ (m j : Nat), a.length - j = m → j ≤ a.length → a.take j = b.take j →
        Ev (fun n => ref01_Equal_L0 n (.lst 1 (a.map bD)) (.lst 1 (b.map bD)) (.int .i64 (j : Int))) fun r => (a = b ∧ ∃ j' : Int, r = (false, [.lst 1 (a.map bD), .lst 1 (b.map bD), .int .i64 j'])) ∨ (a ≠ b ∧ r = (true, [.bool false])) := by
      intro m
      induction m with
      | zero =>
        intro j hm hj he
        refine Ev.eq (fun n => ref01_Equal_L0_eq n _ _ _) (Ev.no (decide_eq_false (by rw [List.length_map]; omega)) (Ev.ret (.inl ⟨?_, _, rfl⟩)))
        rwa [List.take_of_length_le (by omega), List.take_of_length_le (by omega)] at he
      | succ m ih =>
        intro j hm hj he
        have hj2 : j < a.length := by omega
        have hj3 : j < b.length := by omega
        have ja : j < (a.map bD).length := by rw [List.length_map]; exact hj2
        have jb : j < (b.map bD).length := by rw [List.length_map]; exact hj3
        have hw2 : IntKind.i64.wrap ((j : Int) + 1) = ((j + 1 : Nat) : Int) := wrap_succ (by omega)
        refine Ev.eq (fun n => ref01_Equal_L0_eq n _ _ _) (Ev.yes (decide_eq_true (by omega)) (Ev.yes (in_range ja) ?_))
        rw [get_nat ja, get_nat jb, hw2, List.getElem_map, List.getElem_map]
        refine Ev.yes rfl (Ev.yes (in_range jb) (Ev.yes rfl ?_))
        show Ev (fun n => bif (!(a[j] == b[j])) then _ else _) _
        cases hx : a[j] == b[j] with
        | true =>
          refine Ev.no rfl (ih (j + 1) (by omega) hj2 ?_)
          rw [List.take_succ_eq_append_getElem hj2, List.take_succ_eq_append_getElem hj3, he, eq_of_beq hx]
        | false =>
          refine Ev.yes rfl (Ev.ret (.inr ⟨fun e => ?_, rfl⟩))
          subst e
          simp at hx
    refine Ev.bindL (loop a.length 0 rfl (Nat.zero_le _) rfl) (fun ds h => ?_) fun ds h => ?_
    · rcases h with ⟨_, _, h⟩ | ⟨h1, h⟩
      · cases h
      · rw [h, decide_eq_false h1]
    · rcases h with ⟨h1, _, h⟩ | ⟨_, h⟩
      · cases h
        rw [decide_eq_true h1]
        exact Ev.yes rfl (Ev.ret rfl)
      · cases h
  · rw [decide_eq_false (fun e => hl (by rw [e]))]
    exact Ev.yes (by simp; omega) (Ev.ret rfl)
end Go.Proofs.YthlhbocobgkdmaaGreat
