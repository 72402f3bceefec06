/- Bit vectors: made bit by bit from the lowest; shifted, cut out, made wider; compared. -/
import Derived.Test.YthlhbocobgkdmaaGreatRefA
namespace Go.Proofs.YthlhbocobgkdmaaGreat
open Go.AE
set_option linter.unusedVariables false
set_option linter.unusedSimpArgs false
def fillN (f : Nat → Bool) (k : Nat) : Nat := numB ((List.range k).map f)
theorem fill_succ (f : Nat → Bool) (k : Nat) : fillN f (k + 1) = fillN f k + (f k).toNat * 2 ^ k := by
  unfold fillN
  rw [List.range_succ, List.map_append]
  show numB (_ ++ [f k]) = _
  rw [numB_snoc]
  simp
theorem fill_lt (f : Nat → Bool) (k : Nat) : fillN f k < 2 ^ k := by
  have := numB_lt ((List.range k).map f)
  simpa [fillN] using this
theorem fill_bit (f : Nat → Bool) (k i : Nat) : (fillN f k).testBit i = (decide (i < k) && f i) := by
  unfold fillN
  rw [numB_bit]
  by_cases h : i < k
  · simp [h]
  · simp [h]
theorem fill_ext {f : Nat → Bool} {k n : Nat} (hn : n < 2 ^ k) (h : ∀ i, i < k → n.testBit i = f i) : fillN f k = n := by
  refine Nat.eq_of_testBit_eq fun i => ?_
  rw [fill_bit]
  by_cases hi : i < k
  · rw [decide_eq_true hi, Bool.true_and, h i hi]
  · rw [decide_eq_false hi, Bool.false_and]
    exact (Nat.testBit_lt_two_pow (Nat.lt_of_lt_of_le hn (Nat.pow_le_pow_right (by omega) (by omega)))).symm
theorem fill_zero {f : Nat → Bool} {k : Nat} (h : ∀ i, i < k → f i = false) : fillN f k = 0 := fill_ext (Nat.two_pow_pos k) fun i hi => by rw [h i hi]; exact Nat.zero_testBit i
theorem fill_nil (f : Nat → Bool) : fillN f 0 = 0 := rfl
theorem wrap_nat {j : Nat} (h : j < 4611686018427387904) : IntKind.i64.wrap (j : Int) = (j : Int) := wrap_id (by omega) (by omega)
def upF (b a i : Nat) : Bool := decide (b ≤ i) && a.testBit (i - b)
theorem up_is {w a b : Nat} (h1 : 1 ≤ w) (h2 : w ≤ 128) (ha : a < 2 ^ w) (hb : b ≤ 1000) : Ev (fun n => bv_up n (vec w a) (.int .i64 (b : Int))) fun r => r = (true, [.int .i64 (w : Int), .lst 1 (wordsN w (fillN (upF b a) w))]) := by
  have loop : ∀ (m i : Nat), w - i = m → i ≤ w → b ≤ i → Ev (fun n => bv_up_L0 n (.int .i64 (b : Int)) (.int .i64 (i : Int)) (.int .i64 (w : Int)) (.lst 1 (wordsN w a)) (.int .i64 0) (.int .i64 (w : Int)) (.lst 1 []) (.lst 1 (wordsN w (fillN (upF b a) i)))) fun r => ∃ i' : Int, r = (false, [.int .i64 (b : Int), .int .i64 i', .int .i64 (w : Int), .lst 1 (wordsN w a), .int .i64 0, .int .i64 (w : Int), .lst 1 [], .lst 1 (wordsN w (fillN (upF b a) w))]) := by
    intro m
    induction m with
    | zero =>
      intro i hm hi hbi
      have : i = w := by omega
      subst this
      exact Ev.eq (fun n => bv_up_L0_eq n ..) (Ev.no (decide_eq_false (by omega)) (Ev.ret ⟨_, rfl⟩))
    | succ m ih =>
      intro i hm hi hbi
      refine Ev.eq (fun n => bv_up_L0_eq n ..) (Ev.yes (decide_eq_true (by omega)) ?_)
      rw [show ((i : Int) - (b : Int)) = ((i - b : Nat) : Int) by omega, wrap_nat (by omega), wrap_succ (by omega)]
      refine evCall (bit_is h2 ha) (Ev.yes rfl (evCall (set_is h2 (show i < w by omega) (fill_lt (upF b a) i) (a.testBit (i - b))) (Ev.yes rfl ?_)))
      have nx := ih (i + 1) (by omega) (by omega) (by omega)
      rw [fill_succ, show upF b a i = a.testBit (i - b) by unfold upF; rw [decide_eq_true hbi, Bool.true_and]] at nx
      exact nx
  refine Ev.eq (fun n => bv_up_eq n ..) (evCall (blank_is h1 h2) (Ev.yes rfl ?_))
  by_cases hw : b ≤ w
  · have z : fillN (upF b a) b = 0 := fill_zero fun i hi => by unfold upF; rw [decide_eq_false (by omega), Bool.false_and]
    have l := loop (w - b) b rfl hw (Nat.le_refl _)
    rw [z] at l
    refine Ev.bindL l (fun ds h => by obtain ⟨_, h⟩ := h; cases h) fun ds h => ?_
    obtain ⟨_, h⟩ := h
    cases h
    exact Ev.yes rfl (Ev.ret rfl)
  · have z : fillN (upF b a) w = 0 := fill_zero fun i hi => by unfold upF; rw [decide_eq_false (by omega), Bool.false_and]
    rw [z]
    refine evLoop (Ev.eq (fun n => bv_up_L0_eq n ..) (Ev.no (decide_eq_false (by omega)) (Ev.ret rfl))) (Ev.yes rfl (Ev.ret rfl))
def downF (w b a : Nat) (s : Bool) (i : Nat) : Bool := bif decide (i + b < w) then a.testBit (i + b) else s
theorem down_is {w a b : Nat} (h1 : 1 ≤ w) (h2 : w ≤ 128) (ha : a < 2 ^ w) (hb : b ≤ 1000) (s : Bool) : Ev (fun n => bv_down n (vec w a) (.int .i64 (b : Int)) (.bool s)) fun r => r = (true, [vec w (fillN (downF w b a s) w)]) := by
  have loop : ∀ (m i : Nat), w - i = m → i ≤ w → Ev (fun n => bv_down_L0 n (.int .i64 (b : Int)) (.bool s) (.int .i64 (w : Int)) (.int .i64 (i : Int)) (.int .i64 (w : Int)) (.lst 1 (wordsN w a)) (.int .i64 0) (.int .i64 (w : Int)) (.lst 1 []) (.lst 1 (wordsN w (fillN (downF w b a s) i)))) fun r => ∃ i' : Int, r = (false, [.int .i64 (b : Int), .bool s, .int .i64 (w : Int), .int .i64 i', .int .i64 (w : Int), .lst 1 (wordsN w a), .int .i64 0, .int .i64 (w : Int), .lst 1 [], .lst 1 (wordsN w (fillN (downF w b a s) w))]) := by
    intro m
    induction m with
    | zero =>
      intro i hm hi
      have : i = w := by omega
      subst this
      exact Ev.eq (fun n => bv_down_L0_eq n ..) (Ev.no (decide_eq_false (by omega)) (Ev.ret ⟨_, rfl⟩))
    | succ m ih =>
      intro i hm hi
      have nx := ih (i + 1) (by omega) (by omega)
      rw [fill_succ] at nx
      refine Ev.eq (fun n => bv_down_L0_eq n ..) (Ev.yes (decide_eq_true (by omega)) ?_)
      rw [wrap_succ (by omega), wrap_id (x := (w : Int) - (b : Int)) (by omega) (by omega)]
      by_cases hc : i + b < w
      · refine Ev.yes (decide_eq_true (by omega)) ?_
        rw [show ((i : Int) + (b : Int)) = ((i + b : Nat) : Int) by omega, wrap_nat (by omega)]
        refine evCall (bit_is h2 ha) (Ev.yes rfl (evCall (set_is h2 (show i < w by omega) (fill_lt _ i) (a.testBit (i + b))) (Ev.yes rfl ?_)))
        rw [show downF w b a s i = a.testBit (i + b) by unfold downF; rw [decide_eq_true hc]; rfl] at nx
        exact nx
      · refine Ev.no (decide_eq_false (by omega)) (evCall (set_is h2 (show i < w by omega) (fill_lt _ i) s) (Ev.yes rfl ?_))
        rw [show downF w b a s i = s by unfold downF; rw [decide_eq_false hc]; rfl] at nx
        exact nx
  refine Ev.eq (fun n => bv_down_eq n ..) (evCall (blank_is h1 h2) (Ev.yes rfl ?_))
  refine Ev.bindL (loop w 0 rfl (Nat.zero_le _)) (fun ds h => by obtain ⟨_, h⟩ := h; cases h) fun ds h => ?_
  obtain ⟨_, h⟩ := h
  cases h
  exact Ev.yes rfl (Ev.ret rfl)
def cutF (lo a i : Nat) : Bool := a.testBit (lo + i)
theorem slice_is {w a lo k : Nat} (h2 : w ≤ 128) (ha : a < 2 ^ w) (h1 : 1 ≤ k) (hk : lo + k ≤ w) : Ev (fun n => bv_Slice n (vec w a) (.int .i64 (lo : Int)) (.int .i64 (k : Int))) fun r => r = (true, [vec k (fillN (cutF lo a) k), .int .i64 0]) := by
  have loop : ∀ (m i : Nat), k - i = m → i ≤ k → Ev (fun n => bv_Slice_L0 n (.int .i64 (lo : Int)) (.int .i64 (k : Int)) (.int .i64 (i : Int)) (.int .i64 (w : Int)) (.lst 1 (wordsN w a)) (.int .i64 0) (.int .i64 (k : Int)) (.lst 1 []) (.lst 1 (wordsN k (fillN (cutF lo a) i)))) fun r => ∃ i' : Int, r = (false, [.int .i64 (lo : Int), .int .i64 (k : Int), .int .i64 i', .int .i64 (w : Int), .lst 1 (wordsN w a), .int .i64 0, .int .i64 (k : Int), .lst 1 [], .lst 1 (wordsN k (fillN (cutF lo a) k))]) := by
    intro m
    induction m with
    | zero =>
      intro i hm hi
      have : i = k := by omega
      subst this
      exact Ev.eq (fun n => bv_Slice_L0_eq n ..) (Ev.no (decide_eq_false (by omega)) (Ev.ret ⟨_, rfl⟩))
    | succ m ih =>
      intro i hm hi
      have nx := ih (i + 1) (by omega) (by omega)
      rw [fill_succ] at nx
      refine Ev.eq (fun n => bv_Slice_L0_eq n ..) (Ev.yes (decide_eq_true (by omega)) ?_)
      rw [wrap_succ (by omega), show ((lo : Int) + (i : Int)) = ((lo + i : Nat) : Int) by omega, wrap_nat (by omega)]
      exact evCall (bit_is h2 ha) (Ev.yes rfl (evCall (set_is (by omega) (show i < k by omega) (fill_lt _ i) (a.testBit (lo + i))) (Ev.yes rfl nx)))
  refine Ev.eq (fun n => bv_Slice_eq n ..) (Ev.no (decide_eq_false (by omega)) (Ev.no (decide_eq_false (by omega)) (Ev.no (decide_eq_false (by omega)) ?_)))
  rw [wrap_id (x := (w : Int) - (k : Int)) (by omega) (by omega), decide_eq_false (show ¬ (lo : Int) > (w : Int) - (k : Int) by omega)]
  refine evDfn (fun n => bv_Slice_j1_def n ..) (Ev.no rfl (evCall (blank_is h1 (by omega)) (Ev.yes rfl ?_)))
  refine Ev.bindL (loop k 0 rfl (Nat.zero_le _)) (fun ds h => by obtain ⟨_, h⟩ := h; cases h) fun ds h => ?_
  obtain ⟨_, h⟩ := h
  cases h
  exact Ev.yes rfl (Ev.ret rfl)
theorem negative_is {w a : Nat} (h1 : 1 ≤ w) (h2 : w ≤ 128) (ha : a < 2 ^ w) : Ev (fun n => bv_negative n (vec w a)) fun r => r = (true, [.bool (a.testBit (w - 1))]) := by
  refine Ev.eq (fun n => bv_negative_eq n ..) ?_
  rw [show ((w : Int) - 1) = ((w - 1 : Nat) : Int) by omega, wrap_nat (by omega)]
  exact evCall (bit_is h2 ha) (Ev.yes rfl (Ev.ret rfl))
def extF (w a : Nat) (s : Bool) (i : Nat) : Bool := bif decide (i < w) then a.testBit i else s && a.testBit (w - 1)
theorem ext_is {w a k : Nat} (h1 : 1 ≤ w) (h2 : w ≤ 128) (ha : a < 2 ^ w) (k1 : 1 ≤ k) (k2 : k ≤ 128) (s : Bool) : Ev (fun n => bv_Ext n (vec w a) (.int .i64 (k : Int)) (.bool s)) fun r => r = (true, [vec k (fillN (extF w a s) k), .int .i64 0]) := by
  have high : ∀ i, w ≤ i → a.testBit i = false := fun i hi => Nat.testBit_lt_two_pow (Nat.lt_of_lt_of_le ha (Nat.pow_le_pow_right (by omega) hi))
  have loop : ∀ (m i : Nat), k - i = m → i ≤ k → Ev (fun n => bv_Ext_L0 n (.bool s) (.int .i64 (k : Int)) (.int .i64 (i : Int)) (.int .i64 (w : Int)) (.lst 1 (wordsN w a)) (.int .i64 0) (.int .i64 (k : Int)) (.lst 1 []) (.lst 1 (wordsN k (fillN (extF w a s) i)))) fun r => ∃ i' : Int, r = (false, [.bool s, .int .i64 (k : Int), .int .i64 i', .int .i64 (w : Int), .lst 1 (wordsN w a), .int .i64 0, .int .i64 (k : Int), .lst 1 [], .lst 1 (wordsN k (fillN (extF w a s) k))]) := by
    intro m
    induction m with
    | zero =>
      intro i hm hi
      have : i = k := by omega
      subst this
      exact Ev.eq (fun n => bv_Ext_L0_eq n ..) (Ev.no (decide_eq_false (by omega)) (Ev.ret ⟨_, rfl⟩))
    | succ m ih =>
      intro i hm hi
      have nx := ih (i + 1) (by omega) (by omega)
      rw [fill_succ] at nx
      have st := fun b => set_is (w := k) (v := fillN (extF w a s) i) k2 (show i < k by omega) (fill_lt _ i) b
      refine Ev.eq (fun n => bv_Ext_L0_eq n ..) (Ev.yes (decide_eq_true (by omega)) ?_)
      rw [wrap_succ (by omega)]
      refine evCall (bit_is h2 ha) (Ev.yes rfl ?_)
      show Ev (fun n => bif a.testBit i then _ else _) _
      by_cases hw : i < w
      · rw [show extF w a s i = a.testBit i by unfold extF; rw [decide_eq_true hw]; rfl] at nx
        cases hb : a.testBit i with
        | true => rw [hb] at nx; exact Ev.yes rfl (evCall (st true) (Ev.yes rfl nx))
        | false => rw [hb] at nx; exact Ev.no rfl (Ev.no (decide_eq_false (by omega)) (evCall (st false) (Ev.yes rfl nx)))
      · rw [show extF w a s i = (s && a.testBit (w - 1)) by unfold extF; rw [decide_eq_false hw]; rfl] at nx
        rw [high i (by omega)]
        refine Ev.no rfl (Ev.yes (decide_eq_true (by omega)) ?_)
        cases s with
        | true => exact Ev.yes rfl (evCall (negative_is h1 h2 ha) (Ev.yes rfl (evCall (st (a.testBit (w - 1))) (Ev.yes rfl nx))))
        | false => exact Ev.no rfl (evCall (st false) (Ev.yes rfl nx))
  refine Ev.eq (fun n => bv_Ext_eq n ..) (evCall (good_is k1 k2) (Ev.yes rfl (Ev.no rfl ?_)))
  rw [ne_zero h1]
  refine evDfn (fun n => bv_Ext_j1_def n ..) (Ev.no rfl (evCall (blank_is k1 k2) (Ev.yes rfl ?_)))
  refine Ev.bindL (loop k 0 rfl (Nat.zero_le _)) (fun ds h => by obtain ⟨_, h⟩ := h; cases h) fun ds h => ?_
  obtain ⟨_, h⟩ := h
  cases h
  exact Ev.yes rfl (Ev.ret rfl)
theorem truth_is (b : Bool) : Ev (fun n => bv_truth n (.bool b)) fun r => r = (true, [vec 1 b.toNat]) := by
  have h := set_is (w := 1) (v := 0) (j := 0) (by omega) (by omega) (by omega) b
  rw [Nat.zero_add, Nat.pow_zero, Nat.mul_one] at h
  exact Ev.eq (fun n => bv_truth_eq n _) (evCall (blank_is (w := 1) (by omega) (by omega)) (Ev.yes rfl (evCall h (Ev.yes rfl (Ev.ret rfl)))))
theorem less_is {w a b : Nat} (h2 : w ≤ 64) : Ev (fun n => bv_less n (vec w a) (vec w b)) fun r => r = (true, [.bool (decide (a < b))]) := by
  refine Ev.eq (fun n => bv_less_eq n ..) ?_
  rw [wordsN1 h2, wordsN1 h2]
  show Ev (fun n => bindL (bv_less_L0 n (.int .i64 (IntKind.i64.wrap (1 - 1))) (.int .i64 (w : Int)) (.lst 1 [wd a]) (.int .i64 (w : Int)) (.lst 1 [wd b])) _) _
  rw [show IntKind.i64.wrap (1 - 1) = 0 from rfl]
  have step : Ev (fun n => bv_less_L0 n (.int .i64 0) (.int .i64 (w : Int)) (.lst 1 [wd a]) (.int .i64 (w : Int)) (.lst 1 [wd b])) fun r => r = bif ((a : Int) != (b : Int)) then (true, [.bool (decide ((a : Int) < (b : Int)))]) else (false, [.int .i64 (-1), .int .i64 (w : Int), .lst 1 [wd a], .int .i64 (w : Int), .lst 1 [wd b]]) := by
    refine Ev.eq (fun n => bv_less_L0_eq n ..) (Ev.yes rfl (Ev.yes rfl (Ev.yes rfl (Ev.yes rfl (Ev.yes rfl ?_)))))
    show Ev (fun n => bif ((a : Int) != (b : Int)) then _ else _) _
    cases hab : (a : Int) != (b : Int) with
    | true => exact Ev.yes rfl (Ev.yes rfl (Ev.yes rfl (Ev.yes rfl (Ev.yes rfl (Ev.ret rfl)))))
    | false =>
      refine Ev.no rfl ?_
      rw [show IntKind.i64.wrap (0 - 1) = -1 from rfl]
      exact Ev.eq (fun n => bv_less_L0_eq n ..) (Ev.no rfl (Ev.ret rfl))
  cases hab : (a : Int) != (b : Int) with
  | true =>
    rw [hab] at step
    refine Ev.bindL step (fun ds h => ?_) fun ds h => by cases h
    rw [h, dec_nat]; rfl
  | false =>
    rw [hab] at step
    refine evLoop step (Ev.yes rfl (Ev.ret ?_))
    have : (a : Int) = (b : Int) := by simpa using hab
    rw [decide_eq_false (by omega)]
theorem any_is {w a : Nat} (h2 : w ≤ 64) : Ev (fun n => bv_any n (vec w a)) fun r => r = (true, [.bool (decide (a ≠ 0))]) := by
  refine Ev.eq (fun n => bv_any_eq n ..) ?_
  rw [wordsN1 h2]
  have h0 : Ev (fun n => slices_IndexFunc_uint64 n (.lst 1 [wd a])) fun r => r = (true, [.int .i64 (bif decide (a ≠ 0) then 0 else -1)]) := by
    refine Ev.eq (fun n => slices_IndexFunc_uint64_eq n ..) ?_
    have step : Ev (fun n => slices_IndexFunc_uint64_L0 n (.lst 1 [wd a]) (.int .i64 1) (.int .i64 0)) fun r => r = bif ((a : Int) != 0) then (true, [.int .i64 0]) else (false, [.lst 1 [wd a], .int .i64 1, .int .i64 1]) := by
      refine Ev.eq (fun n => slices_IndexFunc_uint64_L0_eq n ..) (Ev.yes rfl (Ev.yes rfl (Ev.yes rfl (evCall (Ev.eq (fun n => bv_any_1_eq n _) (Ev.ret rfl)) (Ev.yes rfl ?_)))))
      show Ev (fun n => bif ((a : Int) != 0) then _ else _) _
      cases hab : (a : Int) != 0 with
      | true => exact Ev.yes rfl (Ev.ret rfl)
      | false =>
        refine Ev.no rfl ?_
        rw [show IntKind.i64.wrap (0 + 1) = 1 from rfl]
        exact Ev.eq (fun n => slices_IndexFunc_uint64_L0_eq n ..) (Ev.no rfl (Ev.ret rfl))
    have e : ((a : Int) != 0) = decide (a ≠ 0) := by
      rw [Bool.eq_iff_iff]; simp
    rw [e] at step
    cases hab : decide (a ≠ 0) with
    | true =>
      rw [hab] at step
      exact Ev.bindL step (fun ds h => h) fun ds h => by cases h
    | false =>
      rw [hab] at step
      exact evLoop step (Ev.yes rfl (Ev.ret rfl))
  have h1 : Ev (fun n => slices_ContainsFunc_uint64 n (.lst 1 [wd a])) fun r => r = (true, [.bool (decide (a ≠ 0))]) := by
    refine Ev.eq (fun n => slices_ContainsFunc_uint64_eq n ..) (evCall h0 (Ev.yes rfl (Ev.ret ?_)))
    cases decide (a ≠ 0) <;> rfl
  exact evCall h1 (Ev.yes rfl (Ev.ret rfl))
theorem equal_is {w a b : Nat} (h2 : w ≤ 64) : Ev (fun n => bv_Equal n (vec w a) (vec w b)) fun r => r = (true, [.bool (decide (a = b))]) := by
  refine Ev.eq (fun n => bv_Equal_eq n ..) (Ev.yes (beq_self_eq_true _) ?_)
  rw [wordsN1 h2, wordsN1 h2]
  have step : Ev (fun n => slices_Equal_uint64_L0 n (.lst 1 [wd a]) (.lst 1 [wd b]) (.int .i64 1) (.int .i64 0)) fun r => r = bif ((a : Int) != (b : Int)) then (true, [.bool false]) else (false, [.lst 1 [wd a], .lst 1 [wd b], .int .i64 1, .int .i64 1]) := by
    refine Ev.eq (fun n => slices_Equal_uint64_L0_eq n ..) (Ev.yes rfl (Ev.yes rfl (Ev.yes rfl (Ev.yes rfl (Ev.yes rfl ?_)))))
    show Ev (fun n => bif ((a : Int) != (b : Int)) then _ else _) _
    cases hab : (a : Int) != (b : Int) with
    | true => exact Ev.yes rfl (Ev.ret rfl)
    | false =>
      refine Ev.no rfl ?_
      rw [show IntKind.i64.wrap (0 + 1) = 1 from rfl]
      exact Ev.eq (fun n => slices_Equal_uint64_L0_eq n ..) (Ev.no rfl (Ev.ret rfl))
  have e : ((a : Int) != (b : Int)) = !decide (a = b) := by
    rw [Bool.eq_iff_iff]; simp; omega
  rw [e] at step
  refine evCall (ds := [.bool (decide (a = b))]) (Ev.eq (fun n => slices_Equal_uint64_eq n ..) (Ev.no rfl ?_)) (Ev.yes rfl (Ev.ret rfl))
  cases hab : decide (a = b) with
  | true =>
    rw [hab] at step
    exact evLoop step (Ev.yes rfl (Ev.ret rfl))
  | false =>
    rw [hab] at step
    exact Ev.bindL step (fun ds h => h) fun ds h => by cases h
end Go.Proofs.YthlhbocobgkdmaaGreat
