/- All operations on two: the own vector and the document's list of bits hold the same number. -/
import Derived.Test.YthlhbocobgkdmaaGreatMkD
namespace Go.Proofs.YthlhbocobgkdmaaGreat
open Go.AE
set_option linter.unusedVariables false
set_option linter.unusedSimpArgs false
def resW (w op : Nat) : Nat := if op < 13 then w else 1
def resN (w a b : Nat) : Nat → Nat
  | 0 => (a + b) % 2 ^ w
  | 1 => (a + (2 ^ w - 1 - b) + 1) % 2 ^ w
  | 2 => a * b % 2 ^ w
  | 3 => qN w a b
  | 4 => a % b
  | 5 => sqN w a b
  | 6 => srN w a b
  | 7 => a &&& b
  | 8 => a ||| b
  | 9 => a ^^^ b
  | 10 => a * 2 ^ (min b w) % 2 ^ w
  | 11 => fillN (downF w (min b w) a false) w
  | 12 => fillN (downF w (min b w) a (a.testBit (w - 1))) w
  | 13 => (decide (a = b)).toNat
  | 14 => (!decide (a = b)).toNat
  | 15 => (decide (a < b)).toNat
  | 16 => (!decide (b < a)).toNat
  | 17 => (slt w a b).toNat
  | 18 => (!slt w b a).toNat
  | _ => 0
theorem resN_lt {w a b : Nat} (h1 : 1 ≤ w) (ha : a < 2 ^ w) (hb : b < 2 ^ w) : ∀ op, op < 19 → resN w a b op < 2 ^ resW w op
  | 0, _ | 1, _ | 2, _ | 10, _ => Nat.mod_lt _ (Nat.two_pow_pos w)
  | 3, _ => qN_lt ha
  | 4, _ => rN_lt ha
  | 5, _ => sqN_lt ha
  | 6, _ => srN_lt ha
  | 7, _ => Nat.and_lt_two_pow _ hb
  | 8, _ => Nat.or_lt_two_pow ha hb
  | 9, _ => Nat.xor_lt_two_pow ha hb
  | 11, _ | 12, _ => fill_lt _ _
  | 13, _ | 14, _ | 15, _ | 16, _ | 17, _ | 18, _ => Nat.lt_of_le_of_lt (Bool.toNat_le _) (show 1 < 2 ^ 1 by decide)
  | n + 19, h => absurd h (by omega)
section
variable {w a b : Nat} (h1 : 1 ≤ w) (h2 : w ≤ 64) (ha : a < 2 ^ w) (hb : b < 2 ^ w)
include h1 h2 ha hb
theorem divide_is (op : Nat) (h : op = 3 ∨ op = 4 ∨ op = 5 ∨ op = 6) : Ev (fun n => bv_divide n (.int .i64 (op : Int)) (vec w a) (vec w b)) fun r => r = (true, [vec w (resN w a b op)]) := by
  refine Ev.eq (fun n => bv_divide_eq n ..) (evCall (split_is h1 h2 ha hb) (Ev.yes rfl ?_))
  have sg := signed_is h1 h2 ha hb
  rcases h with rfl | rfl | rfl | rfl
  · exact Ev.no rfl (evDfn (fun n => bv_divide_j1_def n ..) (Ev.no rfl (Ev.yes rfl (Ev.ret rfl))))
  · exact Ev.no rfl (evDfn (fun n => bv_divide_j1_def n ..) (Ev.no rfl (Ev.no rfl (Ev.no rfl (Ev.ret rfl)))))
  · exact Ev.yes rfl (evDfn (fun n => bv_divide_j1_def n ..) (Ev.yes rfl (evCall sg (Ev.yes rfl (Ev.no rfl (Ev.yes rfl (Ev.ret rfl)))))))
  · exact Ev.no rfl (evDfn (fun n => bv_divide_j1_def n ..) (Ev.yes rfl (evCall sg (Ev.yes rfl (Ev.no rfl (Ev.no rfl (Ev.ret rfl)))))))
theorem shift_is (op : Nat) (h : op = 10 ∨ op = 11 ∨ op = 12) : Ev (fun n => bv_shift n (.int .i64 (op : Int)) (vec w a) (vec w b)) fun r => r = (true, [vec w (resN w a b op)]) := by
  have hm : min b w ≤ 1000 := by omega
  refine Ev.eq (fun n => bv_shift_eq n ..) (evCall (num_is (w := w) (a := b) (m := w) h1 (by omega) hb (by omega)) (Ev.yes rfl ?_))
  rcases h with rfl | rfl | rfl
  · have u := up_is (w := w) (a := a) (b := min b w) h1 (by omega) ha hm
    rw [up_mul] at u
    exact Ev.yes rfl (evCall u (Ev.yes rfl (Ev.ret rfl)))
  · exact Ev.no rfl (Ev.yes rfl (evCall (down_is h1 (by omega) ha hm false) (Ev.yes rfl (Ev.ret rfl))))
  · exact Ev.no rfl (Ev.no rfl (evCall (negative_is h1 (by omega) ha) (Ev.yes rfl (evCall (down_is h1 (by omega) ha hm (a.testBit (w - 1))) (Ev.yes rfl (Ev.ret rfl))))))
def cmpB (w a b : Nat) : Nat → Bool
  | 13 => decide (a = b)
  | 14 => !decide (a = b)
  | 15 => decide (a < b)
  | 16 => !decide (b < a)
  | 17 => slt w a b
  | _ => !slt w b a
theorem compare_is (op : Nat) (h : op = 13 ∨ op = 14 ∨ op = 15 ∨ op = 16 ∨ op = 17 ∨ op = 18) : Ev (fun n => bv_compare n (.int .i64 (op : Int)) (vec w a) (vec w b)) fun r => r = (true, [.bool (cmpB w a b op)]) := by
  refine Ev.eq (fun n => bv_compare_eq n ..) ?_
  have e := equal_is (w := w) (a := a) (b := b) h2
  rcases h with rfl | rfl | rfl | rfl | rfl | rfl
  · exact Ev.yes rfl (evCall e (Ev.yes rfl (Ev.ret rfl)))
  · exact Ev.no rfl (Ev.yes rfl (evCall e (Ev.yes rfl (Ev.ret rfl))))
  · exact Ev.no rfl (Ev.no rfl (Ev.yes rfl (evCall (less_is (a := a) (b := b) h2) (Ev.yes rfl (Ev.ret rfl)))))
  · exact Ev.no rfl (Ev.no rfl (Ev.no rfl (Ev.yes rfl (evCall (less_is (a := b) (b := a) h2) (Ev.yes rfl (Ev.ret rfl))))))
  · exact Ev.no rfl (Ev.no rfl (Ev.no rfl (Ev.no rfl (Ev.yes rfl (evCall (signedLess_is h1 h2 ha hb) (Ev.yes rfl (Ev.ret rfl)))))))
  · exact Ev.no rfl (Ev.no rfl (Ev.no rfl (Ev.no rfl (Ev.no rfl (evCall (signedLess_is h1 h2 hb ha) (Ev.yes rfl (Ev.ret rfl)))))))
theorem bin_own : ∀ op : Nat, op < 19 → Ev (fun n => bv_Bin n (.int .i64 (op : Int)) (vec w a) (vec w b)) fun r => r = (true, [vec (resW w op) (resN w a b op), .int .i64 0]) := by
  have hw0 := ne_zero h1
  have vecE : ∀ x, vec w x = .agg [.int .i64 (w : Int), .lst 1 [wd x]] := fun x => by unfold vec; rw [wordsN1 h2]
  have go : ∀ op : Nat, op < 19 → ∀ {P : Bool × List D → Prop} {X : Nat → Out}, True → True := fun _ _ _ _ h => h
  have dv : ∀ op : Nat, (op = 3 ∨ op = 4 ∨ op = 5 ∨ op = 6) → Ev (fun n => bv_Bin_j1 n true (op : Int) (w : Int) (wordsN w a) (w : Int) (wordsN w b)) fun r => r = (true, [vec w (resN w a b op), .int .i64 0]) := fun op h =>
    evDfn (fun n => bv_Bin_j1_def n ..) (Ev.yes rfl (evCall (divide_is h1 h2 ha hb op h) (Ev.yes rfl (Ev.ret rfl))))
  have tr : ∀ c : Bool, Ev (fun n => bv_truth n (.bool c)) fun r => r = (true, [vec 1 c.toNat]) := truth_is
  intro op hop
  refine Ev.eq (fun n => bv_Bin_eq n ..) (Ev.no (decide_eq_false (by omega)) (Ev.no (decide_eq_false (by omega)) (Ev.no (by simp) (Ev.no hw0 ?_))))
  match op, hop with
  | 0, _ => exact Ev.yes rfl (evCall (plus_is (k := 0) h1 (by omega) ha hb (by omega)) (Ev.yes rfl (Ev.ret rfl)))
  | 1, _ =>
    have nt := not_is (w := w) (a := b) h1 (by omega) hb
    have pl := plus_is (w := w) (a := a) (b := 2 ^ w - 1 - b) (k := 1) h1 (by omega) ha (by omega) (by omega)
    refine Ev.no rfl (Ev.yes rfl (evCall nt (Ev.yes rfl (evCall pl (Ev.yes ?_ (Ev.ret rfl))))))
    rw [wordsN1 h2]; rfl
  | 2, _ => exact Ev.no rfl (Ev.no rfl (Ev.yes rfl (evCall (times_is h1 (by omega) ha hb) (Ev.yes rfl (Ev.ret rfl)))))
  | 3, _ => exact Ev.no rfl (Ev.no rfl (Ev.no rfl (Ev.yes rfl (dv 3 (.inl rfl)))))
  | 4, _ => exact Ev.no rfl (Ev.no rfl (Ev.no rfl (Ev.no rfl (Ev.yes rfl (dv 4 (.inr (.inl rfl)))))))
  | 5, _ => exact Ev.no rfl (Ev.no rfl (Ev.no rfl (Ev.no rfl (Ev.no rfl (Ev.yes rfl (dv 5 (.inr (.inr (.inl rfl)))))))))
  | 6, _ => exact Ev.no rfl (Ev.no rfl (Ev.no rfl (Ev.no rfl (Ev.no rfl (Ev.no rfl (dv 6 (.inr (.inr (.inr rfl)))))))))
  | 7, _ => exact Ev.no rfl (Ev.no rfl (Ev.no rfl (Ev.no rfl (Ev.no rfl (Ev.no rfl (evDfn (fun n => bv_Bin_j1_def n ..) (Ev.no rfl (Ev.yes rfl (evCall (bitwise1_is h1 h2 ha hb) (Ev.yes rfl (Ev.ret rfl)))))))))))
  | 8, _ => exact Ev.no rfl (Ev.no rfl (Ev.no rfl (Ev.no rfl (Ev.no rfl (Ev.no rfl (evDfn (fun n => bv_Bin_j1_def n ..) (Ev.no rfl (Ev.no rfl (Ev.yes rfl (evCall (bitwise2_is h1 h2 ha hb) (Ev.yes rfl (Ev.ret rfl))))))))))))
  | 9, _ => exact Ev.no rfl (Ev.no rfl (Ev.no rfl (Ev.no rfl (Ev.no rfl (Ev.no rfl (evDfn (fun n => bv_Bin_j1_def n ..) (Ev.no rfl (Ev.no rfl (Ev.no rfl (Ev.yes rfl (evCall (bitwise3_is h1 h2 ha hb) (Ev.yes rfl (Ev.ret rfl)))))))))))))
  | 10, _ => exact Ev.no rfl (Ev.no rfl (Ev.no rfl (Ev.no rfl (Ev.no rfl (Ev.no rfl (evDfn (fun n => bv_Bin_j1_def n ..) (Ev.no rfl (Ev.no rfl (Ev.no rfl (Ev.no rfl (Ev.yes rfl (evCall (shift_is h1 h2 ha hb 10 (.inl rfl)) (Ev.yes rfl (Ev.ret rfl))))))))))))))
  | 11, _ => exact Ev.no rfl (Ev.no rfl (Ev.no rfl (Ev.no rfl (Ev.no rfl (Ev.no rfl (evDfn (fun n => bv_Bin_j1_def n ..) (Ev.no rfl (Ev.no rfl (Ev.no rfl (Ev.no rfl (Ev.no rfl (Ev.yes rfl (evCall (shift_is h1 h2 ha hb 11 (.inr (.inl rfl))) (Ev.yes rfl (Ev.ret rfl)))))))))))))))
  | 12, _ => exact Ev.no rfl (Ev.no rfl (Ev.no rfl (Ev.no rfl (Ev.no rfl (Ev.no rfl (evDfn (fun n => bv_Bin_j1_def n ..) (Ev.no rfl (Ev.no rfl (Ev.no rfl (Ev.no rfl (Ev.no rfl (Ev.no rfl (Ev.yes rfl (evCall (shift_is h1 h2 ha hb 12 (.inr (.inr rfl))) (Ev.yes rfl (Ev.ret rfl))))))))))))))))
  | 13, _ | 14, _ | 15, _ | 16, _ | 17, _ | 18, _ => exact Ev.no rfl (Ev.no rfl (Ev.no rfl (Ev.no rfl (Ev.no rfl (Ev.no rfl (evDfn (fun n => bv_Bin_j1_def n ..) (Ev.no rfl (Ev.no rfl (Ev.no rfl (Ev.no rfl (Ev.no rfl (Ev.no rfl (Ev.no rfl (evCall (compare_is h1 h2 ha hb _ (by omega)) (Ev.yes rfl (evCall (tr _) (Ev.yes rfl (Ev.ret rfl))))))))))))))))))
  | n + 19, h => exact absurd h (by omega)
end
def bl (w a : Nat) : List Bool := (List.range w).map a.testBit
theorem bl_bits (w a : Nat) : bitsD w a = (bl w a).map bD := by
  unfold bl bitsD
  rw [List.map_map]; rfl
theorem bl_inj {w a b : Nat} (ha : a < 2 ^ w) (hb : b < 2 ^ w) : (bl w a = bl w b) = (a = b) := by
  refine propext ⟨fun h => ?_, fun h => by rw [h]⟩
  refine Nat.eq_of_testBit_eq fun i => ?_
  by_cases hi : i < w
  · have : (bl w a)[i]? = (bl w b)[i]? := by rw [h]
    unfold bl at this
    rw [List.getElem?_map, List.getElem?_map, List.getElem?_range hi] at this
    exact Option.some.inj this
  · rw [Nat.testBit_lt_two_pow (Nat.lt_of_lt_of_le ha (Nat.pow_le_pow_right (by omega) (by omega))), Nat.testBit_lt_two_pow (Nat.lt_of_lt_of_le hb (Nat.pow_le_pow_right (by omega) (by omega)))]
theorem rEqual_is {w a b : Nat} (hw : w ≤ 1000) (ha : a < 2 ^ w) (hb : b < 2 ^ w) : Ev (fun n => ref01_Equal n (.lst 1 (bitsD w a)) (.lst 1 (bitsD w b))) fun r => r = (true, [.bool (decide (a = b))]) := by
  have h := Equal_is (bl w a) (bl w b) (by simp [bl]; omega)
  rw [← bl_bits, ← bl_bits] at h
  have e : decide (bl w a = bl w b) = decide (a = b) := by
    rw [Bool.eq_iff_iff, decide_eq_true_iff, decide_eq_true_iff, bl_inj ha hb]
  rw [e] at h
  exact h
theorem one_is (b : Bool) : Ev (fun n => ref01_one n (.bool b)) fun r => r = (true, [.lst 1 (bitsD 1 b.toNat)]) :=
  Ev.eq (fun n => ref01_one_eq n _) (Ev.ret (by cases b <;> rfl))
def bitF3 (op a b i : Nat) : Bool := if op = 7 then a.testBit i && b.testBit i else if op = 8 then a.testBit i || b.testBit i else !(a.testBit i == b.testBit i)
theorem bits3_is {w a b : Nat} (hw : w ≤ 1000) (op : Nat) (h : op = 7 ∨ op = 8 ∨ op = 9) : Ev (fun n => ref01_Bin_L1 n (.int .i64 (op : Int)) (.lst 1 (bitsD w a)) (.lst 1 (bitsD w b)) (.int .i64 0) (.lst 1 (bitsD w 0))) fun r => ∃ i' : Int, r = (false, [.int .i64 (op : Int), .lst 1 (bitsD w a), .lst 1 (bitsD w b), .int .i64 i', .lst 1 (bitsD w (fillN (bitF3 op a b) w))]) := by
  have la := bitsD_len w a
  have lb := bitsD_len w b
  have loop : ∀ (m i : Nat) (out : List D), w - i = m → i ≤ w → Done w (bitF3 op a b) i out → Ev (fun n => ref01_Bin_L1 n (.int .i64 (op : Int)) (.lst 1 (bitsD w a)) (.lst 1 (bitsD w b)) (.int .i64 (i : Int)) (.lst 1 out)) fun r => ∃ i' : Int, r = (false, [.int .i64 (op : Int), .lst 1 (bitsD w a), .lst 1 (bitsD w b), .int .i64 i', .lst 1 (bitsD w (fillN (bitF3 op a b) w))]) := by
    intro m
    induction m with
    | zero =>
      intro i out hm hi D0
      have : i = w := by omega
      subst this
      rw [← D0.all]
      exact Ev.eq (fun n => ref01_Bin_L1_eq n ..) (Ev.no (decide_eq_false (by omega)) (Ev.ret ⟨_, rfl⟩))
    | succ m ih =>
      intro i out hm hi D0
      have hi2 : i < w := by omega
      have ia := in_range (show i < (bitsD w a).length by omega)
      have ib := in_range (show i < (bitsD w b).length by omega)
      have io := in_range (show i < out.length by rw [D0.1]; exact hi2)
      have nx := fun x (hxx : x = bitF3 op a b i) => ih (i + 1) (out.set i (.bool x)) (by omega) hi2 (D0.set hi2 hxx)
      refine Ev.eq (fun n => ref01_Bin_L1_eq n ..) (Ev.yes (decide_eq_true (by omega)) ?_)
      have ga := bitsD_at (w := w) (n := a) hi2
      have gb := bitsD_at (w := w) (n := b) hi2
      have j2 : ∀ g : List D, (op = 7 ∨ op = 8) → g = out.set i (.bool (bitF3 op a b i)) → Ev (fun n => ref01_Bin_L1_j2 n g (op : Int) (i : Int) (bitsD w a) (bitsD w b)) fun r => ∃ i' : Int, r = (false, [.int .i64 (op : Int), .lst 1 (bitsD w a), .lst 1 (bitsD w b), .int .i64 i', .lst 1 (bitsD w (fillN (bitF3 op a b) w))]) := by
        intro g ho hg
        refine evDfn (fun n => ref01_Bin_L1_j2_def n ..) ?_
        rw [wrap_succ (by omega), hg]
        rcases ho with rfl | rfl <;> exact Ev.no rfl (nx _ rfl)
      rcases h with rfl | rfl | rfl
      · have j1 : ∀ g : List D, g = out.set i (.bool (bitF3 7 a b i)) → Ev (fun n => ref01_Bin_L1_j1 n g ((7 : Nat) : Int) (i : Int) (bitsD w a) (bitsD w b)) fun r => ∃ i' : Int, r = (false, [.int .i64 ((7 : Nat) : Int), .lst 1 (bitsD w a), .lst 1 (bitsD w b), .int .i64 i', .lst 1 (bitsD w (fillN (bitF3 7 a b) w))]) := fun g hg =>
          evDfn (fun n => ref01_Bin_L1_j1_def n ..) (Ev.no rfl (j2 g (.inl rfl) hg))
        refine Ev.yes rfl (Ev.yes ia ?_)
        rw [ga]
        refine Ev.yes rfl ?_
        show Ev (fun n => bif a.testBit i then _ else _) _
        have f : bitF3 7 a b i = (a.testBit i && b.testBit i) := rfl
        cases hab : a.testBit i with
        | true =>
          rw [gb]
          refine Ev.yes rfl (Ev.yes ib (Ev.yes rfl (Ev.yes io (j1 _ ?_))))
          rw [f, hab, Int.toNat_natCast]; rfl
        | false =>
          refine Ev.no rfl (Ev.yes io (j1 _ ?_))
          rw [f, hab, Int.toNat_natCast]; rfl
      · refine Ev.no rfl (evDfn (fun n => ref01_Bin_L1_j1_def n ..) (Ev.yes rfl (Ev.yes ia ?_)))
        rw [ga]
        refine Ev.yes rfl ?_
        show Ev (fun n => bif a.testBit i then _ else _) _
        have f : bitF3 8 a b i = (a.testBit i || b.testBit i) := rfl
        cases hab : a.testBit i with
        | true =>
          refine Ev.yes rfl (Ev.yes io (j2 _ (.inr rfl) ?_))
          rw [f, hab, Int.toNat_natCast]; rfl
        | false =>
          rw [gb]
          refine Ev.no rfl (Ev.yes ib (Ev.yes rfl (Ev.yes io (j2 _ (.inr rfl) ?_))))
          rw [f, hab, Int.toNat_natCast]; rfl
      · refine Ev.no rfl (evDfn (fun n => ref01_Bin_L1_j1_def n ..) (Ev.no rfl (evDfn (fun n => ref01_Bin_L1_j2_def n ..) (Ev.yes rfl (Ev.yes ia ?_)))))
        rw [ga, gb, wrap_succ (by omega), Int.toNat_natCast]
        exact Ev.yes rfl (Ev.yes ib (Ev.yes rfl (Ev.yes io (nx _ rfl))))
  have z := loop w 0 (bitsD w 0) rfl (Nat.zero_le _) (by rw [← bitsD_zero]; exact Done.zero w _ _)
  exact z
theorem fill7 {w a b : Nat} (hb : b < 2 ^ w) : fillN (bitF3 7 a b) w = a &&& b := fill_ext (Nat.and_lt_two_pow _ hb) fun i _ => by rw [Nat.testBit_and]; rfl
theorem fill8 {w a b : Nat} (ha : a < 2 ^ w) (hb : b < 2 ^ w) : fillN (bitF3 8 a b) w = a ||| b := fill_ext (Nat.or_lt_two_pow ha hb) fun i _ => by rw [Nat.testBit_or]; rfl
theorem fill9 {w a b : Nat} (ha : a < 2 ^ w) (hb : b < 2 ^ w) : fillN (bitF3 9 a b) w = a ^^^ b := fill_ext (Nat.xor_lt_two_pow ha hb) fun i _ => by
  rw [Nat.testBit_xor]
  show (a.testBit i ^^ b.testBit i) = !(a.testBit i == b.testBit i)
  cases a.testBit i <;> cases b.testBit i <;> rfl
end Go.Proofs.YthlhbocobgkdmaaGreat
