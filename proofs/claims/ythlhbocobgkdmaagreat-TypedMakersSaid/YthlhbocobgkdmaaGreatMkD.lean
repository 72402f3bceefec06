/- Signed division, shifts, comparisons, bitwise operations: the own ones and the document's come to the same. -/
import Derived.Test.YthlhbocobgkdmaaGreatMkC
namespace Go.Proofs.YthlhbocobgkdmaaGreat
open Go.AE
set_option linter.unusedVariables false
set_option linter.unusedSimpArgs false
def ngN (w a : Nat) : Nat := (2 ^ w - a) % 2 ^ w
def magN (w a : Nat) : Nat := bif a.testBit (w - 1) then ngN w a else a
theorem ngN_lt (w a : Nat) : ngN w a < 2 ^ w := Nat.mod_lt _ (Nat.two_pow_pos w)
theorem magN_lt {w a : Nat} (ha : a < 2 ^ w) : magN w a < 2 ^ w := by
  unfold magN
  cases a.testBit (w - 1) with
  | true => exact ngN_lt w a
  | false => exact ha
def sqN (w a b : Nat) : Nat := bif decide (b ≠ 0) then (bif !(a.testBit (w - 1) == b.testBit (w - 1)) then ngN w (qN w (magN w a) (magN w b)) else qN w (magN w a) (magN w b)) else qN w a b
def srN (w a b : Nat) : Nat := bif decide (b ≠ 0) then (bif a.testBit (w - 1) then ngN w (magN w a % magN w b) else magN w a % magN w b) else a % b
theorem sqN_lt {w a b : Nat} (ha : a < 2 ^ w) : sqN w a b < 2 ^ w := by
  unfold sqN
  cases decide (b ≠ 0) with
  | true =>
    cases !(a.testBit (w - 1) == b.testBit (w - 1)) with
    | true => exact ngN_lt _ _
    | false => exact qN_lt (magN_lt ha)
  | false => exact qN_lt ha
theorem srN_lt {w a b : Nat} (ha : a < 2 ^ w) : srN w a b < 2 ^ w := by
  unfold srN
  cases decide (b ≠ 0) with
  | true =>
    cases a.testBit (w - 1) with
    | true => exact ngN_lt _ _
    | false => exact rN_lt (magN_lt ha)
  | false => exact rN_lt ha
theorem magnitude_is {w a : Nat} (h1 : 1 ≤ w) (h2 : w ≤ 64) (ha : a < 2 ^ w) : Ev (fun n => bv_magnitude n (vec w a)) fun r => r = (true, [vec w (magN w a)]) := by
  refine Ev.eq (fun n => bv_magnitude_eq n ..) (evCall (negative_is h1 (by omega) ha) (Ev.yes rfl ?_))
  unfold magN
  show Ev (fun n => bif a.testBit (w - 1) then _ else _) _
  cases a.testBit (w - 1) with
  | true => exact Ev.yes rfl (evCall (neg_is h1 (by omega) ha) (Ev.yes rfl (Ev.ret rfl)))
  | false => exact Ev.no rfl (Ev.ret rfl)
theorem signed_is {w a b : Nat} (h1 : 1 ≤ w) (h2 : w ≤ 64) (ha : a < 2 ^ w) (hb : b < 2 ^ w) : Ev (fun n => bv_signed n (vec w a) (vec w b)) fun r => r = (true, [vec w (sqN w a b), vec w (srN w a b)]) := by
  refine Ev.eq (fun n => bv_signed_eq n ..) (evCall (any_is h2) (Ev.yes rfl ?_))
  unfold sqN srN
  cases hd : decide (b ≠ 0) with
  | false => exact Ev.yes rfl (evCall (split_is h1 h2 ha hb) (Ev.yes rfl (Ev.ret rfl)))
  | true =>
    have hma := magN_lt ha
    have hmb := magN_lt hb
    have hq := qN_lt (b := magN w b) hma
    have hr : magN w a % magN w b < 2 ^ w := rN_lt hma
    have na := negative_is (w := w) (a := a) h1 (by omega) ha
    have nb := negative_is (w := w) (a := b) h1 (by omega) hb
    refine Ev.no rfl (evCall (magnitude_is h1 h2 ha) (Ev.yes rfl (evCall (magnitude_is h1 h2 hb) (Ev.yes rfl (evCall (split_is h1 h2 hma hmb) (Ev.yes rfl (evCall na (Ev.yes rfl (evCall nb (Ev.yes rfl ?_))))))))))
    have nq := neg_is (w := w) (a := qN w (magN w a) (magN w b)) h1 (by omega) hq
    have nr := neg_is (w := w) (a := magN w a % magN w b) h1 (by omega) hr
    show Ev (fun n => bif !(a.testBit (w - 1) == b.testBit (w - 1)) then _ else _) _
    cases !(a.testBit (w - 1) == b.testBit (w - 1)) with
    | true =>
      refine Ev.yes rfl (evCall nq (Ev.yes rfl (evCall na (Ev.yes rfl ?_))))
      show Ev (fun n => bif a.testBit (w - 1) then _ else _) _
      cases a.testBit (w - 1) with
      | true => exact Ev.yes rfl (evCall nr (Ev.yes rfl (Ev.ret rfl)))
      | false => exact Ev.no rfl (Ev.ret rfl)
    | false =>
      refine Ev.no rfl (evCall na (Ev.yes rfl ?_))
      show Ev (fun n => bif a.testBit (w - 1) then _ else _) _
      cases a.testBit (w - 1) with
      | true => exact Ev.yes rfl (evCall nr (Ev.yes rfl (Ev.ret rfl)))
      | false => exact Ev.no rfl (Ev.ret rfl)
theorem Signed_is {w a b : Nat} (h1 : 1 ≤ w) (hw : w ≤ 500) (ha : a < 2 ^ w) (hb : b < 2 ^ w) : Ev (fun n => ref01_signed n (.lst 1 (bitsD w a)) (.lst 1 (bitsD w b))) fun r => r = (true, [.lst 1 (bitsD w (sqN w a b)), .lst 1 (bitsD w (srN w a b))]) := by
  refine Ev.eq (fun n => ref01_signed_eq n ..) (evCall (Any_is (by omega) hb) (Ev.yes rfl ?_))
  cases hd : decide (b ≠ 0) with
  | false =>
    rw [show sqN w a b = qN w a b by unfold sqN; rw [hd]; rfl, show srN w a b = a % b by unfold srN; rw [hd]; rfl]
    exact Ev.yes rfl (evCall (Split_is h1 hw ha hb) (Ev.yes rfl (Ev.ret rfl)))
  | true =>
    have hma := magN_lt ha
    have hmb := magN_lt hb
    have hq := qN_lt (b := magN w b) hma
    have hr : magN w a % magN w b < 2 ^ w := rN_lt hma
    have ta := top_is (w := w) (a := a) h1 (by omega)
    have tb := top_is (w := w) (a := b) h1 (by omega)
    have nq := Neg_is (w := w) (a := qN w (magN w a) (magN w b)) (by omega) hq
    have nr := Neg_is (w := w) (a := magN w a % magN w b) (by omega) hr
    have two : Ev (fun n => ref01_signed_j2 n (bitsD w (magN w b)) (bitsD w (magN w a)) (bitsD w a) (bitsD w b)) fun r => r = (true, [.lst 1 (bitsD w (sqN w a b)), .lst 1 (bitsD w (srN w a b))]) := by
      refine evDfn (fun n => ref01_signed_j2_def n ..) (evCall (Split_is h1 hw hma hmb) (Ev.yes rfl (evCall ta (Ev.yes rfl (evCall tb (Ev.yes rfl ?_))))))
      unfold sqN srN
      rw [hd]
      show Ev (fun n => bif !(a.testBit (w - 1) == b.testBit (w - 1)) then _ else _) _
      cases !(a.testBit (w - 1) == b.testBit (w - 1)) with
      | true =>
        refine Ev.yes rfl (evCall nq (Ev.yes rfl (evCall ta (Ev.yes rfl ?_))))
        show Ev (fun n => bif a.testBit (w - 1) then _ else _) _
        cases a.testBit (w - 1) with
        | true => exact Ev.yes rfl (evCall nr (Ev.yes rfl (Ev.ret rfl)))
        | false => exact Ev.no rfl (Ev.ret rfl)
      | false =>
        refine Ev.no rfl (evCall ta (Ev.yes rfl ?_))
        show Ev (fun n => bif a.testBit (w - 1) then _ else _) _
        cases a.testBit (w - 1) with
        | true => exact Ev.yes rfl (evCall nr (Ev.yes rfl (Ev.ret rfl)))
        | false => exact Ev.no rfl (Ev.ret rfl)
    have one : Ev (fun n => ref01_signed_j1 n (bitsD w (magN w a)) (bitsD w b) (bitsD w a)) fun r => r = (true, [.lst 1 (bitsD w (sqN w a b)), .lst 1 (bitsD w (srN w a b))]) := by
      refine evDfn (fun n => ref01_signed_j1_def n ..) (evCall tb (Ev.yes rfl ?_))
      show Ev (fun n => bif b.testBit (w - 1) then _ else _) _
      cases ht : b.testBit (w - 1) with
      | true =>
        rw [show magN w b = ngN w b by unfold magN; rw [ht]; rfl] at two
        exact Ev.yes rfl (evCall (Neg_is (by omega) hb) (Ev.yes rfl two))
      | false =>
        rw [show magN w b = b by unfold magN; rw [ht]; rfl] at two
        exact Ev.no rfl two
    refine Ev.no rfl (evCall ta (Ev.yes rfl ?_))
    show Ev (fun n => bif a.testBit (w - 1) then _ else _) _
    cases ht : a.testBit (w - 1) with
    | true =>
      rw [show magN w a = ngN w a by unfold magN; rw [ht]; rfl] at one
      exact Ev.yes rfl (evCall (Neg_is (by omega) ha) (Ev.yes rfl one))
    | false =>
      rw [show magN w a = a by unfold magN; rw [ht]; rfl] at one
      exact Ev.no rfl one
theorem move_down {w a b : Nat} (s : Bool) : fillN (moveF w a (-(b : Int)) s) w = fillN (downF w b a s) w := by
  refine fill_ext (fill_lt _ _) fun i hi => ?_
  rw [fill_bit, decide_eq_true hi, Bool.true_and]
  unfold moveF downF
  rw [show (i : Int) - -(b : Int) = ((i + b : Nat) : Int) by omega, decide_eq_true (show (0 : Int) ≤ ((i + b : Nat) : Int) by omega), Int.toNat_natCast, Bool.true_and]
  have : decide (((i + b : Nat) : Int) < (w : Int)) = decide (i + b < w) := by
    rw [Bool.eq_iff_iff]; simp; omega
  rw [this]
/-- A number against another, both with a sign. -/
def slt (w a b : Nat) : Bool := bif !(a.testBit (w - 1) == b.testBit (w - 1)) then a.testBit (w - 1) else decide (a < b)
theorem signedLess_is {w a b : Nat} (h1 : 1 ≤ w) (h2 : w ≤ 64) (ha : a < 2 ^ w) (hb : b < 2 ^ w) : Ev (fun n => bv_signedLess n (vec w a) (vec w b)) fun r => r = (true, [.bool (slt w a b)]) := by
  have na := negative_is (w := w) (a := a) h1 (by omega) ha
  have nb := negative_is (w := w) (a := b) h1 (by omega) hb
  refine Ev.eq (fun n => bv_signedLess_eq n ..) (evCall na (Ev.yes rfl (evCall nb (Ev.yes rfl ?_))))
  unfold slt
  show Ev (fun n => bif !(a.testBit (w - 1) == b.testBit (w - 1)) then _ else _) _
  cases !(a.testBit (w - 1) == b.testBit (w - 1)) with
  | true => exact Ev.yes rfl (evCall na (Ev.yes rfl (Ev.ret rfl)))
  | false => exact Ev.no rfl (evCall (less_is h2) (Ev.yes rfl (Ev.ret rfl)))
def flN (w a : Nat) : Nat := bif a.testBit (w - 1) then a - 2 ^ (w - 1) else a + 2 ^ (w - 1)
theorem flN_lt {w a : Nat} (h1 : 1 ≤ w) (ha : a < 2 ^ w) : flN w a < 2 ^ w := by
  unfold flN
  have ht := top_bit h1 ha
  have hp : 2 ^ w = 2 * 2 ^ (w - 1) := by rw [show w = w - 1 + 1 by omega, Nat.pow_succ, Nat.add_sub_cancel, Nat.mul_comm]
  rw [ht]
  by_cases h : 2 ^ w ≤ 2 * a
  · rw [decide_eq_true h]; show a - 2 ^ (w - 1) < 2 ^ w; omega
  · rw [decide_eq_false h]; show a + 2 ^ (w - 1) < 2 ^ w; omega
theorem slt_fl {w a b : Nat} (h1 : 1 ≤ w) (ha : a < 2 ^ w) (hb : b < 2 ^ w) : decide (flN w a < flN w b) = slt w a b := by
  have hp : 2 ^ w = 2 * 2 ^ (w - 1) := by rw [show w = w - 1 + 1 by omega, Nat.pow_succ, Nat.add_sub_cancel, Nat.mul_comm]
  unfold flN slt
  rw [top_bit h1 ha, top_bit h1 hb]
  by_cases c1 : 2 ^ w ≤ 2 * a
  · by_cases c2 : 2 ^ w ≤ 2 * b
    · rw [decide_eq_true c1, decide_eq_true c2]
      show decide (a - 2 ^ (w - 1) < b - 2 ^ (w - 1)) = decide (a < b)
      rw [Bool.eq_iff_iff, decide_eq_true_iff, decide_eq_true_iff]; omega
    · rw [decide_eq_true c1, decide_eq_false c2]
      show decide (a - 2 ^ (w - 1) < b + 2 ^ (w - 1)) = true
      exact decide_eq_true (by omega)
  · by_cases c2 : 2 ^ w ≤ 2 * b
    · rw [decide_eq_false c1, decide_eq_true c2]
      show decide (a + 2 ^ (w - 1) < b - 2 ^ (w - 1)) = false
      exact decide_eq_false (by omega)
    · rw [decide_eq_false c1, decide_eq_false c2]
      show decide (a + 2 ^ (w - 1) < b + 2 ^ (w - 1)) = decide (a < b)
      rw [Bool.eq_iff_iff, decide_eq_true_iff, decide_eq_true_iff]; omega
theorem bitsD_flip {w a : Nat} (h1 : 1 ≤ w) (ha : a < 2 ^ w) : (bitsD w a).set (w - 1) (.bool (!(a.testBit (w - 1)))) = bitsD w (flN w a) := by
  have hl := bitsD_len w a
  obtain ⟨k, rfl⟩ : ∃ k, w = k + 1 := ⟨w - 1, by omega⟩
  refine bitsD_ext (by rw [List.length_set, hl]) fun i hi => ?_
  rw [set_get (by rw [hl]; omega), bitsD_get hi]
  unfold flN
  rw [Nat.add_sub_cancel]
  rw [Nat.pow_succ] at ha
  have tb := top_bit (w := k + 1) (r := a) (by omega) (by rw [Nat.pow_succ]; exact ha)
  rw [Nat.add_sub_cancel, Nat.pow_succ] at tb
  cases hb : a.testBit k with
  | true =>
    rw [hb] at tb
    have tb := of_decide_eq_true tb.symm
    have e : a = 2 ^ k * 1 + (a - 2 ^ k) := by omega
    show (if k = i then some (D.bool false) else some (.bool (a.testBit i))) = some (.bool ((a - 2 ^ k).testBit i))
    by_cases h : k = i
    · rw [if_pos h, ← h, Nat.testBit_lt_two_pow (show a - 2 ^ k < 2 ^ k by omega)]
    · rw [if_neg h]
      conv => lhs; rw [e]
      rw [Nat.testBit_two_pow_mul_add 1 (show a - 2 ^ k < 2 ^ k by omega) i, if_pos (by omega)]
  | false =>
    rw [hb] at tb
    have tb := of_decide_eq_false tb.symm
    show (if k = i then some (D.bool true) else some (.bool (a.testBit i))) = some (.bool ((a + 2 ^ k).testBit i))
    rw [show a + 2 ^ k = 2 ^ k * 1 + a by omega, Nat.testBit_two_pow_mul_add 1 (show a < 2 ^ k by omega) i]
    by_cases h : k = i
    · rw [if_pos h, if_neg (by omega), h, Nat.sub_self]; rfl
    · rw [if_neg h, if_pos (by omega)]
theorem bitwise1_is {w a b : Nat} (h1 : 1 ≤ w) (h2 : w ≤ 64) (ha : a < 2 ^ w) (hb : b < 2 ^ w) : Ev (fun n => bv_bitwise n (vec w a) (vec w b)) fun r => r = (true, [vec w (a &&& b)]) := by
  refine Ev.eq (fun n => bv_bitwise_eq n ..) (evCall (blank_is h1 (by omega)) (Ev.yes rfl ?_))
  have ha' := lt_m64 h2 ha
  have hb' := lt_m64 h2 hb
  have hlt : a &&& b < M64 := lt_m64 h2 (Nat.and_lt_two_pow _ hb)
  unfold vec
  simp only [wordsN1 h2]
  have hk : Ev (fun n => bv_Bin_1 n (.int .u64 (a : Int)) (.int .u64 (b : Int))) fun r => r = (true, [wd (a &&& b)]) := Ev.eq (fun n => bv_Bin_1_eq n ..) (Ev.ret (by rw [and_nat ha' hb', wrap_u64_nat, Nat.mod_eq_of_lt hlt]; rfl))
  exact evLoop (Ev.eq (fun n => bv_bitwise_L0_eq n ..) (Ev.yes rfl (Ev.yes rfl (Ev.yes rfl (Ev.yes rfl (Ev.yes rfl (evCall hk (Ev.yes rfl (Ev.yes rfl (Ev.eq (fun n => bv_bitwise_L0_eq n ..) (Ev.no rfl (Ev.ret rfl)))))))))))) (Ev.yes rfl (Ev.ret rfl))
theorem bitwise2_is {w a b : Nat} (h1 : 1 ≤ w) (h2 : w ≤ 64) (ha : a < 2 ^ w) (hb : b < 2 ^ w) : Ev (fun n => bv_bitwise_2 n (vec w a) (vec w b)) fun r => r = (true, [vec w (a ||| b)]) := by
  refine Ev.eq (fun n => bv_bitwise_2_eq n ..) (evCall (blank_is h1 (by omega)) (Ev.yes rfl ?_))
  have ha' := lt_m64 h2 ha
  have hb' := lt_m64 h2 hb
  have hlt : a ||| b < M64 := lt_m64 h2 (Nat.or_lt_two_pow ha hb)
  unfold vec
  simp only [wordsN1 h2]
  have hk : Ev (fun n => bv_Bin_2 n (.int .u64 (a : Int)) (.int .u64 (b : Int))) fun r => r = (true, [wd (a ||| b)]) := Ev.eq (fun n => bv_Bin_2_eq n ..) (Ev.ret (by rw [or_nat ha' hb', wrap_u64_nat, Nat.mod_eq_of_lt hlt]; rfl))
  exact evLoop (Ev.eq (fun n => bv_bitwise_2_L0_eq n ..) (Ev.yes rfl (Ev.yes rfl (Ev.yes rfl (Ev.yes rfl (Ev.yes rfl (evCall hk (Ev.yes rfl (Ev.yes rfl (Ev.eq (fun n => bv_bitwise_2_L0_eq n ..) (Ev.no rfl (Ev.ret rfl)))))))))))) (Ev.yes rfl (Ev.ret rfl))
theorem bitwise3_is {w a b : Nat} (h1 : 1 ≤ w) (h2 : w ≤ 64) (ha : a < 2 ^ w) (hb : b < 2 ^ w) : Ev (fun n => bv_bitwise_3 n (vec w a) (vec w b)) fun r => r = (true, [vec w (a ^^^ b)]) := by
  refine Ev.eq (fun n => bv_bitwise_3_eq n ..) (evCall (blank_is h1 (by omega)) (Ev.yes rfl ?_))
  have ha' := lt_m64 h2 ha
  have hb' := lt_m64 h2 hb
  have hlt : a ^^^ b < M64 := lt_m64 h2 (Nat.xor_lt_two_pow ha hb)
  unfold vec
  simp only [wordsN1 h2]
  have hk : Ev (fun n => bv_Bin_3 n (.int .u64 (a : Int)) (.int .u64 (b : Int))) fun r => r = (true, [wd (a ^^^ b)]) := Ev.eq (fun n => bv_Bin_3_eq n ..) (Ev.ret (by rw [xor_nat ha' hb', wrap_u64_nat, Nat.mod_eq_of_lt hlt]; rfl))
  exact evLoop (Ev.eq (fun n => bv_bitwise_3_L0_eq n ..) (Ev.yes rfl (Ev.yes rfl (Ev.yes rfl (Ev.yes rfl (Ev.yes rfl (evCall hk (Ev.yes rfl (Ev.yes rfl (Ev.eq (fun n => bv_bitwise_3_L0_eq n ..) (Ev.no rfl (Ev.ret rfl)))))))))))) (Ev.yes rfl (Ev.ret rfl))
end Go.Proofs.YthlhbocobgkdmaaGreat
