/- Konst: the law KonstWays, plain. -/
import Derived.Test.YtkjocbdjenmegaaDoorKnN
namespace Go.Proofs.YtkjocbdjenmegaaDoor
open Go.AE
set_option linter.unusedVariables false
def nsT : List UInt8 := [110, 111, 32, 115, 117, 99, 104, 32, 110, 97, 109, 101]
/-- The second operand isn't looked at; or it is, and has an error. -/
theorem and_off {x y : D} (hx : IsE x) (hy : IsE y) {L : List D} (oa : Ev (fun n => konst_evaler_expr n x (.lst 2 L) (.int .i64 0) (.int .i64 0) (.int .i64 0) (.int .i64 0)) fun r => r = (true, st0 0 L)) :
    Ev (fun n => konst_Eval n (exD 4 0 0 0 [38, 38] [x, y]) (.agg [.lst 2 L])) fun r => r = (true, (Rz.ok 0).out) := by
  obtain ⟨k, a, b, c, t, xs, rfl⟩ := hx
  obtain ⟨k', a', b', c', t', xs', rfl⟩ := hy
  have hw : Ev (fun n => konst_evaler_two n (exD 4 0 0 0 [38, 38] [exD k a b c t xs, exD k' a' b' c' t' xs']) (.lst 2 L) (.int .i64 0) (.int .i64 0) (.int .i64 0) (.int .i64 0)) fun z => z = (true, st0 0 L) := by
    refine Ev.eq (fun n => konst_evaler_two_eq n _ _ _ _ _ _ _ _ _ _ _) ?_
    (repeat (first | refine Ev.no rfl ?_ | refine Ev.yes rfl ?_))
    refine evCall oa ?_
    (repeat (first | refine Ev.no rfl ?_ | refine Ev.yes rfl ?_))
    exact Ev.ret rfl
  have he : Ev (fun n => konst_evaler_expr n (exD 4 0 0 0 [38, 38] [exD k a b c t xs, exD k' a' b' c' t' xs']) (.lst 2 L) (.int .i64 0) (.int .i64 0) (.int .i64 0) (.int .i64 0)) fun z => z = (true, st0 0 L) :=
    Ev.eq (fun n => konst_evaler_expr_eq n _ _ _ _ _ _ _ _ _ _ _) (Ev.no rfl (Ev.no rfl (Ev.no rfl (Ev.yes rfl (evCall hw (Ev.yes rfl (j1_ok (v := 0) ⟨by decide, by decide⟩ 0 0 0 L)))))))
  exact Ev.eq (fun n => konst_Eval_eq n _ _ _ _ _ _ _) (evCall he (Ev.yes rfl (Ev.no rfl (Ev.ret rfl))))
theorem or_off {x y : D} (hx : IsE x) (hy : IsE y) {L : List D} {a : Int} (ha : a ≠ 0) (oa : Ev (fun n => konst_evaler_expr n x (.lst 2 L) (.int .i64 0) (.int .i64 0) (.int .i64 0) (.int .i64 0)) fun r => r = (true, st0 a L)) :
    Ev (fun n => konst_Eval n (exD 4 0 0 0 [124, 124] [x, y]) (.agg [.lst 2 L])) fun r => r = (true, (Rz.ok 1).out) := by
  obtain ⟨k, p, b, c, t, xs, rfl⟩ := hx
  obtain ⟨k', a', b', c', t', xs', rfl⟩ := hy
  have hb : (a != 0) = true := by simp [ha]
  have hw : Ev (fun n => konst_evaler_two n (exD 4 0 0 0 [124, 124] [exD k p b c t xs, exD k' a' b' c' t' xs']) (.lst 2 L) (.int .i64 0) (.int .i64 0) (.int .i64 0) (.int .i64 0)) fun z => z = (true, st0 1 L) := by
    refine Ev.eq (fun n => konst_evaler_two_eq n _ _ _ _ _ _ _ _ _ _ _) ?_
    (repeat (first | refine Ev.no rfl ?_ | refine Ev.yes rfl ?_))
    refine evCall oa ?_
    (repeat (first | refine Ev.no rfl ?_ | refine Ev.yes rfl ?_))
    exact Ev.yes hb (Ev.ret rfl)
  have he : Ev (fun n => konst_evaler_expr n (exD 4 0 0 0 [124, 124] [exD k p b c t xs, exD k' a' b' c' t' xs']) (.lst 2 L) (.int .i64 0) (.int .i64 0) (.int .i64 0) (.int .i64 0)) fun z => z = (true, st0 1 L) :=
    Ev.eq (fun n => konst_evaler_expr_eq n _ _ _ _ _ _ _ _ _ _ _) (Ev.no rfl (Ev.no rfl (Ev.no rfl (Ev.yes rfl (evCall hw (Ev.yes rfl (j1_ok (v := 1) ⟨by decide, by decide⟩ 0 0 0 L)))))))
  exact Ev.eq (fun n => konst_Eval_eq n _ _ _ _ _ _ _) (evCall he (Ev.yes rfl (Ev.no rfl (Ev.ret rfl))))
theorem and_bad {x y : D} (hx : IsE x) (hy : IsE y) {L : List D} {a p q r e : Int} (ha : a ≠ 0) (he : e ≠ 0) (oa : Ev (fun n => konst_evaler_expr n x (.lst 2 L) (.int .i64 0) (.int .i64 0) (.int .i64 0) (.int .i64 0)) fun r => r = (true, st0 a L))
    (ob : Ev (fun n => konst_evaler_expr n y (.lst 2 L) (.int .i64 0) (.int .i64 0) (.int .i64 0) (.int .i64 0)) fun z => ∃ n : Int, z = (true, stE n L p q r e)) :
    Ev (fun n => konst_Eval n (exD 4 0 0 0 [38, 38] [x, y]) (.agg [.lst 2 L])) fun z => z = (true, (Rz.bad p q r e).out) := by
  obtain ⟨k, a0, b, c, t, xs, rfl⟩ := hx
  obtain ⟨k', a', b', c', t', xs', rfl⟩ := hy
  have hb : (a == 0) = false := by simp [ha]
  have hw : Ev (fun n => konst_evaler_two n (exD 4 0 0 0 [38, 38] [exD k a0 b c t xs, exD k' a' b' c' t' xs']) (.lst 2 L) (.int .i64 0) (.int .i64 0) (.int .i64 0) (.int .i64 0)) fun z => z = (true, stE 0 L p q r e) := by
    refine Ev.eq (fun n => konst_evaler_two_eq n _ _ _ _ _ _ _ _ _ _ _) ?_
    (repeat (first | refine Ev.no rfl ?_ | refine Ev.yes rfl ?_))
    refine evCall oa ?_
    (repeat (first | refine Ev.no rfl ?_ | refine Ev.yes rfl ?_))
    refine Ev.no hb ?_
    (repeat (first | refine Ev.no rfl ?_ | refine Ev.yes rfl ?_))
    exact evCallE (f := fun n => stE n L p q r e) ob fun n => Ev.yes rfl (Ev.yes (ne_0' he).1 (Ev.ret rfl))
  have hx : Ev (fun n => konst_evaler_expr n (exD 4 0 0 0 [38, 38] [exD k a0 b c t xs, exD k' a' b' c' t' xs']) (.lst 2 L) (.int .i64 0) (.int .i64 0) (.int .i64 0) (.int .i64 0)) fun z => z = (true, stE 0 L p q r e) :=
    Ev.eq (fun n => konst_evaler_expr_eq n _ _ _ _ _ _ _ _ _ _ _) (Ev.no rfl (Ev.no rfl (Ev.no rfl (Ev.yes rfl (evCall hw (Ev.yes rfl (j1_keep 0 L p q r he 0 0 0)))))))
  exact Ev.eq (fun n => konst_Eval_eq n _ _ _ _ _ _ _) (evCall hx (Ev.yes rfl (Ev.yes (ne_0' he).1 (Ev.ret rfl))))
theorem out_chk (R : Rz) : chk konst_Eval.osk R.out = true ∧ (chk konst_Eval.osk R.out && plainDs konst_Eval.osk R.out) = true := by cases R <;> exact ⟨rfl, rfl⟩
theorem clamp_idem (m : Int) : clampI (clampI m) = clampI m := by unfold clampI; omega
end Go.Proofs.YtkjocbdjenmegaaDoor
