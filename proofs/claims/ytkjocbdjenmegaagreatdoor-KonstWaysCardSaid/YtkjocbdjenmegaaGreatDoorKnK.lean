/- Konst: operators of two and conditions, with errors. -/
import Derived.Test.YtkjocbdjenmegaaGreatDoorKnJ
namespace Go.Proofs.YtkjocbdjenmegaaGreatDoor
open Go.AE
set_option linter.unusedVariables false
theorem inR_of {v : Int} (h : inB v = true) : InR v := by
  unfold inB at h
  rw [Bool.and_eq_true] at h
  exact ⟨of_decide_eq_true h.1, of_decide_eq_true h.2⟩
/-- The first operand has an error, or there was one before. -/
theorem two_keep (t : List UInt8) (p0 p1 p2 : Int) {x : D} (hx : IsE x) (ys : List D) {L : List D} {p q r e p' q' r' e' : Int} (he : e' ≠ 0)
    (h : Ev (fun n => konst_evaler_expr n x (.lst 2 L) (.int .i64 p) (.int .i64 q) (.int .i64 r) (.int .i64 e)) fun z => ∃ n : Int, z = (true, stE n L p' q' r' e')) :
    Ev (fun n => konst_evaler_expr n (exD 4 p0 p1 p2 t (x :: ys)) (.lst 2 L) (.int .i64 p) (.int .i64 q) (.int .i64 r) (.int .i64 e)) fun z => z = (true, stE 0 L p' q' r' e') := by
  obtain ⟨k, a, b, c, tt, xs, rfl⟩ := hx
  have hc : (true && decide ((0 : Int) < ((exD k a b c tt xs :: ys).length : Int))) = true := and_tt rfl (decide_eq_true (by simp only [List.length_cons]; omega))
  have ht : Ev (fun n => konst_evaler_two n (exD 4 p0 p1 p2 t (exD k a b c tt xs :: ys)) (.lst 2 L) (.int .i64 p) (.int .i64 q) (.int .i64 r) (.int .i64 e)) fun z => z = (true, stE 0 L p' q' r' e') :=
    Ev.eq (fun n => konst_evaler_two_eq n _ _ _ _ _ _ _ _ _ _ _) (Ev.yes hc (Ev.yes rfl (evCallE (f := fun n => stE n L p' q' r' e') h fun n => Ev.yes rfl (Ev.yes (ne_0' he).1 (Ev.ret rfl)))))
  exact Ev.eq (fun n => konst_evaler_expr_eq n _ _ _ _ _ _ _ _ _ _ _) (Ev.no rfl (Ev.no rfl (Ev.no rfl (Ev.yes rfl (evCall ht (Ev.yes rfl (j1_keep 0 L p' q' r' he p0 p1 p2)))))))
theorem bin_is {t : List UInt8} (ht : t ∈ opT) (p0 p1 p2 : Int) {x y : D} (hx : IsE x) (hy : IsE y) {L E : List D} {R1 R2 : Rz} (h1 : EvalIs x L E R1) (h2 : EvalIs y L E R2) : ∃ R', EvalIs (exD 4 p0 p1 p2 t [x, y]) L E R' := by
  obtain ⟨g1, o1, k1, r1⟩ := h1
  obtain ⟨g2, o2, k2, r2⟩ := h2
  have keep : ∀ p q r e : Int, e ≠ 0 → Ev (fun n => konst_evaler_expr n (exD 4 p0 p1 p2 t [x, y]) (.lst 2 L) (.int .i64 p) (.int .i64 q) (.int .i64 r) (.int .i64 e)) fun z => ∃ n : Int, z = (true, stE n L p q r e) :=
    fun p q r e he => (two_keep t p0 p1 p2 hx [y] he (k1 p q r e he)).mono fun z hz => ⟨0, hz⟩
  cases R1 with
  | bad a b c e =>
    refine ⟨.bad a b c e, g1, (two_keep t p0 p1 p2 hx [y] g1 (own_bad o1)).mono fun z hz => ⟨_, hz, 0, rfl⟩, keep, ?_⟩
    obtain ⟨k, a', b', c', tt, xs, rfl⟩ := hx
    exact Ev.eq (fun n => ref11_Eval_eq n _ _ _ _ _ _ _) (Ev.no rfl (Ev.no rfl (Ev.no rfl (Ev.no rfl (Ev.yes rfl (Ev.yes rfl (Ev.yes rfl (evCall r1 (Ev.yes rfl (Ev.yes (ne_0' g1).1 (Ev.ret rfl)))))))))))
  | ok a =>
    have oa := own_ok o1
    obtain ⟨k, a', b', c', tt, xs, rfl⟩ := hx
    obtain ⟨k', a2, b2, c2, tt2, xs2, rfl⟩ := hy
    have hx : IsE (exD k a' b' c' tt xs) := ⟨_, _, _, _, _, _, rfl⟩
    have hy : IsE (exD k' a2 b2 c2 tt2 xs2) := ⟨_, _, _, _, _, _, rfl⟩
    have short : ∀ v : Int, InR v → Ev (fun n => konst_evaler_two n (exD 4 p0 p1 p2 t [exD k a' b' c' tt xs, exD k' a2 b2 c2 tt2 xs2]) (.lst 2 L) (.int .i64 0) (.int .i64 0) (.int .i64 0) (.int .i64 0)) (fun z => z = (true, st0 v L)) →
        Ev (fun n => ref11_Eval n (exD 4 p0 p1 p2 t [exD k a' b' c' tt xs, exD k' a2 b2 c2 tt2 xs2]) (.lst 2 E)) (fun r => r = (true, [outD v 0 0 0 0])) → ∃ R', EvalIs (exD 4 p0 p1 p2 t [exD k a' b' c' tt xs, exD k' a2 b2 c2 tt2 xs2]) L E R' :=
      fun v hv hw hr => ⟨.ok v, hv, Ev.eq (fun n => konst_evaler_expr_eq n _ _ _ _ _ _ _ _ _ _ _) (Ev.no rfl (Ev.no rfl (Ev.no rfl (Ev.yes rfl (evCall hw (Ev.yes rfl ((j1_ok hv p0 p1 p2 L).mono fun r hr => ⟨_, hr, rfl⟩))))))), keep, hr⟩
    by_cases s1 : t = [38, 38] ∧ a = 0
    · obtain ⟨rfl, rfl⟩ := s1
      refine short 0 ⟨by decide, by decide⟩ ?_ ?_
      · refine Ev.eq (fun n => konst_evaler_two_eq n _ _ _ _ _ _ _ _ _ _ _) ?_
        (repeat (first | refine Ev.no rfl ?_ | refine Ev.yes rfl ?_))
        refine evCall oa ?_
        (repeat (first | refine Ev.no rfl ?_ | refine Ev.yes rfl ?_))
        exact Ev.ret rfl
      · refine Ev.eq (fun n => ref11_Eval_eq n _ _ _ _ _ _ _) ?_
        (repeat (first | refine Ev.no rfl ?_ | refine Ev.yes rfl ?_))
        refine evCall r1 ?_
        (repeat (first | refine Ev.no rfl ?_ | refine Ev.yes rfl ?_))
        exact Ev.ret rfl
    by_cases s2 : t = [124, 124] ∧ a ≠ 0
    · obtain ⟨rfl, ha⟩ := s2
      have hb : (a != 0) = true := by simp [ha]
      refine short 1 ⟨by decide, by decide⟩ ?_ ?_
      · refine Ev.eq (fun n => konst_evaler_two_eq n _ _ _ _ _ _ _ _ _ _ _) ?_
        (repeat (first | refine Ev.no rfl ?_ | refine Ev.yes rfl ?_))
        refine evCall oa ?_
        (repeat (first | refine Ev.no rfl ?_ | refine Ev.yes rfl ?_))
        exact Ev.yes hb (Ev.ret rfl)
      · refine Ev.eq (fun n => ref11_Eval_eq n _ _ _ _ _ _ _) ?_
        (repeat (first | refine Ev.no rfl ?_ | refine Ev.yes rfl ?_))
        refine evCall r1 ?_
        (repeat (first | refine Ev.no rfl ?_ | refine Ev.yes rfl ?_))
        exact evDfn (fun n => ref11_Eval_j3_def n _ _ _ _ _ _ _ _ _) (Ev.yes hb (Ev.ret rfl))
    cases R2 with
    | bad p q r e =>
      have ob := own_bad o2
      have hw : Ev (fun n => konst_evaler_two n (exD 4 p0 p1 p2 t [exD k a' b' c' tt xs, exD k' a2 b2 c2 tt2 xs2]) (.lst 2 L) (.int .i64 0) (.int .i64 0) (.int .i64 0) (.int .i64 0)) fun z => z = (true, stE 0 L p q r e) := by
        have j1 : Ev (fun n => konst_evaler_two_j1 n [exD k a' b' c' tt xs, exD k' a2 b2 c2 tt2 xs2] (st0 a L) t p0 p1 p2 4) fun z => z = (true, stE 0 L p q r e) :=
          evDfn (fun n => konst_evaler_two_j1_def n _ _ _ _ _ _ _) (Ev.yes rfl (Ev.yes rfl (evCallE (f := fun n => stE n L p q r e) ob fun n => Ev.yes rfl (Ev.yes (ne_0' g2).1 (Ev.ret rfl)))))
        refine Ev.eq (fun n => konst_evaler_two_eq n _ _ _ _ _ _ _ _ _ _ _) (Ev.yes rfl (Ev.yes rfl (evCall oa (Ev.yes rfl (Ev.no rfl ?_)))))
        cases e1 : t == [38, 38] with
        | true =>
          have ha : (a == 0) = false := by
            have q := eq_of_beq e1
            simp only [q, true_and] at s1
            simpa using s1
          refine Ev.yes rfl (Ev.no ha ?_)
          cases e2 : t == [124, 124] with
          | true => rw [eq_of_beq e1] at e2; cases e2
          | false => exact Ev.no rfl j1
        | false =>
          refine Ev.no rfl ?_
          cases e2 : t == [124, 124] with
          | true =>
            have ha : (a != 0) = false := by
              have q := eq_of_beq e2
              simp only [q, true_and] at s2
              simpa using s2
            exact Ev.yes rfl (Ev.no ha j1)
          | false => exact Ev.no rfl j1
      refine ⟨.bad p q r e, g2, Ev.eq (fun n => konst_evaler_expr_eq n _ _ _ _ _ _ _ _ _ _ _) (Ev.no rfl (Ev.no rfl (Ev.no rfl (Ev.yes rfl (evCall hw (Ev.yes rfl ((j1_keep 0 L p q r g2 p0 p1 p2).mono fun z hz => ⟨_, hz, 0, rfl⟩))))))), keep, ?_⟩
      have j3 : Ev (fun n => ref11_Eval_j3 n false [exD k a' b' c' tt xs, exD k' a2 b2 c2 tt2 xs2] E t 4 p0 p1 p2 [outD a 0 0 0 0]) fun z => z = (true, [outD 0 p q r e]) :=
        evDfn (fun n => ref11_Eval_j3_def n _ _ _ _ _ _ _ _ _) (Ev.no rfl (Ev.yes rfl (Ev.yes rfl (evCall r2 (Ev.yes rfl (Ev.yes (ne_0' g2).1 (Ev.ret rfl)))))))
      refine Ev.eq (fun n => ref11_Eval_eq n _ _ _ _ _ _ _) (Ev.no rfl (Ev.no rfl (Ev.no rfl (Ev.no rfl (Ev.yes rfl (Ev.yes rfl (Ev.yes rfl (evCall r1 (Ev.yes rfl (Ev.no rfl ?_))))))))))
      cases e1 : t == [38, 38] with
      | true =>
        have ha : (a == 0) = false := by
          have q := eq_of_beq e1
          simp only [q, true_and] at s1
          simpa using s1
        refine Ev.yes rfl (evDfn (fun n => ref11_Eval_j2_def n _ _ _ _ _ _ _ _ _) (Ev.no ha ?_))
        cases e2 : t == [124, 124] with
        | true => rw [eq_of_beq e1] at e2; cases e2
        | false => exact Ev.no rfl j3
      | false =>
        refine Ev.no rfl (evDfn (fun n => ref11_Eval_j2_def n _ _ _ _ _ _ _ _ _) (Ev.no rfl ?_))
        cases e2 : t == [124, 124] with
        | true =>
          have ha : (a != 0) = false := by
            have q := eq_of_beq e2
            simp only [q, true_and] at s2
            simpa using s2
          refine Ev.yes rfl ?_
          show Ev (fun n => ref11_Eval_j3 n (a != 0) _ _ _ _ _ _ _ _) _
          rw [ha]
          exact j3
        | false => exact Ev.no rfl j3
    | ok b =>
      have ob := own_ok o2
      have ho := obin_is ht p0 p1 p2 hx hy g1 g2 oa ob
      have hr := rtwo_is ht p0 p1 p2 hx hy g1 g2 r1 r2
      unfold binR at ho
      unfold rtwoV gd at hr
      cases hof : offB t b with
      | true =>
        rw [hof] at ho hr
        exact ⟨.bad p0 p1 p2 3, by show (3 : Int) ≠ 0; decide, ho.mono fun z hz => ⟨_, hz, 0, rfl⟩, keep, hr⟩
      | false =>
        rw [hof] at ho hr
        cases hin : inB (valT t a b) with
        | true =>
          rw [hin] at ho hr
          exact ⟨.ok (valT t a b), inR_of hin, ho.mono fun z hz => ⟨_, hz, rfl⟩, keep, hr⟩
        | false =>
          rw [hin] at ho hr
          exact ⟨.bad p0 p1 p2 3, by show (3 : Int) ≠ 0; decide, ho.mono fun z hz => ⟨_, hz, 0, rfl⟩, keep, hr⟩
/-- A condition whose test has an error, or behind one. -/
theorem cond_keep (t : List UInt8) (p0 p1 p2 : Int) {x y z : D} (hx : IsE x) (hy : IsE y) {L : List D} {p q r e p' q' r' e' : Int} (he : e' ≠ 0)
    (h : Ev (fun n => konst_evaler_expr n x (.lst 2 L) (.int .i64 p) (.int .i64 q) (.int .i64 r) (.int .i64 e)) fun z => ∃ n : Int, z = (true, stE n L p' q' r' e'))
    (h2 : Ev (fun n => konst_evaler_expr n y (.lst 2 L) (.int .i64 p') (.int .i64 q') (.int .i64 r') (.int .i64 e')) fun z => ∃ n : Int, z = (true, stE n L p' q' r' e')) :
    Ev (fun n => konst_evaler_expr n (exD 5 p0 p1 p2 t [x, y, z]) (.lst 2 L) (.int .i64 p) (.int .i64 q) (.int .i64 r) (.int .i64 e)) fun z => ∃ n : Int, z = (true, stE n L p' q' r' e') := by
  obtain ⟨k, a, b, c, tt, xs, rfl⟩ := hx
  obtain ⟨k2, a2, b2, c2, tt2, xs2, rfl⟩ := hy
  refine Ev.eq (fun n => konst_evaler_expr_eq n _ _ _ _ _ _ _ _ _ _ _) (Ev.no rfl (Ev.no rfl (Ev.no rfl (Ev.no rfl (Ev.yes rfl (Ev.yes rfl (Ev.yes rfl (evCallE (f := fun n => stE n L p' q' r' e') h fun n => Ev.yes rfl (Ev.test (fun _ => ?_) fun _ => ?_)))))))))
  · exact Ev.yes rfl (Ev.yes rfl (evCallE (f := fun n => stE n L p' q' r' e') h2 fun n => Ev.yes rfl (Ev.ret ⟨_, rfl⟩)))
  · exact Ev.no (ne_0' he).2 ((j1_keep 0 L p' q' r' he p0 p1 p2).mono fun z hz => ⟨_, hz⟩)
def condR (R1 R2 R3 : Rz) : Rz := match R1 with
  | .bad a b c e => .bad a b c e
  | .ok v => bif v != 0 then R2 else R3
theorem cond_is (t : List UInt8) (p0 p1 p2 : Int) {x y z : D} (hx : IsE x) (hy : IsE y) (hz : IsE z) {L E : List D} {R1 R2 R3 : Rz} (h1 : EvalIs x L E R1) (h2 : EvalIs y L E R2) (h3 : EvalIs z L E R3) :
    EvalIs (exD 5 p0 p1 p2 t [x, y, z]) L E (condR R1 R2 R3) := by
  obtain ⟨g1, o1, k1, r1⟩ := h1
  obtain ⟨g2, o2, k2, r2⟩ := h2
  obtain ⟨g3, o3, k3, r3⟩ := h3
  have keep : ∀ p q r e : Int, e ≠ 0 → Ev (fun n => konst_evaler_expr n (exD 5 p0 p1 p2 t [x, y, z]) (.lst 2 L) (.int .i64 p) (.int .i64 q) (.int .i64 r) (.int .i64 e)) fun z => ∃ n : Int, z = (true, stE n L p q r e) :=
    fun p q r e he => cond_keep t p0 p1 p2 hx hy he (k1 p q r e he) (k2 p q r e he)
  obtain ⟨c2, e2⟩ := ref_exp R2
  obtain ⟨c3, e3⟩ := ref_exp R3
  cases R1 with
  | bad a b c e =>
    refine ⟨g1, (cond_keep t p0 p1 p2 hx hy g1 (own_bad o1) (k2 a b c e g1)).mono fun z hz => ?_, keep, ?_⟩
    · obtain ⟨n, hz⟩ := hz
      exact ⟨_, hz, n, rfl⟩
    · obtain ⟨k, a', b', c', tt, xs, rfl⟩ := hx
      exact Ev.eq (fun n => ref11_Eval_eq n _ _ _ _ _ _ _) (Ev.no rfl (Ev.no rfl (Ev.no rfl (Ev.yes rfl (Ev.yes rfl (Ev.yes rfl (evCall r1 (Ev.yes rfl (Ev.yes (ne_0' g1).1 (Ev.ret rfl))))))))))
  | ok v =>
    have oa := own_ok o1
    obtain ⟨k, a', b', c', tt, xs, rfl⟩ := hx
    obtain ⟨ky, ay, by', cy, tty, xsy, rfl⟩ := hy
    obtain ⟨kz, az, bz, cz, ttz, xsz, rfl⟩ := hz
    cases hv : v != 0 with
    | true =>
      rw [show condR (.ok v) R2 R3 = R2 by show (bif v != 0 then R2 else R3) = R2; rw [hv]; rfl]
      refine ⟨g2, ?_, keep, ?_⟩
      · refine Ev.eq (fun n => konst_evaler_expr_eq n _ _ _ _ _ _ _ _ _ _ _) (Ev.no rfl (Ev.no rfl (Ev.no rfl (Ev.no rfl (Ev.yes rfl (Ev.yes rfl (Ev.yes rfl (evCall oa (Ev.yes rfl (Ev.yes hv (Ev.yes rfl (Ev.yes rfl ?_))))))))))))
        refine Ev.bindC o2 ?_
        rintro _ _ ⟨ds, h, hds⟩
        cases h
        refine ⟨rfl, ?_⟩
        cases R2 with
        | ok w =>
          cases (show _ = st0 w L from hds)
          exact Ev.yes rfl (Ev.ret ⟨_, rfl, rfl⟩)
        | bad a b c e =>
          obtain ⟨n, hds⟩ := hds
          cases hds
          exact Ev.yes rfl (Ev.ret ⟨_, rfl, n, rfl⟩)
      · refine Ev.eq (fun n => ref11_Eval_eq n _ _ _ _ _ _ _) ?_
        (repeat (first | refine Ev.no rfl ?_ | refine Ev.yes rfl ?_))
        refine evCall r1 ?_
        (repeat (first | refine Ev.no rfl ?_ | refine Ev.yes rfl ?_))
        refine Ev.yes hv ?_
        (repeat (first | refine Ev.no rfl ?_ | refine Ev.yes rfl ?_))
        refine evCall r2 (Ev.yes c2 (Ev.ret ?_))
        show (true, [expTy ty_iiiii R2.ref]) = (true, [R2.ref])
        rw [e2]
    | false =>
      rw [show condR (.ok v) R2 R3 = R3 by show (bif v != 0 then R2 else R3) = R3; rw [hv]; rfl]
      refine ⟨g3, ?_, keep, ?_⟩
      · refine Ev.eq (fun n => konst_evaler_expr_eq n _ _ _ _ _ _ _ _ _ _ _) (Ev.no rfl (Ev.no rfl (Ev.no rfl (Ev.no rfl (Ev.yes rfl (Ev.yes rfl (Ev.yes rfl (evCall oa (Ev.yes rfl (Ev.no hv (Ev.yes rfl (Ev.yes rfl (Ev.yes rfl ?_)))))))))))))
        refine Ev.bindC o3 ?_
        rintro _ _ ⟨ds, h, hds⟩
        cases h
        refine ⟨rfl, ?_⟩
        cases R3 with
        | ok w =>
          cases (show _ = st0 w L from hds)
          exact Ev.yes rfl ((j1_ok g3 p0 p1 p2 L).mono fun r hr => ⟨_, hr, rfl⟩)
        | bad a b c e =>
          obtain ⟨n, hds⟩ := hds
          cases hds
          exact Ev.yes rfl ((j1_keep n L a b c g3 p0 p1 p2).mono fun r hr => ⟨_, hr, n, rfl⟩)
      · refine Ev.eq (fun n => ref11_Eval_eq n _ _ _ _ _ _ _) ?_
        (repeat (first | refine Ev.no rfl ?_ | refine Ev.yes rfl ?_))
        refine evCall r1 ?_
        (repeat (first | refine Ev.no rfl ?_ | refine Ev.yes rfl ?_))
        refine Ev.no hv ?_
        (repeat (first | refine Ev.no rfl ?_ | refine Ev.yes rfl ?_))
        refine evCall r3 (Ev.yes c3 (Ev.ret ?_))
        show (true, [expTy ty_iiiii R3.ref]) = (true, [R3.ref])
        rw [e3]
end Go.Proofs.YtkjocbdjenmegaaGreatDoor
