/- Konst: the law KonstWays, plain. -/
import Derived.Test.YtkjocbdjenmegaaGreatDoorKnN
namespace Go.Proofs.YtkjocbdjenmegaaGreatDoor
open Go.AE
set_option linter.unusedVariables false
def nsT : List UInt8 := [110, 111, 32, 115, 117, 99, 104, 32, 110, 97, 109, 101]
theorem name_none (p0 p1 p2 : Int) (t : List UInt8) (xs : List D) {lo lr : Env0} (he : EnvOk lo lr) (hq : lookF t lo = none) : EvalIs (exD 2 p0 p1 p2 t xs) (lo.map nmD) (lr.map nmD) (.bad p0 p1 p2 9) := by
  have hf := kfind_is he.szo t
  have hl := rlook_is t p0 p1 p2 xs he.szr he.rng lr.length (Nat.le_refl _)
  rw [List.take_length] at hl
  have hw : IntKind.i64.wrap (((lr.map nmD).length : Int) - 1) = (lr.length : Int) - 1 := by rw [List.length_map]; have := he.szr; exact wrap_id (by omega) (by omega)
  have hq2 : lookF t lr.reverse = none := by have := he.look t; rw [hq] at this; exact this.symm
  rw [hq] at hf
  simp only [hq2] at hl
  refine ⟨by show (9 : Int) ≠ 0; decide, ?_, fun p q r e he => ?_, ?_⟩
  · exact Ev.eq (fun n => konst_evaler_expr_eq n _ _ _ _ _ _ _ _ _ _ _) (Ev.no rfl (Ev.yes rfl (evCall hf (Ev.yes rfl (Ev.yes rfl (evCall (fail_new p0 p1 p2 9 _ 0 0 0) (Ev.yes rfl (Ev.ret ⟨_, rfl, 0, rfl⟩))))))))
  · exact Ev.eq (fun n => konst_evaler_expr_eq n _ _ _ _ _ _ _ _ _ _ _) (Ev.no rfl (Ev.yes rfl (evCall hf (Ev.yes rfl (Ev.yes rfl (evCall (fail_old p0 p1 p2 9 _ p q r he) (Ev.yes rfl (Ev.ret ⟨0, rfl⟩))))))))
  · refine Ev.eq (fun n => ref11_Eval_eq n _ _ _ _ _ _ _) (Ev.no rfl (Ev.yes rfl ?_))
    rw [hw]
    refine Ev.bindL hl (fun ds h => by obtain ⟨_, h⟩ := h; cases h) fun ds h => ?_
    obtain ⟨_, h⟩ := h
    cases h
    exact Ev.yes rfl (bad_step 2 p0 p1 p2 t xs 9)
/-- A number's expression, with errors before it too. -/
theorem num_all {x : D} {v : Int} (h : NumIs x v) {L E : List D} {R : Rz} (hR : EvalIs x L E R) : EvalIs x L E (.ok v) := by
  have e := evAgree hR.2.2.2 (h.2.2 E)
  cases R with
  | ok w =>
    have : w = v := by
      have e : (true, [outD w 0 0 0 0]) = (true, [outD v 0 0 0 0]) := e
      simp [outD] at e
      exact e
    rw [← this]
    exact hR
  | bad a b c q =>
    have e : (true, [outD 0 a b c q]) = (true, [outD v 0 0 0 0]) := e
    simp [outD] at e
    exact absurd e.2.2.2.2 hR.1
def ValIs (x : D) (v : Int) : Prop := IsE x ∧ ∀ L E, EvalIs x L E (.ok v)
theorem dec_val {u : Nat} (h : u < 2147483648) : ValIs (exD 1 0 0 0 (itoaS (u : Int)) []) (u : Int) := by
  obtain ⟨p1, p2⟩ := dec_parse h
  have hl := itoa_len (u : Int)
  exact ⟨⟨_, _, _, _, _, _, rfl⟩, fun L E => knum_is 0 0 0 [] L E (by omega) p1 p2 ⟨by omega, by omega⟩⟩
theorem val_pos {m : Int} (h0 : 0 ≤ m) (h1 : m ≤ 2147483647) : Ev (fun n => konst_Value n (.int .i64 m)) fun r => ∃ x, r = (true, [x]) ∧ ValIs x m := by
  obtain ⟨u, rfl⟩ : ∃ u : Nat, m = (u : Int) := ⟨m.toNat, by omega⟩
  have e : max (-2147483648 : Int) (min (u : Int) 2147483647) = (u : Int) := by omega
  refine Ev.eq (fun n => konst_Value_eq n _) ?_
  rw [e]
  exact Ev.no (by simp) (Ev.no (decide_eq_false (by omega)) (evCall (itoa_is (n := (u : Int)) (by omega) (by omega)) (Ev.yes rfl (Ev.ret ⟨exD 1 0 0 0 (itoaS (u : Int)) [], rfl, dec_val (by omega)⟩))))
theorem val_is (a : Int) : Ev (fun n => konst_Value n (.int .i64 a)) fun r => ∃ x, r = (true, [x]) ∧ ValIs x (clampI a) := by
  obtain ⟨c1, c2⟩ := clamp_in a
  refine Ev.eq (fun n => konst_Value_eq n _) ?_
  show Ev (fun n => bif (clampI a == -2147483648) then _ else bif (decide (clampI a < 0)) then AE.bindC (konst_Value n (.int .i64 (IntKind.i64.wrap (0 - clampI a)))) _ else AE.bindC (strconv_Itoa n (.int .i64 (clampI a))) _) _
  generalize clampI a = m at c1 c2 ⊢
  cases hm : (m == -2147483648) with
  | true =>
    have hm : m = -2147483648 := by simpa using hm
    subst hm
    exact Ev.yes rfl (Ev.ret ⟨exD 1 0 0 0 leastT [], rfl, ⟨_, _, _, _, _, _, rfl⟩, fun L E => knum_is 0 0 0 [] L E (by decide) least_parse least_int ⟨by omega, by omega⟩⟩)
  | false =>
    have hm : m ≠ -2147483648 := by simpa using hm
    refine Ev.no rfl ?_
    cases hn : decide (m < 0) with
    | true =>
      have hn := of_decide_eq_true hn
      have ew : IntKind.i64.wrap (0 - m) = -m := by rw [wrap_id (by omega) (by omega)]; omega
      rw [ew]
      refine Ev.yes rfl (Ev.bindC (val_pos (m := -m) (by omega) (by omega)) ?_)
      rintro _ _ ⟨x, h, hx, hv⟩
      cases h
      obtain ⟨k, a', b, c, t, xs, rfl⟩ := hx
      have hx : IsE (exD k a' b c t xs) := ⟨_, _, _, _, _, _, rfl⟩
      refine ⟨rfl, Ev.yes rfl (Ev.ret ⟨exD 3 0 0 0 [45] [exD k a' b c t xs], rfl, ⟨_, _, _, _, _, _, rfl⟩, fun L E => ?_⟩)⟩
      obtain ⟨R, hR⟩ := un_is [45] 0 0 0 hx (hv L E)
      have ho := oneg_is 0 0 0 hx (v := -m) ⟨by omega, by omega⟩ ⟨by omega, by omega⟩ (own_ok (hv L E).2.1)
      have hr := rneg_is 0 0 0 hx (v := -m) ⟨by omega, by omega⟩ ⟨by omega, by omega⟩ (hv L E).2.2.2
      rw [Int.neg_neg] at ho hr
      exact ⟨⟨by omega, by omega⟩, ho.mono fun r hr => ⟨_, hr, rfl⟩, hR.2.2.1, hr⟩
    | false =>
      have hn := of_decide_eq_false hn
      obtain ⟨u, rfl⟩ : ∃ u : Nat, m = (u : Int) := ⟨m.toNat, by omega⟩
      exact Ev.no rfl (evCall (itoa_is (n := (u : Int)) (by omega) (by omega)) (Ev.yes rfl (Ev.ret ⟨exD 1 0 0 0 (itoaS (u : Int)) [], rfl, dec_val (by omega)⟩)))
/-- The second operand isn't looked at; or it is, and has an error. -/
theorem and_off {x y : D} (hx : IsE x) (hy : IsE y) {L : List D} (oa : Ev (fun n => konst_evaler_expr n x (.lst 2 L) (.int .i64 0) (.int .i64 0) (.int .i64 0) (.int .i64 0)) fun r => r = (true, st0 0 L)) :
    Ev (fun n => konst_Eval n (exD 4 0 0 0 [38, 38] [x, y]) (.agg [.lst 2 L])) fun r => r = (true, (Rz.ok 0).out) := by
  obtain ⟨k, a, b, c, t, xs, rfl⟩ := hx
  obtain ⟨k', a', b', c', t', xs', rfl⟩ := hy
  have hw : Ev (fun n => konst_evaler_two n (exD 4 0 0 0 [38, 38] [exD k a b c t xs, exD k' a' b' c' t' xs']) (.lst 2 L) (.int .i64 0) (.int .i64 0) (.int .i64 0) (.int .i64 0)) fun z => z = (true, st0 0 L) := by
    refine Ev.eq (fun n => konst_evaler_two_eq n _ _ _ _ _ _ _ _ _ _ _) ?_
    (repeat (first | refine Ev.no rfl ?_ | refine Ev.yes rfl ?_))
    refine evCall oa ?_
    (repeat (first | refine Ev.no rfl ?_ | refine Ev.yes rfl ?_))
    exact Ev.ret rfl
  have he : Ev (fun n => konst_evaler_expr n (exD 4 0 0 0 [38, 38] [exD k a b c t xs, exD k' a' b' c' t' xs']) (.lst 2 L) (.int .i64 0) (.int .i64 0) (.int .i64 0) (.int .i64 0)) fun z => z = (true, st0 0 L) :=
    Ev.eq (fun n => konst_evaler_expr_eq n _ _ _ _ _ _ _ _ _ _ _) (Ev.no rfl (Ev.no rfl (Ev.no rfl (Ev.yes rfl (evCall hw (Ev.yes rfl (j1_ok (v := 0) ⟨by decide, by decide⟩ 0 0 0 L)))))))
  exact Ev.eq (fun n => konst_Eval_eq n _ _ _ _ _ _ _) (evCall he (Ev.yes rfl (Ev.no rfl (Ev.ret rfl))))
theorem or_off {x y : D} (hx : IsE x) (hy : IsE y) {L : List D} {a : Int} (ha : a ≠ 0) (oa : Ev (fun n => konst_evaler_expr n x (.lst 2 L) (.int .i64 0) (.int .i64 0) (.int .i64 0) (.int .i64 0)) fun r => r = (true, st0 a L)) :
    Ev (fun n => konst_Eval n (exD 4 0 0 0 [124, 124] [x, y]) (.agg [.lst 2 L])) fun r => r = (true, (Rz.ok 1).out) := by
  obtain ⟨k, p, b, c, t, xs, rfl⟩ := hx
  obtain ⟨k', a', b', c', t', xs', rfl⟩ := hy
  have hb : (a != 0) = true := by simp [ha]
  have hw : Ev (fun n => konst_evaler_two n (exD 4 0 0 0 [124, 124] [exD k p b c t xs, exD k' a' b' c' t' xs']) (.lst 2 L) (.int .i64 0) (.int .i64 0) (.int .i64 0) (.int .i64 0)) fun z => z = (true, st0 1 L) := by
    refine Ev.eq (fun n => konst_evaler_two_eq n _ _ _ _ _ _ _ _ _ _ _) ?_
    (repeat (first | refine Ev.no rfl ?_ | refine Ev.yes rfl ?_))
    refine evCall oa ?_
    (repeat (first | refine Ev.no rfl ?_ | refine Ev.yes rfl ?_))
    exact Ev.yes hb (Ev.ret rfl)
  have he : Ev (fun n => konst_evaler_expr n (exD 4 0 0 0 [124, 124] [exD k p b c t xs, exD k' a' b' c' t' xs']) (.lst 2 L) (.int .i64 0) (.int .i64 0) (.int .i64 0) (.int .i64 0)) fun z => z = (true, st0 1 L) :=
    Ev.eq (fun n => konst_evaler_expr_eq n _ _ _ _ _ _ _ _ _ _ _) (Ev.no rfl (Ev.no rfl (Ev.no rfl (Ev.yes rfl (evCall hw (Ev.yes rfl (j1_ok (v := 1) ⟨by decide, by decide⟩ 0 0 0 L)))))))
  exact Ev.eq (fun n => konst_Eval_eq n _ _ _ _ _ _ _) (evCall he (Ev.yes rfl (Ev.no rfl (Ev.ret rfl))))
theorem and_bad {x y : D} (hx : IsE x) (hy : IsE y) {L : List D} {a p q r e : Int} (ha : a ≠ 0) (he : e ≠ 0) (oa : Ev (fun n => konst_evaler_expr n x (.lst 2 L) (.int .i64 0) (.int .i64 0) (.int .i64 0) (.int .i64 0)) fun r => r = (true, st0 a L))
    (ob : Ev (fun n => konst_evaler_expr n y (.lst 2 L) (.int .i64 0) (.int .i64 0) (.int .i64 0) (.int .i64 0)) fun z => ∃ n : Int, z = (true, stE n L p q r e)) :
    Ev (fun n => konst_Eval n (exD 4 0 0 0 [38, 38] [x, y]) (.agg [.lst 2 L])) fun z => z = (true, (Rz.bad p q r e).out) := by
  obtain ⟨k, a0, b, c, t, xs, rfl⟩ := hx
  obtain ⟨k', a', b', c', t', xs', rfl⟩ := hy
  have hb : (a == 0) = false := by simp [ha]
  have hw : Ev (fun n => konst_evaler_two n (exD 4 0 0 0 [38, 38] [exD k a0 b c t xs, exD k' a' b' c' t' xs']) (.lst 2 L) (.int .i64 0) (.int .i64 0) (.int .i64 0) (.int .i64 0)) fun z => z = (true, stE 0 L p q r e) := by
    refine Ev.eq (fun n => konst_evaler_two_eq n _ _ _ _ _ _ _ _ _ _ _) ?_
    (repeat (first | refine Ev.no rfl ?_ | refine Ev.yes rfl ?_))
    refine evCall oa ?_
    (repeat (first | refine Ev.no rfl ?_ | refine Ev.yes rfl ?_))
    refine Ev.no hb ?_
    (repeat (first | refine Ev.no rfl ?_ | refine Ev.yes rfl ?_))
    exact evCallE (f := fun n => stE n L p q r e) ob fun n => Ev.yes rfl (Ev.yes (ne_0' he).1 (Ev.ret rfl))
  have hx : Ev (fun n => konst_evaler_expr n (exD 4 0 0 0 [38, 38] [exD k a0 b c t xs, exD k' a' b' c' t' xs']) (.lst 2 L) (.int .i64 0) (.int .i64 0) (.int .i64 0) (.int .i64 0)) fun z => z = (true, stE 0 L p q r e) :=
    Ev.eq (fun n => konst_evaler_expr_eq n _ _ _ _ _ _ _ _ _ _ _) (Ev.no rfl (Ev.no rfl (Ev.no rfl (Ev.yes rfl (evCall hw (Ev.yes rfl (j1_keep 0 L p q r he 0 0 0)))))))
  exact Ev.eq (fun n => konst_Eval_eq n _ _ _ _ _ _ _) (evCall hx (Ev.yes rfl (Ev.yes (ne_0' he).1 (Ev.ret rfl))))
theorem out_chk (R : Rz) : chk konst_Eval.osk R.out = true ∧ (chk konst_Eval.osk R.out && plainDs konst_Eval.osk R.out) = true := by cases R <;> exact ⟨rfl, rfl⟩
theorem ways1_is (t : List UInt8) {x y : D} (hx : IsE x) (hy : IsE y) : Ev (fun n => law11_KonstWays_1 n (.str t) x y) fun r => r = (true, [exD 4 0 0 0 t [x, y]]) := by
  obtain ⟨k, a0, b, c, u, xs, rfl⟩ := hx
  obtain ⟨k', a', b', c', u', xs', rfl⟩ := hy
  exact Ev.eq (fun n => law11_KonstWays_1_eq n _ _ _ _ _ _ _ _ _ _ _ _ _) (Ev.ret rfl)
theorem ways_j1 {e : D} (he : IsE e) {R : Rz} {lo lr : Env0} (hok : EnvOk lo lr) (hq : lookF nsT lo = none) (g1 : List D) (m : Int)
    (h1 : Ev (fun n => konst_Eval n e (.agg [.lst 2 (lo.map nmD)])) fun r => r = (true, R.out))
    (h2 : Ev (fun n => konst_Eval n (exD 5 0 0 0 [] g1) (.agg [.lst 2 (lo.map nmD)])) fun r => r = (true, R.out)) :
    Ev (fun n => law11_KonstWays_j1 n g1 [e] [.agg [.lst 2 (lo.map nmD)]] m) fun r => r = (true, [.bool true]) := by
  obtain ⟨c1, c2⟩ := out_chk R
  obtain ⟨k, a, b, c, t, xs, rfl⟩ := he
  have hbad := own_bad (name_none 1 1 99 nsT [] hok hq).2.1
  have hyb : IsE (exD 2 1 1 99 nsT []) := ⟨_, _, _, _, _, _, rfl⟩
  refine evDfn (fun n => law11_KonstWays_j1_def n _ _ _ _) (evCall h1 (Ev.yes c1 (evCall h2 (Ev.yes c2 (Ev.bindC (val_pos (m := 0) (by decide) (by decide)) ?_)))))
  rintro _ _ ⟨x0, h, hx0, hv0⟩; cases h
  have o0 := own_ok (hv0 (lo.map nmD) []).2.1
  have w0 := ways1_is [38, 38] hx0 hyb
  have e0 := and_off hx0 hyb o0
  obtain ⟨k0, a0, b0, d0, t0, xs0, rfl⟩ := hx0
  refine ⟨rfl, Ev.yes rfl (evCall w0 (Ev.yes rfl (evCall e0 (Ev.yes rfl (Ev.bindC (val_pos (m := max (1 : Int) (max (-2147483648 : Int) (min m (2147483647 : Int)))) (by omega) (by omega)) ?_)))))⟩
  rintro _ _ ⟨x1, h, hx1, hv1⟩; cases h
  have o1 := own_ok (hv1 (lo.map nmD) []).2.1
  have w1 := ways1_is [124, 124] hx1 hyb
  have e1 := or_off hx1 hyb (by omega) o1
  obtain ⟨k1, a1, b1, d1, t1, xs1, rfl⟩ := hx1
  refine ⟨rfl, Ev.yes rfl (evCall w1 (Ev.yes rfl (evCall e1 (Ev.yes rfl (Ev.bindC (val_pos (m := 1) (by decide) (by decide)) ?_)))))⟩
  rintro _ _ ⟨x2, h, hx2, hv2⟩; cases h
  have o2 := own_ok (hv2 (lo.map nmD) []).2.1
  have w2 := ways1_is [38, 38] hx2 hyb
  have e2 := and_bad hx2 hyb (by decide) (by decide) o2 hbad
  obtain ⟨k2, a2, b2, d2, t2, xs2, rfl⟩ := hx2
  refine ⟨rfl, Ev.yes rfl (evCall w2 (Ev.yes rfl (evCall e2 (Ev.yes rfl ?_))))⟩
  cases R with
  | ok v =>
    refine Ev.yes (beq_self_eq_true v) ?_
    (repeat (first | refine Ev.no rfl ?_ | refine Ev.yes rfl ?_))
    exact Ev.ret rfl
  | bad p q r f =>
    refine Ev.yes rfl (Ev.yes (by show ((p == p) && ((q == q) && ((r == r) && true))) = true; simp) (Ev.yes (beq_self_eq_true f) ?_))
    (repeat (first | refine Ev.no rfl ?_ | refine Ev.yes rfl ?_))
    exact Ev.ret rfl
theorem clamp_idem (m : Int) : clampI (clampI m) = clampI m := by unfold clampI; omega
theorem konstWays_plain {b xs : List D} (hb : Bytes b) (hx : ∀ y ∈ xs, IsNm y) (m : Int) : Ev (fun n => law11_KonstWays n (.lst 1 b) (.int .i64 m) (.lst 2 xs)) fun r => r = (true, [.bool true]) := by
  refine Ev.eq (fun n => law11_KonstWays_eq n _ _ _) (evCall awake11 (Ev.yes rfl (Ev.no rfl (Ev.bindC (kshort_ev hb) ?_))))
  rintro _ _ ⟨b', h, hb', hl⟩; cases h
  refine ⟨rfl, Ev.yes rfl (Ev.bindC (makeExpr_ev 3 4 (by decide) (by decide) (by decide) b' 0 ⟨hb', hl, by decide, by omega⟩) ?_)⟩
  rintro _ _ ⟨x, a', h, hw, hm⟩; cases h
  have hk := wfK_of hw
  obtain ⟨k, p, q, c, t, ys, rfl⟩ := wfK_isE hk
  refine ⟨rfl, Ev.yes rfl (Ev.bindC (placed_is 4 _ 1 hk) ?_)⟩
  rintro _ _ ⟨z, m', h, hz⟩; cases h
  have hze := wfK_isE hz
  have hown := kown_is 4 z (wfX_of hz)
  obtain ⟨k, p, q, c, t, ys, rfl⟩ := hze
  have hze : IsE (exD k p q c t ys) := ⟨_, _, _, _, _, _, rfl⟩
  refine ⟨rfl, Ev.yes rfl (evCall hown (Ev.yes rfl (Ev.bindC (env_is hx) ?_)))⟩
  rintro _ _ ⟨lo, lr, h, he⟩; cases h
  have hf := kfind_is he.szo nsT
  refine ⟨rfl, Ev.yes rfl ?_⟩
  cases hq : lookF nsT lo with
  | some v =>
    rw [hq] at hf
    exact evCall hf (Ev.yes rfl (Ev.yes rfl (Ev.ret rfl)))
  | none =>
    rw [hq] at hf
    obtain ⟨R, hR⟩ := eval_all he 4 _ hz
    have h1 := evalR_is hze hR
    have hbad := name_none 1 1 99 nsT [] he hq
    have hyb : IsE (exD 2 1 1 99 nsT []) := ⟨_, _, _, _, _, _, rfl⟩
    have hv := val_is (clampI m)
    rw [clamp_idem] at hv
    refine evCall hf (Ev.yes rfl (Ev.no rfl ?_))
    show Ev (fun n => AE.bindC (konst_Value n (.int .i64 (clampI m))) fun r8 => bif chk konst_Value.osk r8 then (bif (clampI m == 0) then AE.bindC (konst_Value n (.int .i64 (clampI m))) _ else _) else none) _
    cases h0 : (clampI m == 0) with
    | true =>
      have h0 : clampI m = 0 := by simpa using h0
      refine Ev.bindC hv ?_
      rintro _ _ ⟨x0, h, hx0, _⟩; cases h
      obtain ⟨k0, a0, b0, d0, t0, xs0, rfl⟩ := hx0
      refine ⟨rfl, Ev.yes rfl (Ev.yes rfl (Ev.bindC hv ?_))⟩
      rintro _ _ ⟨x1, h, hx1, hv1⟩; cases h
      have hc := cond_is [] 0 0 0 hx1 hyb hze (hv1 (lo.map nmD) (lr.map nmD)) hbad hR
      rw [h0] at hc
      have h2 := evalR_is ⟨_, _, _, _, _, _, rfl⟩ hc
      obtain ⟨k1, a1, b1, d1, t1, xs1, rfl⟩ := hx1
      exact ⟨rfl, Ev.yes rfl (ways_j1 hze he hq _ m h1 h2)⟩
    | false =>
      have hne : (clampI m != 0) = true := by simpa using h0
      refine Ev.bindC hv ?_
      rintro _ _ ⟨x0, h, hx0, hv0⟩; cases h
      have hc := cond_is [] 0 0 0 hx0 hze hyb (hv0 (lo.map nmD) (lr.map nmD)) hR hbad
      have hcr : condR (.ok (clampI m)) R (.bad 1 1 99 9) = R := by show (bif clampI m != 0 then R else _) = R; rw [hne]; rfl
      rw [hcr] at hc
      have h2 := evalR_is ⟨_, _, _, _, _, _, rfl⟩ hc
      obtain ⟨k0, a0, b0, d0, t0, xs0, rfl⟩ := hx0
      exact ⟨rfl, Ev.yes rfl (Ev.no rfl (ways_j1 hze he hq _ m h1 h2))⟩
end Go.Proofs.YtkjocbdjenmegaaGreatDoor
