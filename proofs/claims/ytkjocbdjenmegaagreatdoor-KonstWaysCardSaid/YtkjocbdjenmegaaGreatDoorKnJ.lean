/- Konst: operators of one and two, conditions, with errors. -/
import Derived.Test.YtkjocbdjenmegaaGreatDoorKnI
namespace Go.Proofs.YtkjocbdjenmegaaGreatDoor
open Go.AE
set_option linter.unusedVariables false
theorem ref_exp (R : Rz) : chk ref11_Eval.osk [R.ref] = true ∧ expTy ty_iiiii R.ref = R.ref := by cases R <;> exact ⟨rfl, rfl⟩
theorem own_bad {x : D} {L : List D} {a b c e : Int} (h : Ev (fun n => konst_evaler_expr n x (.lst 2 L) (.int .i64 0) (.int .i64 0) (.int .i64 0) (.int .i64 0)) (fun r => ∃ ds, r = (true, ds) ∧ (Rz.bad a b c e).own L ds)) :
    Ev (fun n => konst_evaler_expr n x (.lst 2 L) (.int .i64 0) (.int .i64 0) (.int .i64 0) (.int .i64 0)) (fun r => ∃ n : Int, r = (true, stE n L a b c e)) :=
  h.mono fun r hr => by
    obtain ⟨ds, rfl, n, rfl⟩ := hr
    exact ⟨n, rfl⟩
theorem own_ok {x : D} {L : List D} {v : Int} (h : Ev (fun n => konst_evaler_expr n x (.lst 2 L) (.int .i64 0) (.int .i64 0) (.int .i64 0) (.int .i64 0)) (fun r => ∃ ds, r = (true, ds) ∧ (Rz.ok v).own L ds)) :
    Ev (fun n => konst_evaler_expr n x (.lst 2 L) (.int .i64 0) (.int .i64 0) (.int .i64 0) (.int .i64 0)) (fun r => r = (true, st0 v L)) :=
  h.mono fun r hr => by
    obtain ⟨ds, rfl, rfl⟩ := hr
    rfl
/-- One's operand has an error, or there was one before. -/
theorem one_keep {t : List UInt8} (ht : t = [45] ∨ t = [126] ∨ t = [33]) (p0 p1 p2 : Int) {x : D} (hx : IsE x) {L : List D} {p q r e p' q' r' e' : Int}
    (h : Ev (fun n => konst_evaler_expr n x (.lst 2 L) (.int .i64 p) (.int .i64 q) (.int .i64 r) (.int .i64 e)) fun z => ∃ n : Int, z = (true, stE n L p' q' r' e')) :
    Ev (fun n => konst_evaler_one n (exD 3 p0 p1 p2 t [x]) (.lst 2 L) (.int .i64 p) (.int .i64 q) (.int .i64 r) (.int .i64 e)) fun z => ∃ n : Int, z = (true, stE n L p' q' r' e') := by
  obtain ⟨k, a, b, c, tt, xs, rfl⟩ := hx
  refine Ev.eq (fun n => konst_evaler_one_eq n _ _ _ _ _ _ _ _ _ _ _) ?_
  rcases ht with rfl | rfl | rfl
  · exact Ev.yes rfl (Ev.yes rfl (Ev.yes rfl (evCallE (f := fun n => stE n L p' q' r' e') h fun n => Ev.yes rfl (Ev.ret ⟨_, rfl⟩))))
  · exact Ev.no rfl (Ev.yes rfl (Ev.yes rfl (Ev.yes rfl (evCallE (f := fun n => stE n L p' q' r' e') h fun n => Ev.yes rfl (Ev.ret ⟨_, rfl⟩)))))
  · exact Ev.no rfl (Ev.no rfl (Ev.yes rfl (Ev.yes rfl (Ev.yes rfl (evCallE (f := fun n => stE n L p' q' r' e') h fun n => Ev.yes rfl (evCall (truth_is _) (Ev.yes rfl (Ev.ret ⟨_, rfl⟩))))))))
theorem un_bad {t : List UInt8} (ht : t = [45] ∨ t = [126] ∨ t = [33]) (p0 p1 p2 : Int) {x : D} (hx : IsE x) {L : List D} {p q r e p' q' r' e' : Int} (he : e' ≠ 0)
    (h : Ev (fun n => konst_evaler_expr n x (.lst 2 L) (.int .i64 p) (.int .i64 q) (.int .i64 r) (.int .i64 e)) fun z => ∃ n : Int, z = (true, stE n L p' q' r' e')) :
    Ev (fun n => konst_evaler_expr n (exD 3 p0 p1 p2 t [x]) (.lst 2 L) (.int .i64 p) (.int .i64 q) (.int .i64 r) (.int .i64 e)) fun z => ∃ n : Int, z = (true, stE n L p' q' r' e') :=
  Ev.eq (fun n => konst_evaler_expr_eq n _ _ _ _ _ _ _ _ _ _ _) (Ev.no rfl (Ev.no rfl (Ev.yes rfl (evCallE (f := fun n => stE n L p' q' r' e') (one_keep ht p0 p1 p2 hx h) fun n => Ev.yes rfl ((j1_keep n L p' q' r' he p0 p1 p2).mono fun z hz => ⟨_, hz⟩)))))
theorem un_off (t : List UInt8) (h1 : (t == [45]) = false) (h2 : (t == [126]) = false) (h3 : (t == [33]) = false) (p0 p1 p2 : Int) (xs L E : List D) : EvalIs (exD 3 p0 p1 p2 t xs) L E (.bad p0 p1 p2 12) := by
  refine ⟨by show (12 : Int) ≠ 0; decide, ?_, fun p q r e he => ?_, ?_⟩
  · have ho : Ev (fun n => konst_evaler_one n (exD 3 p0 p1 p2 t xs) (.lst 2 L) (.int .i64 0) (.int .i64 0) (.int .i64 0) (.int .i64 0)) fun z => z = (true, stE 0 L p0 p1 p2 12) :=
      Ev.eq (fun n => konst_evaler_one_eq n _ _ _ _ _ _ _ _ _ _ _) (Ev.no h1 (Ev.no h2 (Ev.no h3 (evCall (fail_new p0 p1 p2 12 L 0 0 0) (Ev.yes rfl (Ev.ret rfl))))))
    exact Ev.eq (fun n => konst_evaler_expr_eq n _ _ _ _ _ _ _ _ _ _ _) (Ev.no rfl (Ev.no rfl (Ev.yes rfl (evCall ho (Ev.yes rfl ((j1_keep 0 L p0 p1 p2 (show (12 : Int) ≠ 0 by decide) p0 p1 p2).mono fun z hz => ⟨_, hz, 0, rfl⟩))))))
  · have ho : Ev (fun n => konst_evaler_one n (exD 3 p0 p1 p2 t xs) (.lst 2 L) (.int .i64 p) (.int .i64 q) (.int .i64 r) (.int .i64 e)) fun z => z = (true, stE 0 L p q r e) :=
      Ev.eq (fun n => konst_evaler_one_eq n _ _ _ _ _ _ _ _ _ _ _) (Ev.no h1 (Ev.no h2 (Ev.no h3 (evCall (fail_old p0 p1 p2 12 L p q r he) (Ev.yes rfl (Ev.ret rfl))))))
    exact Ev.eq (fun n => konst_evaler_expr_eq n _ _ _ _ _ _ _ _ _ _ _) (Ev.no rfl (Ev.no rfl (Ev.yes rfl (evCall ho (Ev.yes rfl ((j1_keep 0 L p q r he p0 p1 p2).mono fun z hz => ⟨_, hz⟩))))))
  · refine Ev.eq (fun n => ref11_Eval_eq n _ _ _ _ _ _ _) (Ev.no rfl (Ev.no rfl (Ev.yes rfl (Ev.yes (by rw [h1]; rfl) (Ev.yes (by rw [h2]; rfl) (evDfn (fun n => ref11_Eval_j1_def n _ _ _ _ _ _ _ _) (Ev.yes (by rw [h3]; rfl) (bad_step 3 p0 p1 p2 t xs 12))))))))
theorem un_is (t : List UInt8) (p0 p1 p2 : Int) {x : D} (hx : IsE x) {L E : List D} {R : Rz} (h : EvalIs x L E R) : ∃ R', EvalIs (exD 3 p0 p1 p2 t [x]) L E R' := by
  obtain ⟨hg, h0, hE, hr⟩ := h
  have q1 := ref_exp R
  have keep : (t = [45] ∨ t = [126] ∨ t = [33]) → ∀ p q r e : Int, e ≠ 0 → Ev (fun n => konst_evaler_expr n (exD 3 p0 p1 p2 t [x]) (.lst 2 L) (.int .i64 p) (.int .i64 q) (.int .i64 r) (.int .i64 e)) fun z => ∃ n : Int, z = (true, stE n L p q r e) :=
    fun ht p q r e he => un_bad ht p0 p1 p2 hx he (hE p q r e he)
  obtain ⟨k, a, b, c, tt, xs, rfl⟩ := hx
  have hx : IsE (exD k a b c tt xs) := ⟨k, a, b, c, tt, xs, rfl⟩
  cases R with
  | bad a' b' c' e' =>
    have bad3 : (t = [45] ∨ t = [126] ∨ t = [33]) → EvalIs (exD 3 p0 p1 p2 t [exD k a b c tt xs]) L E (.bad a' b' c' e') := by
      intro ht
      refine ⟨hg, (un_bad ht p0 p1 p2 hx hg (own_bad h0)).mono fun z hz => ?_, keep ht, ?_⟩
      · obtain ⟨n, hz⟩ := hz
        exact ⟨_, hz, n, rfl⟩
      · have j1 : Ev (fun n => ref11_Eval_j1 n false 3 p0 p1 p2 t [exD k a b c tt xs] E) fun r => r = (true, [outD 0 a' b' c' e']) :=
          evDfn (fun n => ref11_Eval_j1_def n _ _ _ _ _ _ _ _) (Ev.no rfl (Ev.yes rfl (Ev.yes rfl (evCall hr (Ev.yes rfl (Ev.yes (ne_0' hg).1 (Ev.ret rfl)))))))
        refine Ev.eq (fun n => ref11_Eval_eq n _ _ _ _ _ _ _) (Ev.no rfl (Ev.no rfl (Ev.yes rfl ?_)))
        rcases ht with rfl | rfl | rfl
        · exact Ev.no rfl j1
        · exact Ev.yes rfl (Ev.no rfl j1)
        · exact Ev.yes rfl (Ev.yes rfl j1)
    cases h1 : t == [45] with
    | true => exact ⟨_, bad3 (.inl (eq_of_beq h1))⟩
    | false =>
      cases h2 : t == [126] with
      | true => exact ⟨_, bad3 (.inr (.inl (eq_of_beq h2)))⟩
      | false =>
        cases h3 : t == [33] with
        | true => exact ⟨_, bad3 (.inr (.inr (eq_of_beq h3)))⟩
        | false => exact ⟨_, un_off t h1 h2 h3 p0 p1 p2 _ L E⟩
  | ok v =>
    have ho := own_ok h0
    obtain ⟨v1, v2⟩ := hg
    cases h1 : t == [45] with
    | true =>
      have ht := eq_of_beq h1
      subst ht
      have hone : Ev (fun n => konst_evaler_one n (exD 3 p0 p1 p2 [45] [exD k a b c tt xs]) (.lst 2 L) (.int .i64 0) (.int .i64 0) (.int .i64 0) (.int .i64 0)) fun r => r = (true, st0 (-v) L) := by
        refine Ev.eq (fun n => konst_evaler_one_eq n _ _ _ _ _ _ _ _ _ _ _) (Ev.yes rfl (Ev.yes rfl (Ev.yes rfl (evCall ho (Ev.yes rfl (Ev.ret ?_))))))
        show (true, st0 (IntKind.i64.wrap (0 - v)) L) = _
        rw [wrap_id (by omega) (by omega), Int.zero_sub]
      have hgd := good_step 3 p0 p1 p2 [45] [exD k a b c tt xs] (m := IntKind.i64.wrap (0 - v)) (m' := -v) (by rw [wrap_id (by omega) (by omega), Int.zero_sub])
      have href : Ev (fun n => ref11_Eval n (exD 3 p0 p1 p2 [45] [exD k a b c tt xs]) (.lst 2 E)) fun r => r = (true, [gd p0 p1 p2 (-v)]) :=
        Ev.eq (fun n => ref11_Eval_eq n _ _ _ _ _ _ _) (Ev.no rfl (Ev.no rfl (Ev.yes rfl (Ev.no rfl (evDfn (fun n => ref11_Eval_j1_def n _ _ _ _ _ _ _ _) (Ev.no rfl (Ev.yes rfl (Ev.yes rfl (evCall hr (Ev.yes rfl (Ev.no rfl (Ev.yes rfl hgd))))))))))))
      unfold gd at href
      cases hi : inB (-v) with
      | true =>
        rw [hi] at href
        have q : InR (-v) := by
          unfold inB at hi
          rw [Bool.and_eq_true] at hi
          exact ⟨of_decide_eq_true hi.1, of_decide_eq_true hi.2⟩
        exact ⟨.ok (-v), q, Ev.eq (fun n => konst_evaler_expr_eq n _ _ _ _ _ _ _ _ _ _ _) (Ev.no rfl (Ev.no rfl (Ev.yes rfl (evCall hone (Ev.yes rfl ((j1_ok q p0 p1 p2 L).mono fun r hr => ⟨_, hr, rfl⟩)))))), keep (.inl rfl), href⟩
      | false =>
        rw [hi] at href
        exact ⟨.bad p0 p1 p2 3, by show (3 : Int) ≠ 0; decide, Ev.eq (fun n => konst_evaler_expr_eq n _ _ _ _ _ _ _ _ _ _ _) (Ev.no rfl (Ev.no rfl (Ev.yes rfl (evCall hone (Ev.yes rfl ((j1_off hi p0 p1 p2 L).mono fun r hr => ⟨_, hr, 0, rfl⟩)))))), keep (.inl rfl), href⟩
    | false =>
      cases h2 : t == [126] with
      | true =>
        have ht := eq_of_beq h2
        subst ht
        have q : InR (-1 - v) := ⟨by omega, by omega⟩
        have hone : Ev (fun n => konst_evaler_one n (exD 3 p0 p1 p2 [126] [exD k a b c tt xs]) (.lst 2 L) (.int .i64 0) (.int .i64 0) (.int .i64 0) (.int .i64 0)) fun r => r = (true, st0 (-1 - v) L) := by
          have e := own_neg1 (a := v) (by omega) (by omega)
          refine Ev.eq (fun n => konst_evaler_one_eq n _ _ _ _ _ _ _ _ _ _ _) (Ev.no rfl (Ev.yes rfl (Ev.yes rfl (Ev.yes rfl (evCall ho (Ev.yes rfl (Ev.ret ?_)))))))
          rw [← e]; rfl
        have hgd := good_step 3 p0 p1 p2 [126] [exD k a b c tt xs] (m := IntKind.i64.wrap (-1 - v)) (m' := -1 - v) (wrap_id (by omega) (by omega))
        unfold gd at hgd
        rw [show inB (-1 - v) = true from and_tt (decide_eq_true q.1) (decide_eq_true q.2)] at hgd
        exact ⟨.ok (-1 - v), q, Ev.eq (fun n => konst_evaler_expr_eq n _ _ _ _ _ _ _ _ _ _ _) (Ev.no rfl (Ev.no rfl (Ev.yes rfl (evCall hone (Ev.yes rfl ((j1_ok q p0 p1 p2 L).mono fun r hr => ⟨_, hr, rfl⟩)))))), keep (.inr (.inl rfl)),
          Ev.eq (fun n => ref11_Eval_eq n _ _ _ _ _ _ _) (Ev.no rfl (Ev.no rfl (Ev.yes rfl (Ev.yes rfl (Ev.no rfl (evDfn (fun n => ref11_Eval_j1_def n _ _ _ _ _ _ _ _) (Ev.no rfl (Ev.yes rfl (Ev.yes rfl (evCall hr (Ev.yes rfl (Ev.no rfl (Ev.no rfl (Ev.yes rfl hgd))))))))))))))⟩
      | false =>
        cases h3 : t == [33] with
        | true =>
          have ht := eq_of_beq h3
          subst ht
          have q : InR (trI (v == 0)) := by cases v == 0 <;> exact ⟨by decide, by decide⟩
          have hone : Ev (fun n => konst_evaler_one n (exD 3 p0 p1 p2 [33] [exD k a b c tt xs]) (.lst 2 L) (.int .i64 0) (.int .i64 0) (.int .i64 0) (.int .i64 0)) fun r => r = (true, st0 (trI (v == 0)) L) :=
            Ev.eq (fun n => konst_evaler_one_eq n _ _ _ _ _ _ _ _ _ _ _) (Ev.no rfl (Ev.no rfl (Ev.yes rfl (Ev.yes rfl (Ev.yes rfl (evCall ho (Ev.yes rfl (evCall (truth_is (v == 0)) (Ev.yes rfl (Ev.ret rfl))))))))))
          exact ⟨.ok (trI (v == 0)), q, Ev.eq (fun n => konst_evaler_expr_eq n _ _ _ _ _ _ _ _ _ _ _) (Ev.no rfl (Ev.no rfl (Ev.yes rfl (evCall hone (Ev.yes rfl ((j1_ok q p0 p1 p2 L).mono fun r hr => ⟨_, hr, rfl⟩)))))), keep (.inr (.inr rfl)),
            Ev.eq (fun n => ref11_Eval_eq n _ _ _ _ _ _ _) (Ev.no rfl (Ev.no rfl (Ev.yes rfl (Ev.yes rfl (Ev.yes rfl (evDfn (fun n => ref11_Eval_j1_def n _ _ _ _ _ _ _ _) (Ev.no rfl (Ev.yes rfl (Ev.yes rfl (evCall hr (Ev.yes rfl (Ev.no rfl (Ev.no rfl (Ev.no rfl (evCall (rtruth_is (v == 0)) (Ev.yes rfl (Ev.ret rfl)))))))))))))))))⟩
        | false => exact ⟨_, un_off t h1 h2 h3 p0 p1 p2 _ L E⟩
end Go.Proofs.YtkjocbdjenmegaaGreatDoor
