/- A tree of names and operators, told and written in the reference's words. -/
import Derived.Test.YtalibicpmfbieaaGreatDoorPaC
namespace Go.Proofs.YtalibicpmfbieaaGreatDoor
open Go.AE
set_option linter.unusedVariables false
set_option linter.unusedSimpArgs false
theorem told_ev : ∀ (t : BT) (y : D), Rep t y → Ev (fun n => law09_ToldExpr n y) fun r => ∃ u, r = (true, [u]) ∧ Rep t u := by
  intro t
  induction t with
  | nm x =>
    rintro y ⟨a, b, e, rfl⟩
    refine Ev.eq (fun n => law09_ToldExpr_eq n 2 a b e x []) (Ev.bindL (Q := fun r => ∃ q, r = (false, [.lst 6 [], .int .i64 0, .int .i64 q, .int .i64 0, .int .i64 0, .int .i64 0, .int .i64 0, .str [], .int .i64 2, .int .i64 a, .int .i64 b, .int .i64 e, .str x, .lst 6 [], .lst 6 []])) (Ev.eq (fun n => law09_ToldExpr_L0_eq n _ _ _ _ _ _ _ _ _ _ _ _ _ _ _) (Ev.no rfl (Ev.ret ⟨_, rfl⟩))) (fun ds h => by obtain ⟨_, h⟩ := h; cases h) fun ds h => ?_)
    obtain ⟨q, h⟩ := h
    cases h
    exact Ev.yes rfl (Ev.ret ⟨_, rfl, a, b, e, rfl⟩)
  | bn o l r il ir =>
    rintro y ⟨a, b, e, u, v, rfl, hu, hv⟩
    have iu := il u hu
    have iv := ir v hv
    obtain ⟨u0, u1, u2, u3, ut, us, rfl⟩ := Rep_form hu
    obtain ⟨v0, v1, v2, v3, vt, vs, rfl⟩ := Rep_form hv
    refine Ev.eq (fun n => law09_ToldExpr_eq n 4 a b e o _) (Ev.bindL (Q := fun r' => ∃ q x y, r' = (false, [.lst 6 [.agg [.int .i64 u0, .int .i64 u1, .int .i64 u2, .int .i64 u3, .str ut, .lst 6 us], .agg [.int .i64 v0, .int .i64 v1, .int .i64 v2, .int .i64 v3, .str vt, .lst 6 vs]], .int .i64 2, .int .i64 q, .int .i64 0, .int .i64 0, .int .i64 0, .int .i64 0, .str [], .int .i64 4, .int .i64 a, .int .i64 b, .int .i64 e, .str o, .lst 6 [], .lst 6 [x, y]]) ∧ Rep l x ∧ Rep r y) ?_ (fun ds h => by obtain ⟨_, _, _, h, _⟩ := h; cases h) fun ds h => ?_)
    · refine Ev.eq (fun n => law09_ToldExpr_L0_eq n _ _ _ _ _ _ _ _ _ _ _ _ _ _ _) (Ev.yes rfl (Ev.yes rfl (Ev.yes rfl (Ev.bindC iu ?_))))
      rintro _ ds ⟨x, h, hx⟩
      cases h
      have hx0 := hx
      obtain ⟨x0, x1, x2, x3, xt, xs, rfl⟩ := Rep_form hx
      refine ⟨rfl, Ev.yes rfl (Ev.yes rfl (Ev.eq (fun n => law09_ToldExpr_L0_eq n _ _ _ _ _ _ _ _ _ _ _ _ _ _ _) (Ev.yes rfl (Ev.yes rfl (Ev.yes rfl (Ev.bindC iv ?_))))))⟩
      rintro _ ds ⟨z, h, hz⟩
      cases h
      have hz0 := hz
      obtain ⟨z0, z1, z2, z3, zt, zs, rfl⟩ := Rep_form hz
      exact ⟨rfl, Ev.yes rfl (Ev.yes rfl (Ev.eq (fun n => law09_ToldExpr_L0_eq n _ _ _ _ _ _ _ _ _ _ _ _ _ _ _) (Ev.no rfl (Ev.ret ⟨_, _, _, rfl, hx0, hz0⟩))))⟩
    · obtain ⟨q, x, z, h, hx, hz⟩ := h
      cases h
      exact Ev.yes rfl (Ev.ret ⟨_, rfl, a, b, e, x, z, rfl, hx, hz⟩)
def aB (t : BT) : List (List UInt8) := bif t.isN then wB t else [[40]] ++ wB t ++ [[41]]
theorem aB_len (t : BT) : (wB t).length ≤ (aB t).length := by unfold aB; cases t.isN <;> first | (simp; done) | (simp; omega)
theorem nth_0 {k : Nat} {ws : List D} : (nth [D.lst k ws] 0).l = ws := rfl
/-- As an operator's operand. -/
theorem argB_ev {t : BT} {u : D} (h : Rep t u) (hl : (aB t).length ≤ 10000) (hw : Ev (fun n => ref09_ExprWords n u) fun r => r = (true, [.lst 1 ((wB t).map D.str)])) : Ev (fun n => ref09_arg n u) fun r => r = (true, [.lst 1 ((aB t).map D.str)]) := by
  have hl2 := aB_len t
  cases t with
  | nm x =>
    obtain ⟨a, b, e, rfl⟩ := h
    refine Ev.eq (fun n => ref09_arg_eq n 2 a b e x []) (Ev.no rfl (Ev.no rfl (evDf (fun n => ref09_arg_j1_def n _ _ _ _ _ _ _) (Ev.no rfl (Ev.bindC hw ?_)))))
    intro _ ds h0; cases h0
    exact ⟨rfl, Ev.yes rfl (Ev.ret rfl)⟩
  | bn o l r =>
    obtain ⟨a, b, e, u, v, rfl, hu, hv⟩ := h
    have P : Ev (fun n => ref09_paren n (Bn o u v a b e)) fun r' => r' = (true, [.lst 1 ((aB (.bn o l r)).map D.str)]) := by
      refine Ev.eq (fun n => ref09_paren_eq n 4 a b e o [u, v]) (Ev.bindC hw ?_)
      intro _ ds h0; cases h0
      refine ⟨rfl, Ev.yes rfl ?_⟩
      simp only [nth_0]
      refine Ev.yes (Nat.ble_eq_true_of_le (by simp only [List.length_map, maxLst]; omega)) (Ev.yes (Nat.ble_eq_true_of_le (by simp only [List.length_map, List.length_append, List.length_cons, List.length_nil, maxLst]; omega)) (Ev.ret ?_))
      simp [aB, BT.isN]
    refine Ev.eq (fun n => ref09_arg_eq n 4 a b e o [u, v]) (Ev.no rfl (Ev.yes rfl (evDf (fun n => ref09_arg_j1_def n _ _ _ _ _ _ _) (Ev.yes rfl (Ev.bindC P ?_)))))
    intro _ ds h0; cases h0
    exact ⟨rfl, Ev.yes rfl (Ev.ret rfl)⟩
theorem wordsB_ev : ∀ (t : BT) (u : D), Rep t u → (wB t).length ≤ 5000 → Ev (fun n => ref09_ExprWords n u) fun r => r = (true, [.lst 1 ((wB t).map D.str)]) := by
  intro t
  induction t with
  | nm x =>
    rintro u ⟨a, b, e, rfl⟩ _
    exact Ev.eq (fun n => ref09_ExprWords_eq n 2 a b e x []) (Ev.no rfl (Ev.no rfl (Ev.no rfl (Ev.no rfl (Ev.no rfl (Ev.no rfl (evDf (fun n => ref09_ExprWords_j1_def n _ _ _ _) (Ev.no rfl (Ev.no rfl (Ev.ret rfl))))))))))
  | bn o l r il ir =>
    rintro y ⟨a, b, e, u, v, rfl, hu, hv⟩ hlen
    have hlen' : (aB l).length + 1 + (aB r).length ≤ 5000 := by
      have : wB (.bn o l r) = aB l ++ [o] ++ aB r := rfl
      rw [this] at hlen
      simp only [List.length_append, List.length_cons, List.length_nil] at hlen
      omega
    have al := aB_len l
    have ar := aB_len r
    have A1 := argB_ev hu (by omega) (il u hu (by omega))
    have A2 := argB_ev hv (by omega) (ir v hv (by omega))
    have tu := Rep_typ hu
    have tv := Rep_typ hv
    have A1' : Ev (fun n => ref09_arg n (expTy ty_iiiisl6 u)) fun r => r = (true, [.lst 1 ((aB l).map D.str)]) := by rw [tu.1]; exact A1
    have A2' : Ev (fun n => ref09_arg n (expTy ty_iiiisl6 v)) fun r' => r' = (true, [.lst 1 ((aB r).map D.str)]) := by rw [tv.1]; exact A2
    have ou : (notAny ty_iiiisl6 && okTy ty_iiiisl6 u) = true := by rw [tu.2]; rfl
    have ov : (notAny ty_iiiisl6 && okTy ty_iiiisl6 v) = true := by rw [tv.2]; rfl
    refine Ev.eq (fun n => ref09_ExprWords_eq n 4 a b e o [u, v]) (Ev.no rfl (Ev.yes rfl (Ev.yes rfl (Ev.yes ou (Ev.bindC A1' ?_)))))
    intro _ ds h0; cases h0
    refine ⟨rfl, Ev.yes rfl ?_⟩
    simp only [nth_0]
    refine Ev.yes (Nat.ble_eq_true_of_le (by simp only [List.length_map, maxLst]; omega)) (Ev.yes rfl (Ev.yes ov (Ev.bindC A2' ?_)))
    intro _ ds h0; cases h0
    refine ⟨rfl, Ev.yes rfl ?_⟩
    simp only [nth_0]
    refine Ev.yes (Nat.ble_eq_true_of_le (by simp only [List.length_map, List.length_append, List.length_cons, List.length_nil, maxLst]; omega)) (Ev.ret ?_)
    show (true, [D.lst 1 (((aB l).map D.str ++ [D.str o]) ++ (aB r).map D.str)]) = (true, [D.lst 1 ((aB l ++ [o] ++ aB r).map D.str)])
    simp
end Go.Proofs.YtalibicpmfbieaaGreatDoor
