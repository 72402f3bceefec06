/- Expressions that are alike but for places are the same; the law's source, read. -/
import Derived.Test.YtalibicpmfbieaaGreatDoorPxG
namespace Go.Proofs.YtalibicpmfbieaaGreatDoor
open Go.AE
set_option linter.unusedVariables false
set_option linter.unusedSimpArgs false
theorem shapeE_le {k : Int} {t : List UInt8} {m : Nat} (h : shapeE k t m) : m ≤ 3 := by
  rcases h with h | h | h | h | h | h | h | h | h | h <;> omega
def Rl (R : D → D → Prop) (xs ys : List D) : Prop := xs.length = ys.length ∧ ∀ (i : Nat) (h : i < xs.length) (h' : i < ys.length), R xs[i] ys[i]
theorem Rl.refl {R : D → D → Prop} {xs : List D} (h : ∀ x ∈ xs, R x x) : Rl R xs xs := ⟨rfl, fun i hi _ => h _ (List.getElem_mem hi)⟩
theorem eqList {R : D → D → Prop} {k : Nat} {T : Ty} {F : Nat → D → D → Out} {L : Nat → D → D → D → D → Out} {same : Nat → D → D → Out} {sk osk : Sk}
    (hF : ∀ n a0 a1, F (n + 1) (.lst k a0) (.lst k a1) = (bif ((a0.length : Int) != (a1.length : Int)) then (some (true, [(.bool false)])) else (AE.bindL (L n (.lst k a1) (.lst k a0) (.int .i64 (a0.length : Int)) (.int .i64 (0 : Int))) fun r1 => bif chk sk r1 then (some (true, [(.bool true)])) else none)))
    (hL : ∀ n a0 a1 a2 a3, L (n + 1) (.lst k a0) (.lst k a1) (.int .i64 a2) (.int .i64 a3) = (bif (decide (a3 < a2)) then (bif (decide (0 ≤ a3) && decide (a3 < (a1.length : Int))) then (bif notAny T && okTy T (a1[a3.toNat]?.getD D.top) then (bif (decide (0 ≤ a3) && decide (a3 < (a0.length : Int))) then (bif notAny T && okTy T (a0[a3.toNat]?.getD D.top) then
      (AE.bindC (same n (expTy T (a1[a3.toNat]?.getD D.top)) (expTy T (a0[a3.toNat]?.getD D.top))) fun r1 => bif chk osk r1 then (bif (!(nth r1 0).b) then (some (true, [(.bool false)])) else (L n (.lst k a0) (.lst k a1) (.int .i64 a2) (.int .i64 (IntKind.i64.wrap (a3 + 1))))) else none) else none) else none) else none) else none) else (some (false, [(.lst k a0), (.lst k a1), (.int .i64 a2), (.int .i64 a3)]))))
    (hT : notAny T = true) (hsk : ∀ a0 a1 i j, chk sk [.lst k a0, .lst k a1, .int .i64 i, .int .i64 j] = true) (hosk : ∀ b, chk osk [.bool b] = true)
    (ht : ∀ x y, R x y → expTy T y = y ∧ okTy T y = true)
    (hs : ∀ x y u v, R x y → R u v → Ev (fun n => same n y v) fun r => ∃ b, r = (true, [.bool b]) ∧ (b = true ↔ x = u))
    {xs ys us vs : List D} (h1 : Rl R xs ys) (h2 : Rl R us vs) (hl : xs.length ≤ 1000) :
    Ev (fun n => F n (.lst k ys) (.lst k vs)) fun r => ∃ b, r = (true, [.bool b]) ∧ (b = true ↔ xs = us) := by
  refine Ev.eq (fun n => hF n ys vs) (Ev.test (fun hne => Ev.ret ⟨false, rfl, fun h => (by cases h), fun h => ?_⟩) fun he => ?_)
  · subst h
    have e : ys.length = vs.length := by rw [← h1.1, ← h2.1]
    rw [e] at hne
    simp at hne
  · have he : ys.length = vs.length := by simp at he; omega
    have hu : xs.length = us.length := by rw [h1.1, he, h2.1]
    have aux : ∀ (m j : Nat), xs.length - j = m → j ≤ xs.length → Ev (fun n => L n (.lst k vs) (.lst k ys) (.int .i64 (ys.length : Int)) (.int .i64 (j : Int))) fun r =>
        (r = (true, [.bool false]) ∧ xs.drop j ≠ us.drop j) ∨ (∃ q, r = (false, [.lst k vs, .lst k ys, .int .i64 (ys.length : Int), .int .i64 q]) ∧ xs.drop j = us.drop j) := by
      intro m
      induction m with
      | zero =>
        intro j hm hj
        have hy := h1.1
        refine Ev.eq (fun n => hL n _ _ _ _) (Ev.no (decide_eq_false (by omega)) (Ev.ret (.inr ⟨_, rfl, ?_⟩)))
        rw [List.drop_eq_nil_of_le (by omega), List.drop_eq_nil_of_le (by omega)]
      | succ m ih =>
        intro j hm hj
        have hy := h1.1
        have hv := h2.1
        have j1 : j < xs.length := by omega
        have j2 : j < ys.length := by omega
        have j3 : j < us.length := by omega
        have j4 : j < vs.length := by omega
        have r1 := h1.2 j j1 j2
        have r2 := h2.2 j j3 j4
        refine Ev.eq (fun n => hL n _ _ _ _) (Ev.yes (decide_eq_true (by omega)) (Ev.yes (in_range j2) ?_))
        rw [get_nat j2, get_nat j4, (ht _ _ r1).1, (ht _ _ r2).1]
        refine Ev.yes (and_tt hT (ht _ _ r1).2) (Ev.yes (in_range j4) (Ev.yes (and_tt hT (ht _ _ r2).2) (Ev.bindC (hs _ _ _ _ r1 r2) ?_)))
        rintro b ds ⟨c, h, hc⟩
        cases h
        refine ⟨rfl, Ev.yes (hosk c) (Ev.test (fun hn => Ev.ret (.inl ⟨rfl, ?_⟩)) fun hn => ?_)⟩
        · have hn : (!c) = true := hn
          rw [drop_cons j1, drop_cons j3]
          intro e
          have := hc.2 (List.cons.inj e).1
          rw [this] at hn; cases hn
        · have hn : (!c) = false := hn
          have hc' := hc.1 (by simpa using hn)
          have K := ih (j + 1) (by omega) (by omega)
          rw [← wrap_succ (by omega)] at K
          refine K.mono fun r hr => ?_
          rcases hr with ⟨e1, e2⟩ | ⟨q, e1, e2⟩
          · exact .inl ⟨e1, fun e => e2 (by rw [drop_cons j1, drop_cons j3] at e; exact (List.cons.inj e).2)⟩
          · exact .inr ⟨q, e1, by rw [drop_cons j1, drop_cons j3, hc', e2]⟩
    refine Ev.bindL (aux xs.length 0 rfl (Nat.zero_le _)) (fun ds h => ?_) fun ds h => ?_
    · rcases h with ⟨h, hn⟩ | ⟨q, h, _⟩
      · exact ⟨false, h, fun h => (by cases h), fun h => absurd h (by simpa using hn)⟩
      · cases h
    · rcases h with ⟨h, hn⟩ | ⟨q, h, hn⟩
      · cases h
      · cases h
        exact Ev.yes (hsk _ _ _ _) (Ev.ret ⟨true, rfl, fun _ => by simpa using hn, fun _ => rfl⟩)
theorem not_iff {p : Prop} (h : ¬ p) : (false = true) ↔ p := ⟨fun h => (by cases h), fun x => absurd x h⟩
theorem ne_of_beq {α : Type} [BEq α] [LawfulBEq α] {a b : α} (h : (a == b) = false) : a ≠ b := fun e => by subst e; simp at h
theorem E_inj {k k' : Int} {t t' : List UInt8} {xs xs' : List D} : E k t xs = E k' t' xs' ↔ k = k' ∧ t = t' ∧ xs = xs' := by simp [E]
theorem Rl.of2 {R : D → D → Prop} {xs ys : List D} (h : F2 R xs ys) : Rl R xs ys := by
  refine ⟨h.length, fun i h1 h2 => ?_⟩
  obtain ⟨b, hb, hr⟩ := h.get i xs[i] (List.getElem?_eq_getElem h1)
  rw [List.getElem?_eq_getElem h2] at hb
  cases hb
  exact hr
theorem Sm_typ {n : Nat} {x y : D} (h : Sm n x y) : expTy ty_iiiisl6 y = y ∧ okTy ty_iiiisl6 y = true := by
  obtain ⟨v0, v1, v2, v3, vt, vs, rfl⟩ := Sm_form h
  exact ⟨rfl, rfl⟩
theorem expsS_same {d : Nat} (hs : ∀ x y u v, wfE d x ∧ Sm d x y → wfE d u ∧ Sm d u v → Ev (fun n => ast_sameExpr n y v) fun r => ∃ b, r = (true, [.bool b]) ∧ (b = true ↔ x = u)) {xs ys us vs : List D} (hl : xs.length ≤ 1000)
    (h1 : Rl (fun x y => wfE d x ∧ Sm d x y) xs ys) (h2 : Rl (fun x y => wfE d x ∧ Sm d x y) us vs) : Ev (fun n => slices_EqualFunc_Expr n (.lst 6 ys) (.lst 6 vs)) fun r => ∃ b, r = (true, [.bool b]) ∧ (b = true ↔ xs = us) :=
  eqList (R := fun x y => wfE d x ∧ Sm d x y) slices_EqualFunc_Expr_eq slices_EqualFunc_Expr_L0_eq rfl (fun _ _ _ _ => rfl) (fun _ => rfl) (fun x y h => Sm_typ h.2) hs h1 h2 hl
theorem F2_rl {d : Nat} {xs ys : List D} (h : F2 (Sm d) xs ys) (ha : ∀ x ∈ xs, wfE d x) : Rl (fun x y => wfE d x ∧ Sm d x y) xs ys := by
  have := Rl.of2 h
  exact ⟨this.1, fun i h1 h2 => ⟨ha _ (List.getElem_mem h1), this.2 i h1 h2⟩⟩
theorem exprS_same : ∀ (d : Nat) (x y u v : D), wfE d x ∧ Sm d x y → wfE d u ∧ Sm d u v → Ev (fun n => ast_sameExpr n y v) fun r => ∃ b, r = (true, [.bool b]) ∧ (b = true ↔ x = u) := by
  intro d
  induction d with
  | zero => intro x y u v h; exact h.1.elim
  | succ d ih =>
    rintro x y u v ⟨⟨k, t, xs, rfl, hs, ha⟩, h⟩ ⟨⟨k', t', us, rfl, hs', ha'⟩, h'⟩
    obtain ⟨k1, t1, xs1, a, b, e, ys, h0, rfl, hf⟩ := h
    obtain ⟨k2, t2, us1, a', b', e', vs, h0', rfl, hf'⟩ := h'
    obtain ⟨rfl, rfl, rfl⟩ := E_inj.1 h0
    obtain ⟨rfl, rfl, rfl⟩ := E_inj.1 h0'
    have hl := shapeE_le hs
    refine Ev.eq (fun n => ast_sameExpr_eq n k a b e t ys k' a' b' e' t' vs) ?_
    refine Ev.test (fun e1 => Ev.test (fun e2 => ?_) fun e2 => Ev.ret ⟨false, rfl, not_iff fun e => ne_of_beq e2 (E_inj.1 e).2.1⟩) fun e1 => Ev.ret ⟨false, rfl, not_iff fun e => ne_of_beq e1 (E_inj.1 e).1⟩
    refine Ev.bindC (expsS_same ih (by omega) (F2_rl hf ha) (F2_rl hf' ha')) ?_
    rintro _ _ ⟨b, h, hb⟩; cases h
    exact ⟨rfl, Ev.yes rfl (Ev.ret ⟨b, rfl, by rw [hb, E_inj]; exact ⟨fun h => ⟨eq_of_beq e1, eq_of_beq e2, h⟩, fun h => h.2.2⟩⟩)⟩
theorem no_items : Ev (fun n => slices_EqualFunc_Item n (.lst 14 []) (.lst 14 [])) fun r => r = (true, [.bool true]) :=
  Ev.eq (fun n => slices_EqualFunc_Item_eq n [] []) (Ev.no rfl (Ev.bindL (Q := fun r => r = (false, [.lst 14 [], .lst 14 [], .int .i64 0, .int .i64 0])) (Ev.eq (fun n => slices_EqualFunc_Item_L0_eq n _ _ _ _) (Ev.no rfl (Ev.ret rfl))) (fun ds h => by cases h) fun ds h => by cases h; exact Ev.yes rfl (Ev.ret rfl)))
theorem no_conns : Ev (fun n => slices_EqualFunc_Conn n (.lst 5 []) (.lst 5 [])) fun r => r = (true, [.bool true]) :=
  Ev.eq (fun n => slices_EqualFunc_Conn_eq n [] []) (Ev.no rfl (Ev.bindL (Q := fun r => r = (false, [.lst 5 [], .lst 5 [], .int .i64 0, .int .i64 0])) (Ev.eq (fun n => slices_EqualFunc_Conn_L0_eq n _ _ _ _) (Ev.no rfl (Ev.ret rfl))) (fun ds h => by cases h) fun ds h => by cases h; exact Ev.yes rfl (Ev.ret rfl)))
theorem no_stmts : Ev (fun n => slices_EqualFunc_Stmt n (.lst 8 []) (.lst 8 [])) fun r => r = (true, [.bool true]) :=
  Ev.eq (fun n => slices_EqualFunc_Stmt_eq n [] []) (Ev.no rfl (Ev.bindL (Q := fun r => r = (false, [.lst 8 [], .lst 8 [], .int .i64 0, .int .i64 0])) (Ev.eq (fun n => slices_EqualFunc_Stmt_L0_eq n _ _ _ _) (Ev.no rfl (Ev.ret rfl))) (fun ds h => by cases h) fun ds h => by cases h; exact Ev.yes rfl (Ev.ret rfl)))
theorem no_exprs : Ev (fun n => slices_EqualFunc_Expr n (.lst 6 []) (.lst 6 [])) fun r => r = (true, [.bool true]) :=
  Ev.eq (fun n => slices_EqualFunc_Expr_eq n [] []) (Ev.no rfl (Ev.bindL (Q := fun r => r = (false, [.lst 6 [], .lst 6 [], .int .i64 0, .int .i64 0])) (Ev.eq (fun n => slices_EqualFunc_Expr_L0_eq n _ _ _ _) (Ev.no rfl (Ev.ret rfl))) (fun ds h => by cases h) fun ds h => by cases h; exact Ev.yes rfl (Ev.ret rfl)))
/-- Some one element on both sides. -/
theorem eqOne {k : Nat} {T : Ty} {F : Nat → D → D → Out} {L : Nat → D → D → D → D → Out} {same : Nat → D → D → Out} {sk osk : Sk}
    (hF : ∀ n a0 a1, F (n + 1) (.lst k a0) (.lst k a1) = (bif ((a0.length : Int) != (a1.length : Int)) then (some (true, [(.bool false)])) else (AE.bindL (L n (.lst k a1) (.lst k a0) (.int .i64 (a0.length : Int)) (.int .i64 (0 : Int))) fun r1 => bif chk sk r1 then (some (true, [(.bool true)])) else none)))
    (hL : ∀ n a0 a1 a2 a3, L (n + 1) (.lst k a0) (.lst k a1) (.int .i64 a2) (.int .i64 a3) = (bif (decide (a3 < a2)) then (bif (decide (0 ≤ a3) && decide (a3 < (a1.length : Int))) then (bif notAny T && okTy T (a1[a3.toNat]?.getD D.top) then (bif (decide (0 ≤ a3) && decide (a3 < (a0.length : Int))) then (bif notAny T && okTy T (a0[a3.toNat]?.getD D.top) then
      (AE.bindC (same n (expTy T (a1[a3.toNat]?.getD D.top)) (expTy T (a0[a3.toNat]?.getD D.top))) fun r1 => bif chk osk r1 then (bif (!(nth r1 0).b) then (some (true, [(.bool false)])) else (L n (.lst k a0) (.lst k a1) (.int .i64 a2) (.int .i64 (IntKind.i64.wrap (a3 + 1))))) else none) else none) else none) else none) else none) else (some (false, [(.lst k a0), (.lst k a1), (.int .i64 a2), (.int .i64 a3)]))))
    (hT : notAny T = true) (hsk : ∀ a0 a1 i j, chk sk [.lst k a0, .lst k a1, .int .i64 i, .int .i64 j] = true) (hosk : ∀ b, chk osk [.bool b] = true) {y v : D}
    (hy : expTy T y = y ∧ okTy T y = true) (hv : expTy T v = v ∧ okTy T v = true) (hs : Ev (fun n => same n y v) fun r => r = (true, [.bool true])) : Ev (fun n => F n (.lst k [y]) (.lst k [v])) fun r => r = (true, [.bool true]) := by
  refine Ev.eq (fun n => hF n [y] [v]) (Ev.no rfl ?_)
  refine Ev.bindL (Q := fun r => r = (false, [.lst k [v], .lst k [y], .int .i64 1, .int .i64 1])) ?_ (fun ds h => by cases h) fun ds h => ?_
  · refine Ev.eq (fun n => hL n _ _ _ _) (Ev.yes rfl (Ev.yes rfl (Ev.yes (by show (notAny T && okTy T y) = true; rw [hT, hy.2]; rfl) (Ev.yes rfl (Ev.yes (by show (notAny T && okTy T v) = true; rw [hT, hv.2]; rfl) ?_)))))
    refine Ev.bindC (show Ev (fun n => same n (expTy T y) (expTy T v)) _ from by rw [hy.1, hv.1]; exact hs) ?_
    intro _ ds h; cases h
    exact ⟨rfl, Ev.yes (hosk true) (Ev.no rfl (Ev.eq (fun n => hL n _ _ _ _) (Ev.no rfl (Ev.ret rfl))))⟩
  · cases h
    exact Ev.yes (hsk _ _ _ _) (Ev.ret rfl)
/-- Two expressions that are alike to the same. -/
theorem same_sm {d : Nat} {x y v : D} (hx : wfE d x) (h1 : Sm d x y) (h2 : Sm d x v) : Ev (fun n => ast_sameExpr n y v) fun r => r = (true, [.bool true]) :=
  (exprS_same d x y x v ⟨hx, h1⟩ ⟨hx, h2⟩).mono fun r ⟨b, hr, hb⟩ => by rw [hr, hb.2 rfl]
theorem nm_same (y : List UInt8) (a b e a' b' e' : Int) : Ev (fun n => ast_sameExpr n (Nm y a b e) (Nm y a' b' e')) fun r => r = (true, [.bool true]) := by
  refine Ev.eq (fun n => ast_sameExpr_eq n 2 a b e y [] 2 a' b' e' y []) (Ev.yes rfl (Ev.yes (beq_self_eq_true _) (Ev.bindC no_exprs ?_)))
  intro _ ds h; cases h
  exact ⟨rfl, Ev.yes rfl (Ev.ret rfl)⟩
theorem two_same {y z v w : D} (ty : expTy ty_iiiisl6 y = y ∧ okTy ty_iiiisl6 y = true) (tz : expTy ty_iiiisl6 z = z ∧ okTy ty_iiiisl6 z = true) (tv : expTy ty_iiiisl6 v = v ∧ okTy ty_iiiisl6 v = true) (tw : expTy ty_iiiisl6 w = w ∧ okTy ty_iiiisl6 w = true)
    (h1 : Ev (fun n => ast_sameExpr n y v) fun r => r = (true, [.bool true])) (h2 : Ev (fun n => ast_sameExpr n z w) fun r => r = (true, [.bool true])) : Ev (fun n => slices_EqualFunc_Expr n (.lst 6 [y, z]) (.lst 6 [v, w])) fun r => r = (true, [.bool true]) := by
  refine Ev.eq (fun n => slices_EqualFunc_Expr_eq n [y, z] [v, w]) (Ev.no rfl ?_)
  refine Ev.bindL (Q := fun r => r = (false, [.lst 6 [v, w], .lst 6 [y, z], .int .i64 2, .int .i64 2])) ?_ (fun ds h => by cases h) fun ds h => ?_
  · refine Ev.eq (fun n => slices_EqualFunc_Expr_L0_eq n _ _ _ _) (Ev.yes rfl (Ev.yes rfl (Ev.yes (by show (notAny ty_iiiisl6 && okTy ty_iiiisl6 y) = true; rw [ty.2]; rfl) (Ev.yes rfl (Ev.yes (by show (notAny ty_iiiisl6 && okTy ty_iiiisl6 v) = true; rw [tv.2]; rfl) ?_)))))
    refine Ev.bindC (show Ev (fun n => ast_sameExpr n (expTy ty_iiiisl6 y) (expTy ty_iiiisl6 v)) _ from by rw [ty.1, tv.1]; exact h1) ?_
    intro _ ds h; cases h
    refine ⟨rfl, Ev.yes rfl (Ev.no rfl ?_)⟩
    refine Ev.eq (fun n => slices_EqualFunc_Expr_L0_eq n _ _ _ _) (Ev.yes rfl (Ev.yes rfl (Ev.yes (by show (notAny ty_iiiisl6 && okTy ty_iiiisl6 z) = true; rw [tz.2]; rfl) (Ev.yes rfl (Ev.yes (by show (notAny ty_iiiisl6 && okTy ty_iiiisl6 w) = true; rw [tw.2]; rfl) ?_)))))
    refine Ev.bindC (show Ev (fun n => ast_sameExpr n (expTy ty_iiiisl6 z) (expTy ty_iiiisl6 w)) _ from by rw [tz.1, tw.1]; exact h2) ?_
    intro _ ds h; cases h
    exact ⟨rfl, Ev.yes rfl (Ev.no rfl (Ev.eq (fun n => slices_EqualFunc_Expr_L0_eq n _ _ _ _) (Ev.no rfl (Ev.ret rfl))))⟩
  · cases h
    exact Ev.yes rfl (Ev.ret rfl)
theorem item_one {d : Nat} {x u v : D} (hx : wfE d x) (h1 : Sm d x u) (h2 : Sm d x v) (y : List UInt8) (a b e a1 b1 e1 a' b' e' a1' b1' e1' : Int) : Ev (fun n => ast_sameItem n (AI a b e (Nm y a1 b1 e1) u) (AI a' b' e' (Nm y a1' b1' e1') v)) fun r => r = (true, [.bool true]) := by
  refine Ev.eq (fun n => ast_sameItem_eq n 4 a b e [] [] false [Nm y a1 b1 e1, u] [] [] [] [] [] [] 4 a' b' e' [] [] false [Nm y a1' b1' e1', v] [] [] [] [] [] []) ?_
  refine Ev.no rfl (Ev.no rfl (Ev.no rfl (Ev.no rfl (Ev.bindC (two_same (y := Nm y a1 b1 e1) (v := Nm y a1' b1' e1') ⟨rfl, rfl⟩ (Sm_typ h1) ⟨rfl, rfl⟩ (Sm_typ h2) (nm_same ..) (same_sm hx h1 h2)) ?_))))
  intro _ ds h; cases h
  refine ⟨rfl, Ev.yes rfl (Ev.no rfl (Ev.bindC no_stmts ?_))⟩
  intro _ ds h; cases h
  refine ⟨rfl, Ev.yes rfl (evDf (fun n => ast_sameItem_j1_def n _ _ _ _ _ _ _ _ _ _ _) (Ev.no rfl (Ev.bindC no_exprs ?_)))⟩
  intro _ ds h; cases h
  refine ⟨rfl, Ev.yes rfl (Ev.yes rfl (Ev.bindC no_items ?_))⟩
  intro _ ds h; cases h
  refine ⟨rfl, Ev.yes rfl (Ev.yes rfl (Ev.bindC no_items ?_))⟩
  intro _ ds h; cases h
  refine ⟨rfl, Ev.yes rfl (Ev.yes rfl (Ev.bindC no_conns ?_))⟩
  intro _ ds h; cases h
  refine ⟨rfl, Ev.yes rfl (Ev.yes rfl (Ev.bindC no_conns ?_))⟩
  intro _ ds h; cases h
  exact ⟨rfl, Ev.yes rfl (Ev.ret rfl)⟩
theorem mod_one {d : Nat} {x u v : D} (hx : wfE d x) (h1 : Sm d x u) (h2 : Sm d x v) (m y : List UInt8) (a b e a1 b1 e1 a2 b2 e2 a' b' e' a1' b1' e1' a2' b2' e2' : Int) :
    Ev (fun n => ast_sameModule n (AMo m a b e (AI a1 b1 e1 (Nm y a2 b2 e2) u)) (AMo m a' b' e' (AI a1' b1' e1' (Nm y a2' b2' e2') v))) fun r => r = (true, [.bool true]) := by
  refine Ev.eq (fun n => ast_sameModule_eq n m a b e [] [] [AI a1 b1 e1 (Nm y a2 b2 e2) u] m a' b' e' [] [] [AI a1' b1' e1' (Nm y a2' b2' e2') v]) (Ev.yes (beq_self_eq_true _) (Ev.bindC no_items ?_))
  intro _ ds h; cases h
  refine ⟨rfl, Ev.yes rfl (Ev.yes rfl (Ev.bindC no_items ?_))⟩
  intro _ ds h; cases h
  refine ⟨rfl, Ev.yes rfl (Ev.yes rfl (Ev.bindC (eqOne slices_EqualFunc_Item_eq slices_EqualFunc_Item_L0_eq rfl (fun _ _ _ _ => rfl) (fun _ => rfl) ⟨rfl, rfl⟩ ⟨rfl, rfl⟩ (item_one hx h1 h2 y a1 b1 e1 a2 b2 e2 a1' b1' e1' a2' b2' e2')) ?_))⟩
  intro _ ds h; cases h
  exact ⟨rfl, Ev.yes rfl (Ev.ret rfl)⟩
theorem same_one {d : Nat} {x u v : D} (hx : wfE d x) (h1 : Sm d x u) (h2 : Sm d x v) (m y : List UInt8) (a b e a1 b1 e1 a2 b2 e2 a' b' e' a1' b1' e1' a2' b2' e2' : Int) :
    Ev (fun n => ast_Same n (.lst 7 [AMo m a b e (AI a1 b1 e1 (Nm y a2 b2 e2) u)]) (.lst 7 [AMo m a' b' e' (AI a1' b1' e1' (Nm y a2' b2' e2') v)])) fun r => r = (true, [.bool true]) := by
  refine Ev.eq (fun n => ast_Same_eq n _ _) (Ev.bindC (eqOne slices_EqualFunc_Module_eq slices_EqualFunc_Module_L0_eq rfl (fun _ _ _ _ => rfl) (fun _ => rfl) ⟨rfl, rfl⟩ ⟨rfl, rfl⟩ (mod_one hx h1 h2 m y a b e a1 b1 e1 a2 b2 e2 a' b' e' a1' b1' e1' a2' b2' e2')) ?_)
  intro _ ds h; cases h
  exact ⟨rfl, Ev.yes rfl (Ev.ret rfl)⟩
end Go.Proofs.YtalibicpmfbieaaGreatDoor
