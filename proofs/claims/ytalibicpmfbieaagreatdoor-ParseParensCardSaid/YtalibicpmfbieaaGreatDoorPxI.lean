/- ParseParens, plain. -/
import Derived.Test.YtalibicpmfbieaaGreatDoorPxH
import Derived.Test.YtalibicpmfbieaaGreatDoorPaW
namespace Go.Proofs.YtalibicpmfbieaaGreatDoor
open Go.AE
set_option linter.unusedVariables false
set_option linter.unusedSimpArgs false
def hdW : List Tk := [(1, modT), (1, [109]), (3, [40]), (3, [41]), (3, [59]), (1, assT), (1, [121]), (3, [61])]
def tlW : List Tk := [(3, [59]), (1, endT)]
def tlS : List UInt8 := [59, 32, 101, 110, 100, 109, 111, 100, 117, 108, 101]
def hdS : List UInt8 := [109, 111, 100, 117, 108, 101, 32, 109, 32, 40, 32, 41, 32, 59, 32, 97, 115, 115, 105, 103, 110, 32, 121, 32, 61, 32]
theorem hd_all : ((hdW ++ tlW).all fun p => allW.contains p) = true := by kernel_rfl
theorem hd_ok : OkW hdW := fun p hp => by
  have := List.all_eq_true.1 hd_all p (List.mem_append_left _ hp)
  simpa using this
theorem tl_ok : OkW tlW := fun p hp => by
  have := List.all_eq_true.1 hd_all p (List.mem_append_right _ hp)
  simpa using this
theorem ok_nms : ([([109] : List UInt8), [121]].all okN) = true := by kernel_rfl
theorem src_txt (X : List Tk) : joinStr [32] (words (tD (hdW ++ (X ++ tlW)))) = txS (hdW ++ X) ++ tlS := by
  rw [← List.append_assoc]
  exact join_txS (3, [59]) [(1, endT)] (hdW ++ X)
theorem hdS_is : txS hdW = hdS := by kernel_rfl
/-- The source of an assignment of words that make an expression, read. -/
theorem read_x {X : List Tk} {R : D → Prop} {h : Nat} (hR : ∀ y, R y → IsE y) (hX : OkW X) (hlen : X.length ≤ 600) (hh : h ≤ 39)
    (H : ∀ l : List D, l.length ≤ 1000000 → TokAt l 8 X → Nx l (8 + X.length) cl → Ph expF l 8 X.length R h) :
    Ev (fun n => law10_Read n (.str ((hdS ++ txS X) ++ tlS))) fun r => ∃ u a b e a1 b1 e1 a2 b2 e2 ts, R u ∧ r = (true, [.lst 7 [AMo [109] a b e (AI a1 b1 e1 (Nm [121] a2 b2 e2) u)], .lst 5 ts, .agg [.int .i64 0, .int .i64 0, .int .i64 0], .int .i64 0]) := by
  have hOk : OkW (hdW ++ (X ++ tlW)) := hd_ok.app (hX.app tl_ok)
  have h1 := txS_le hX
  have hs : ((hdS ++ txS X) ++ tlS).length ≤ 12000 := by
    have : hdS.length = 26 := rfl
    have : tlS.length = 11 := rfl
    simp only [List.length_append]; omega
  have hA : Again (1, 1) ((hdS ++ txS X) ++ tlS) (plc 1 (tD (hdW ++ (X ++ tlW)))) := by
    rw [← hdS_is, ← txS_app, ← src_txt]; exact again_join _ (tD_w hOk)
  have hlex := lexAgain_ev hs hA
  have T0 := tokAt_plc (hdW ++ (X ++ tlW)) [] []
  rw [List.append_nil, List.nil_append] at T0
  have hl : (plc 1 (tD (hdW ++ (X ++ tlW)))).length = 10 + X.length := by
    rw [plc_len, tD_len]
    have : hdW.length = 8 := rfl
    have : tlW.length = 2 := rfl
    simp only [List.length_append]; omega
  have hT := plc_toks 1 (tD (hdW ++ (X ++ tlW)))
  generalize plc 1 (tD (hdW ++ (X ++ tlW))) = l at hlex T0 hl hT
  obtain ⟨T1, T2⟩ := TokAt_app.1 T0
  obtain ⟨T2, T3⟩ := TokAt_app.1 T2
  rw [show ([] : List Tk).length + hdW.length = 8 from rfl] at T2 T3
  obtain ⟨⟨a7, b7, e7, g1⟩, ⟨a8, b8, e8, g2⟩, ⟨a9, b9, e9, g3⟩, ⟨a10, b10, e10, g4⟩, ⟨a11, b11, e11, g5⟩, ⟨a1, b1, e1, g6⟩, ⟨a2, b2, e2, g7⟩, ⟨a3, b3, e3, g8⟩, _⟩ := T1
  obtain ⟨⟨a4, b4, e4, g9⟩, ⟨a6, b6, e6, g10⟩, _⟩ := T3
  have P := H l (by omega) T2 ⟨[59], a4, b4, e4, g9, rfl⟩
  have hp := parseOne_x (l := l) (by omega) hR g1 g2 (List.all_eq_true.1 ok_nms _ (by simp)) g3 g4 g5 g6 g7 (List.all_eq_true.1 ok_nms _ (by simp)) g8 P hh ⟨a4, b4, e4, g9⟩ (by rw [show 0 + 5 + 4 + X.length = 8 + X.length + 1 from by omega]; exact g10) (by omega)
  refine Ev.eq (fun n => law10_Read_eq n _) (Ev.bindC hlex ?_)
  intro _ ds h; cases h
  refine ⟨rfl, Ev.yes (and_tt rfl (plain3T hT)) (Ev.no rfl (Ev.bindC hp ?_))⟩
  rintro _ ds ⟨u, hu, h0⟩
  cases h0
  exact ⟨rfl, Ev.yes rfl (Ev.ret ⟨u, _, _, _, _, _, _, _, _, _, _, hu, rfl⟩)⟩
def parW : Nat → List Tk → List Tk
  | 0, X => X
  | k + 1, X => (3, [40]) :: (parW k X ++ [(3, [41])])
theorem parW_len (X : List Tk) : ∀ k, (parW k X).length = X.length + 2 * k
  | 0 => rfl
  | k + 1 => by simp only [parW, List.length_cons, List.length_append, parW_len X k, List.length_nil]; omega
def rep2 (c : UInt8) : Nat → List UInt8
  | 0 => []
  | k + 1 => rep2 c k ++ [c, 32]
theorem rep2_comm (c : UInt8) : ∀ k, [c, 32] ++ rep2 c k = rep2 c k ++ [c, 32]
  | 0 => rfl
  | k + 1 => by show [c, 32] ++ (rep2 c k ++ [c, 32]) = _; rw [← List.append_assoc, rep2_comm c k]; rfl
theorem rep2_len (c : UInt8) : ∀ k, (rep2 c k).length = 2 * k
  | 0 => rfl
  | k + 1 => by simp only [rep2, List.length_append, List.length_cons, List.length_nil, rep2_len c k]; omega
theorem parW_txt (X : List Tk) : ∀ k, txS (parW k X) = (rep2 40 k ++ txS X) ++ rep2 41 k
  | 0 => by simp [parW, rep2]
  | k + 1 => by
    show txS ([(3, [40])] ++ (parW k X ++ [(3, [41])])) = _
    rw [txS_app, txS_app, parW_txt X k]
    show [40, 32] ++ (((rep2 40 k ++ txS X) ++ rep2 41 k) ++ [41, 32]) = ((rep2 40 k ++ [40, 32]) ++ txS X) ++ (rep2 41 k ++ [41, 32])
    rw [← rep2_comm]
    simp only [List.append_assoc]
theorem parW_ok {X : List Tk} (h : OkW X) : ∀ k, OkW (parW k X)
  | 0 => h
  | k + 1 => (OkW.sg (t := [40]) rfl).app ((parW_ok h k).app (OkW.sg (t := [41]) rfl))
section
variable {l : List D} (hl : l.length ≤ 1000000)
include hl
/-- An expression in parentheses: as an operand, and as an expression. -/
theorem par_ph {n : Nat} {x : D} (hx : wfE n x) : ∀ (k i : Nat), TokAt l i (parW k (wE n x)) → Nx l (i + (parW k (wE n x)).length) cl → Ph expF l i (parW k (wE n x)).length (Sm n x) (HX n + k)
  | 0, i, ht, hn => (core hl n x hx i ht).2 hn
  | k + 1, i, ht, hn => by
    have ht : (∃ a b e, l[i]? = some (tk 3 [40] a b e)) ∧ TokAt l (i + 1) (parW k (wE n x) ++ [(3, [41])]) := ht
    obtain ⟨h1, h2⟩ := TokAt_app.1 ht.2
    have hc := h2.1
    have I := par_ph hx k (i + 1) h1 (nx_of hc rfl)
    have O := one_paren hl (fun y => Sm_form) ht.1 I hc
    have e : 1 + (parW k (wE n x)).length + 1 = (parW (k + 1) (wE n x)).length := by simp only [parW, List.length_cons, List.length_append, List.length_nil]; omega
    have O := O.cast e
    obtain ⟨a, b, e, g⟩ := ht.1
    exact expr_unary hl (fun y => Sm_form) ⟨_, _, a, b, e, g⟩ hn (unary_of_one (fun y => Sm_form) ⟨_, _, a, b, e, g, .inr (.inl rfl)⟩ O)
theorem plus_par {n : Nat} {x : D} (hx : wfE n x) (k : Nat) {i : Nat} (ht : TokAt l i ((3, [43]) :: parW k (wE n x))) (hn : Nx l (i + ((3, [43]) :: parW k (wE n x) : List Tk).length) cl) :
    Ph expF l i ((3, [43]) :: parW k (wE n x) : List Tk).length (Sm n x) (HX n + k + 1) := by
  have e : ((3, [43]) :: parW k (wE n x) : List Tk).length = 1 + (parW k (wE n x)).length := by rw [List.length_cons]; omega
  rw [e] at hn ⊢
  cases k with
  | zero => exact plus_core hl hx ht hn
  | succ k =>
    have ht : (∃ a b e, l[i]? = some (tk 3 [43] a b e)) ∧ (∃ a b e, l[i + 1]? = some (tk 3 [40] a b e)) ∧ TokAt l (i + 1 + 1) (parW k (wE n x) ++ [(3, [41])]) := ht
    obtain ⟨h0, h1, h2⟩ := ht
    obtain ⟨h2, h3⟩ := TokAt_app.1 h2
    have hc := h3.1
    have I := par_ph hl hx k (i + 1 + 1) h2 (nx_of hc rfl)
    have O := one_paren hl (fun y => Sm_form) h1 I hc
    have e : 1 + (parW k (wE n x)).length + 1 = (parW (k + 1) (wE n x)).length := by simp only [parW, List.length_cons, List.length_append, List.length_nil]; omega
    have O := O.cast e
    obtain ⟨a, b, e, g⟩ := h1
    have U := (unary_sign hl (fun y => Sm_form) (List.mem_cons_self ..) h0 (unary_of_one (fun y => Sm_form) ⟨_, _, a, b, e, g, .inr (.inl rfl)⟩ O)).mono (R' := Sm n x) (fun y hy => hy) (Nat.le_refl _)
    exact (expr_unary hl (fun y => Sm_form) (any_of h0) hn U).mono (fun _ h => h) (by omega)
end
theorem txt_get {ws : List Tk} {i : Nat} (h : i < ws.length) : (txt ws)[((i : Nat) : Int).toNat]?.getD D.top = .str (ws[i]'h).2 := by
  rw [show ((i : Nat) : Int).toNat = i from rfl, txt, List.getElem?_map, List.getElem?_eq_getElem h]; rfl
theorem txS_take_succ {ws : List Tk} {i : Nat} (h : i < ws.length) : txS (ws.take (i + 1)) = txS (ws.take i) ++ ((ws[i]'h).2 ++ [32]) := by
  rw [List.take_add_one, List.getElem?_eq_getElem h, txS_app]
  simp [txS]
/-- The words, each with a blank behind it, are put together. -/
theorem wordsLoop {ws : List Tk} (hw : OkW ws) (hl : ws.length ≤ 1000) (times : Int) : ∀ (m i : Nat), ws.length - i = m → i ≤ ws.length →
    Ev (fun n => law10_ParseParens_L0 n (.int .i64 times) (.str (txS (ws.take i))) (.int .i64 ((txt ws).length : Int)) (.int .i64 (i : Int)) (.lst 1 (txt ws))) fun r =>
      ∃ i' : Int, r = (false, [.int .i64 times, .str (txS ws), .int .i64 ((txt ws).length : Int), .int .i64 i', .lst 1 (txt ws)]) := by
  intro m
  induction m with
  | zero =>
    intro i hm hi
    rw [List.take_of_length_le (by omega)]
    exact Ev.eq (fun n => law10_ParseParens_L0_eq n _ _ _ _ _) (Ev.no (decide_eq_false (by rw [txt_len]; omega)) (Ev.ret ⟨_, rfl⟩))
  | succ m ih =>
    intro i hm hi
    have hlt : i < ws.length := by omega
    have hlt2 : i < (txt ws).length := by rw [txt_len]; exact hlt
    have I := ih (i + 1) (by omega) (by omega)
    rw [← wrap_succ (by omega), txS_take_succ hlt] at I
    have h9 := of_decide_eq_true (List.all_eq_true.1 all_short _ (hw _ (List.getElem_mem hlt)))
    have hle := txS_le (ws := ws.take i) fun q hq => hw q (List.mem_of_mem_take hq)
    rw [List.length_take] at hle
    refine Ev.eq (fun n => law10_ParseParens_L0_eq n _ _ _ _ _) (Ev.yes (decide_eq_true (by rw [txt_len]; omega)) (Ev.yes (in_range hlt2) ?_))
    rw [txt_get hlt]
    generalize (ws[i]'hlt).2 = w at I h9
    refine Ev.yes rfl (Ev.yes (decide_eq_true (by show w.length + 1 ≤ maxStr; simp only [maxStr]; omega)) (Ev.yes (decide_eq_true ?_) I))
    show (txS (ws.take i)).length + (w ++ [32]).length ≤ maxStr
    simp only [maxStr, List.length_append, List.length_cons, List.length_nil]; omega
theorem parenLoop {w : List UInt8} {k : Nat} (hk : k ≤ 9) : ∀ (m i : Nat), k - i = m → i ≤ k →
    Ev (fun n => law10_ParseParens_L2 n (.str w) (.str (rep2 40 i)) (.str (rep2 41 i)) (.int .i64 (k : Int)) (.int .i64 (i : Int))) fun r =>
      ∃ i' : Int, r = (false, [.str w, .str (rep2 40 k), .str (rep2 41 k), .int .i64 (k : Int), .int .i64 i']) := by
  intro m
  induction m with
  | zero =>
    intro i hm hi
    have : i = k := by omega
    subst this
    exact Ev.eq (fun n => law10_ParseParens_L2_eq n _ _ _ _ _) (Ev.no (decide_eq_false (by omega)) (Ev.ret ⟨_, rfl⟩))
  | succ m ih =>
    intro i hm hi
    have I := ih (i + 1) (by omega) (by omega)
    rw [← wrap_succ (by omega)] at I
    exact Ev.eq (fun n => law10_ParseParens_L2_eq n _ _ _ _ _) (Ev.yes (decide_eq_true (by omega)) (Ev.yes (decide_eq_true (by rw [rep2_len]; simp only [maxStr]; omega)) (Ev.yes (decide_eq_true (by rw [rep2_len]; simp only [maxStr]; omega)) I)))
theorem short_ev {b : List D} (hb : Bytes b) : Ev (fun n => law09_Short n (.lst 1 b)) fun r => ∃ b', r = (true, [.lst 1 b']) ∧ Bytes b' ∧ b'.length ≤ 300 := by
  refine Ev.eq (fun n => law09_Short_eq n b) (Ev.test (fun h => ?_) fun h => ?_)
  · have := of_decide_eq_true h
    refine Ev.yes (decide_eq_true (by omega)) (Ev.ret ⟨_, rfl, ?_, ?_⟩)
    · intro x hx
      exact hb x (List.mem_of_mem_drop (List.mem_of_mem_take hx))
    · rw [List.length_take]; omega
  · have := of_decide_eq_false h
    exact Ev.ret ⟨_, rfl, hb, by omega⟩
theorem parseParens_plain {b : List D} (hb : Bytes b) (times : Int) : Ev (fun n => law10_ParseParens n (.lst 1 b) (.int .i64 times)) fun r => r = (true, [.bool true]) := by
  refine Ev.eq (fun n => law10_ParseParens_eq n b times) (Ev.bindC awake10 ?_)
  intro _ ds h; cases h
  refine ⟨rfl, Ev.yes rfl (Ev.no rfl (Ev.bindC (short_ev hb) ?_))⟩
  rintro _ ds ⟨b', h, hb', hl'⟩
  cases h
  refine ⟨rfl, Ev.yes rfl (Ev.bindC (makeExpr_ev 3 4 (by decide) (by decide) (by decide) b' 0 ⟨hb', hl', Int.le_refl _, by omega⟩) ?_)⟩
  rintro _ ds ⟨x, a', h, hx, _⟩
  cases h
  have hw := exprWx 4 (by decide) x hx
  have hok := wE_ok 4 x hx
  have hlen := wE_len 4 x hx
  have hE : EWx 4 = 400 := rfl
  rw [hE] at hlen
  generalize hW : wE 4 x = W at hw hok hlen
  refine ⟨rfl, Ev.yes (by show ((okTy ty_iiiisl6 x && true) && true) = true; rw [(wfx hx).2]; rfl) (Ev.bindC (show Ev (fun n => ref09_ExprWords n (expTy ty_iiiisl6 x)) _ from by rw [(wfx hx).1]; exact hw) ?_)⟩
  intro _ ds h; cases h
  refine ⟨rfl, Ev.yes rfl ?_⟩
  refine Ev.bindL (show Ev (fun n => law10_ParseParens_L0 n (.int .i64 times) (.str (txS (W.take 0))) (.int .i64 ((txt W).length : Int)) (.int .i64 ((0 : Nat) : Int)) (.lst 1 (txt W))) _ from wordsLoop hok (by omega) times W.length 0 rfl (Nat.zero_le _)) (fun ds h => by obtain ⟨_, h⟩ := h; cases h) fun ds h => ?_
  obtain ⟨_, h⟩ := h
  cases h
  refine Ev.yes rfl ?_
  obtain ⟨k, hk, ek⟩ : ∃ k : Nat, k ≤ 9 ∧ max 0 (min times 9) = (k : Int) := ⟨(max 0 (min times 9)).toNat, by omega, by omega⟩
  have Lp := parenLoop (w := txS W) hk k 0 rfl (Nat.zero_le _)
  rw [← ek] at Lp
  refine Ev.bindL Lp (fun ds h => by obtain ⟨_, h⟩ := h; cases h) fun ds h => ?_
  obtain ⟨_, h⟩ := h
  cases h
  have htx := txS_le hok
  have hr1 := rep2_len 40 k
  have hr2 := rep2_len 41 k
  have R1 : Ev (fun n => law10_Read n (.str ((hdS ++ txS W) ++ tlS))) _ := read_x (X := W) (R := Sm 4 x) (h := HX 4) (fun y => Sm_form) hok (by omega) (by decide) (fun l hl ht hn => by subst hW; exact (core hl 4 x hx 8 ht).2 hn)
  have e2 : hdS ++ txS ((3, [43]) :: parW k W) = (((hdS ++ [43, 32]) ++ rep2 40 k) ++ txS W) ++ rep2 41 k := by
    show hdS ++ ([43, 32] ++ txS (parW k W)) = _
    rw [parW_txt]; simp only [List.append_assoc]
  have R2 := read_x (X := (3, [43]) :: parW k W) (R := Sm 4 x) (h := HX 4 + k + 1) (fun y => Sm_form) ((OkW.sg (t := [43]) rfl).app (parW_ok hok k)) (by rw [List.length_cons, parW_len]; omega) (by have : HX 4 = 8 := rfl; omega) (fun l hl ht hn => by subst hW; exact plus_par hl hx k ht hn)
  rw [e2] at R2
  have l1 : hdS.length = 26 := rfl
  refine Ev.yes rfl (Ev.yes (decide_eq_true (by show 26 + (txS W).length ≤ maxStr; simp only [maxStr]; omega)) (Ev.yes (decide_eq_true (by show (hdS ++ txS W).length + 11 ≤ maxStr; simp only [maxStr, List.length_append]; omega)) (Ev.bindC R1 ?_)))
  rintro _ ds ⟨u, a, b, e, a1, b1, e1, a2, b2, e2', ts, hu, h⟩
  cases h
  refine ⟨rfl, Ev.yes rfl (Ev.yes (decide_eq_true (by show 28 + (rep2 40 k).length ≤ maxStr; simp only [maxStr]; omega)) (Ev.yes (decide_eq_true (by show ((hdS ++ [43, 32]) ++ rep2 40 k).length + (txS W).length ≤ maxStr; simp only [maxStr, List.length_append, List.length_cons, List.length_nil]; omega)) (Ev.yes (decide_eq_true (by show (((hdS ++ [43, 32]) ++ rep2 40 k) ++ txS W).length + (rep2 41 k).length ≤ maxStr; simp only [maxStr, List.length_append, List.length_cons, List.length_nil]; omega)) (Ev.yes (decide_eq_true (by show ((((hdS ++ [43, 32]) ++ rep2 40 k) ++ txS W) ++ rep2 41 k).length + 11 ≤ maxStr; simp only [maxStr, List.length_append, List.length_cons, List.length_nil]; omega)) (Ev.bindC R2 ?_)))))⟩
  rintro _ ds ⟨v, a', b', e', a1', b1', e1', a2', b2', e2'', ts', hv, h⟩
  cases h
  refine ⟨rfl, Ev.yes rfl (Ev.yes rfl (Ev.yes rfl (Ev.bindC (same_one hx hu hv [109] [121] a b e a1 b1 e1 a2 b2 e2' a' b' e' a1' b1' e1' a2' b2' e2'') ?_)))⟩
  intro _ ds h; cases h
  exact ⟨rfl, Ev.yes rfl (Ev.yes rfl (Ev.ret rfl))⟩
end Go.Proofs.YtalibicpmfbieaaGreatDoor
