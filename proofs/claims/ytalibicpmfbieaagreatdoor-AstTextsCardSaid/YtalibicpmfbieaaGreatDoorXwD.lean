/- The reference's words of items are these. -/
import Derived.Test.YtalibicpmfbieaaGreatDoorXwC
namespace Go.Proofs.YtalibicpmfbieaaGreatDoor
open Go.AE
set_option linter.unusedVariables false
set_option linter.unusedSimpArgs false
theorem nth2 {k : Nat} {ws rest : List D} {a b : D} : (nth (a :: b :: .lst k ws :: rest) 2).l = ws := rfl
theorem boundsR {es : List D} (hl : es.length ≤ 2) (h : ∀ e ∈ es, wfE 4 e) : Ev (fun n => ref09_bounds n (.lst 6 es)) (fun r => r = (true, [.lst 1 (txt (boW es))])) := by
  match es, hl, h with
  | [], _, _ => exact Ev.eq (fun n => ref09_bounds_eq n []) (Ev.yes rfl (Ev.ret rfl))
  | [x], _, h => exact boundsX1 (A := 400) (by decide) (fun x h => wE4_len h) hE4 (h x (by simp))
  | [x, y], _, h => exact boundsX2 (A := 400) (by decide) (fun x h => wE4_len h) hE4 (h x (by simp)) (h y (by simp))
theorem stmt4 {x : D} (h : wfS 4 x) : Ev (fun n => ref09_StmtWords n (expTy ty_isl6l5l6 x)) (fun r => r = (true, [.lst 1 (txt (wS 4 x))])) := by rw [(wfS_exp h).1]; exact stmtR 4 (by decide) x h
section
variable {es fs : List D} {nm ty : List UInt8}
theorem net5R (hf1 : fs.length ≤ 1) (hf : ∀ e ∈ fs, wfE 4 e) {g : List Tk} (hg : g.length ≤ 1700) : Ev (fun n => ref09_net_j5 n (txt g) fs) (fun r => r = (true, [.lst 1 (txt (g ++ (bif fs.isEmpty then [] else [(3, [61])] ++ wE 4 (x0 fs))))])) := by
  refine evDf (fun n => ref09_net_j5_def n _ _) ?_
  match fs, hf1, hf with
  | [], _, _ => exact Ev.no rfl (Ev.ret (by simp [txt]))
  | [e], _, hf =>
    have h1 := hf e (by simp)
    have l1 := wE4_len h1
    refine Ev.yes rfl ?_
    refine Ev.yes (Nat.ble_eq_true_of_le (by simp only [txt, List.length_map, List.length_append, List.length_cons, List.length_nil, maxLst]; omega)) ?_
    refine Ev.yes rfl (Ev.yes (okE4 h1) (Ev.bindC (exprR (x := e) h1) ?_))
    (intro _ _ h; cases h; refine ⟨rfl, Ev.yes rfl ?_⟩; try simp only [nthL])
    refine Ev.yes (Nat.ble_eq_true_of_le (by simp only [txt, List.length_map, List.length_append, List.length_cons, List.length_nil, maxLst]; omega)) ?_
    refine Ev.ret ?_
    show _ = (true, [D.lst 1 (txt (g ++ ([(3, [61])] ++ wE 4 e)))])
    simp [txt]
theorem net4R (hl : es.length = 0 ∨ es.length = 2 ∨ es.length = 4) (he : ∀ e ∈ es, wfE 4 e) (hf1 : fs.length ≤ 1) (hf : ∀ e ∈ fs, wfE 4 e) {g : List Tk} (hg : g.length ≤ 850) :
    Ev (fun n => ref09_net_j4 n (txt g) es nm fs) (fun r => r = (true, [.lst 1 (txt (g ++ ([(1, nm)] ++ (boW (es.drop 2) ++ (bif fs.isEmpty then [] else [(3, [61])] ++ wE 4 (x0 fs))))))])) := by
  have hb := boW_len (es := es.drop 2) fun e h => he e (List.mem_of_mem_drop h)
  refine evDf (fun n => ref09_net_j4_def n _ _ _ _) ?_
  refine Ev.yes (Nat.ble_eq_true_of_le (by simp only [txt, List.length_map, List.length_append, List.length_cons, List.length_nil, maxLst]; omega)) ?_
  refine Ev.test (fun hc => ?_) fun hc => ?_
  · have hc := of_decide_eq_true hc
    have e0 : (es.drop 2).take ((es.length : Int).toNat - 2) = es.drop 2 := List.take_of_length_le (by rw [List.length_drop]; omega)
    refine Ev.yes (by simp; omega) (Ev.bindC (show Ev (fun n => ref09_bounds n (.lst 6 ((es.drop 2).take ((es.length : Int).toNat - 2)))) _ from by rw [e0]; exact boundsR (by rw [List.length_drop]; omega) fun e h => he e (List.mem_of_mem_drop h)) ?_)
    (intro _ _ h; cases h; refine ⟨rfl, Ev.yes rfl ?_⟩; try simp only [nthL])
    refine Ev.yes (Nat.ble_eq_true_of_le (by simp only [txt, List.length_map, List.length_append, List.length_cons, List.length_nil, maxLst]; omega)) ?_
    have := net5R hf1 hf (g := g ++ ([(1, nm)] ++ boW (es.drop 2))) (by simp only [List.length_append, List.length_cons, List.length_nil]; omega)
    rw [show txt g ++ [D.str nm] ++ txt (boW (es.drop 2)) = txt (g ++ ([(1, nm)] ++ boW (es.drop 2))) from by simp [txt]]
    refine this.mono fun r hr => ?_
    rw [hr]; simp [txt]
  · have hc := of_decide_eq_false hc
    have e0 : es.drop 2 = [] := List.drop_eq_nil_of_le (by omega)
    have := net5R hf1 hf (g := g ++ [(1, nm)]) (by simp only [List.length_append, List.length_cons, List.length_nil]; omega)
    rw [show txt g ++ [D.str nm] = txt (g ++ [(1, nm)]) from by simp [txt]]
    refine this.mono fun r hr => ?_
    rw [hr, e0]; simp [txt, boW]
theorem net3R (hl : es.length = 0 ∨ es.length = 2 ∨ es.length = 4) (he : ∀ e ∈ es, wfE 4 e) (hf1 : fs.length ≤ 1) (hf : ∀ e ∈ fs, wfE 4 e) {g : List Tk} (hg : g.length ≤ 3) :
    Ev (fun n => ref09_net_j3 n (txt g) es nm fs) (fun r => r = (true, [.lst 1 (txt (g ++ (boW (es.take 2) ++ ([(1, nm)] ++ (boW (es.drop 2) ++ (bif fs.isEmpty then [] else [(3, [61])] ++ wE 4 (x0 fs)))))))])) := by
  have hb := boW_len (es := es.take 2) fun e h => he e (List.mem_of_mem_take h)
  refine evDf (fun n => ref09_net_j3_def n _ _ _ _) ?_
  refine Ev.test (fun hc => ?_) fun hc => ?_
  · have hc := of_decide_eq_true hc
    refine Ev.yes (by simp; omega) (Ev.bindC (show Ev (fun n => ref09_bounds n (.lst 6 ((es.drop 0).take 2))) _ from by rw [List.drop_zero]; exact boundsR (by rw [List.length_take]; omega) fun e h => he e (List.mem_of_mem_take h)) ?_)
    (intro _ _ h; cases h; refine ⟨rfl, Ev.yes rfl ?_⟩; try simp only [nthL])
    refine Ev.yes (Nat.ble_eq_true_of_le (by simp only [txt, List.length_map, List.length_append, List.length_cons, List.length_nil, maxLst]; omega)) ?_
    have := net4R (nm := nm) hl he hf1 hf (g := g ++ boW (es.take 2)) (by simp only [List.length_append]; omega)
    rw [show txt g ++ txt (boW (es.take 2)) = txt (g ++ boW (es.take 2)) from by simp [txt]]
    refine this.mono fun r hr => ?_
    rw [hr]; simp only [List.append_assoc]
  · have hc := of_decide_eq_false hc
    have e0 : es = [] := List.eq_nil_of_length_eq_zero (by omega)
    subst e0
    exact net4R (nm := nm) hl he hf1 hf (g := g) (by omega)
theorem netR {k : Int} {sg : Bool} {bs its els ps qs : List D} (hl : es.length = 0 ∨ es.length = 2 ∨ es.length = 4) (he : ∀ e ∈ es, wfE 4 e) (hf1 : fs.length ≤ 1) (hf : ∀ e ∈ fs, wfE 4 e) : Ev (fun n => ref09_net n (I k nm ty sg es fs bs its els ps qs)) (fun r => r = (true, [.lst 1 (txt (nW nm ty sg es fs))])) := by
  refine Ev.eq (fun n => ref09_net_eq n k nm ty sg es fs bs its els ps qs) ?_
  have J2 : ∀ (b : Bool) (g : List Tk), g.length ≤ 2 → Ev (fun n => ref09_net_j2 n b (txt g) es nm fs) (fun r => r = (true, [.lst 1 (txt (g ++ ((bif b then [(1, sgnT)] else []) ++ (boW (es.take 2) ++ ([(1, nm)] ++ (boW (es.drop 2) ++ (bif fs.isEmpty then [] else [(3, [61])] ++ wE 4 (x0 fs))))))))])) := by
    intro b g hg
    refine evDf (fun n => ref09_net_j2_def n _ _ _ _ _) ?_
    cases b with
    | true =>
      refine Ev.yes rfl ?_
      refine Ev.yes (Nat.ble_eq_true_of_le (by simp only [txt, List.length_map, List.length_append, List.length_cons, List.length_nil, maxLst]; omega)) ?_
      have := net3R (nm := nm) hl he hf1 hf (g := g ++ [(1, sgnT)]) (by simp only [List.length_append, List.length_cons, List.length_nil]; omega)
      rw [show txt (g ++ [(1, sgnT)]) = txt g ++ [.str sgnT] from by simp [txt]] at this
      refine this.mono fun r hr => ?_
      rw [hr]; simp [txt]
    | false =>
      refine Ev.no rfl ?_
      exact net3R (nm := nm) hl he hf1 hf (g := g) (by omega)
  have J1 : ∀ (g : List Tk), g.length ≤ 2 → Ev (fun n => ref09_net_j1 n (txt g) sg ty es nm fs) (fun r => r = (true, [.lst 1 (txt (g ++ ((bif sg && !(ty == intT) then [(1, sgnT)] else []) ++ (boW (es.take 2) ++ ([(1, nm)] ++ (boW (es.drop 2) ++ (bif fs.isEmpty then [] else [(3, [61])] ++ wE 4 (x0 fs))))))))])) := by
    intro g hg
    refine evDf (fun n => ref09_net_j1_def n _ _ _ _ _ _) ?_
    cases sg with
    | true => exact Ev.yes rfl (J2 _ g hg)
    | false => exact Ev.no rfl (J2 false g hg)
  unfold nW
  refine Ev.test (fun h => ?_) fun h => ?_
  · rw [show (ty == oregT) = true from h]
    exact J1 [(1, outT), (1, regT)] (by simp)
  · rw [show (ty == oregT) = false from h]
    exact J1 [(1, ty)] (by simp)
end
theorem netXR {T : NT} {x : D} (h : xN T x) : Ev (fun n => ref09_net n x) (fun r => r = (true, [.lst 1 (txt (poW x))])) := by
  obtain ⟨nm, ty, q, f, sg, es, fs, rfl, _, _, _, _, hl, hf1, he, hf⟩ := h
  exact netR hl he (by rcases hf1 with rfl | ⟨_, h, _⟩; exact Nat.zero_le _; omega) hf
theorem connsR {xs : List D} (hn : xs.length ≤ 2) (h : ∀ x ∈ xs, xC x) : Ev (fun n => ref09_conns n (.lst 2 xs)) (fun r => r = (true, [.lst 1 (txt (csW xs))])) := by
  have hc := lW_len (w := cW) (A := 410) (xs := xs) fun x hx => cW_len (h x hx)
  have hm : xs.length * 411 ≤ 2 * 411 := Nat.mul_le_mul_right _ hn
  refine Ev.eq (fun n => ref09_conns_eq n xs) ?_
  refine Ev.bindL (Q := fun r => ∃ q, r = (false, [.lst 2 xs, .int .i64 q, .lst 1 ([.str [40]] ++ txt (lW cW xs))])) ?_ (fun ds h => by obtain ⟨_, h⟩ := h; cases h) fun ds h => ?_
  · refine commaLoop (xs := xs) (w := cW) (m := 410) (C := 823) (T := fun j acc n => ref09_conns_L0 n (.lst 2 xs) (.int .i64 j) (.lst 1 acc)) (acc0 := [.str [40]]) (by omega) (fun x hx => cW_len (h x hx)) (by simp only [List.length_cons, List.length_nil]; omega) (fun j acc hj hl K => ?_) ?_
    · refine Ev.eq (fun n => ref09_conns_L0_eq n xs _ _) (Ev.yes (decide_eq_true (by omega)) ?_)
      obtain ⟨nm, es, e, _, le, he⟩ := h xs[j] (List.getElem_mem hj)
      have l1 := lW_len (w := wE 4) (A := 400) (xs := es) fun x hx => wE4_len (he x hx)
      have l2 : es.length * 401 ≤ 1 * 401 := Nat.mul_le_mul_right _ le
      have eC : cW xs[j] = [(3, [46]), (1, nm), (3, [40])] ++ (lW (wE 4) es ++ [(3, [41])]) := by rw [e]; rfl
      rw [eC] at K
      have J1 : ∀ (P : Bool × List D → Prop) (g : List Tk), g.length ≤ 1 → Ev (fun n => ref09_conns_L0 n (.lst 2 xs) (.int .i64 (IntKind.i64.wrap ((j : Int) + 1))) (.lst 1 (acc ++ txt (g ++ ([(3, [46]), (1, nm), (3, [40])] ++ (lW (wE 4) es ++ [(3, [41])])))))) P →
          Ev (fun n => ref09_conns_L0_j1 n (acc ++ txt g) (j : Int) xs) P := by
        intro P g hg K
        refine evDf (fun n => ref09_conns_L0_j1_def n _ _ _) (Ev.yes (in_range hj) ?_)
        rw [get_nat hj, e]
        refine Ev.yes rfl (Ev.yes rfl ?_)
        refine Ev.yes (Nat.ble_eq_true_of_le (by simp only [txt, List.length_map, List.length_append, List.length_cons, List.length_nil, maxLst]; omega)) ?_
        refine Ev.yes (in_range hj) (Ev.yes rfl (Ev.yes rfl (Ev.bindC (listR (xs := es) (by omega) he) ?_)))
        (intro _ _ h; cases h; refine ⟨rfl, Ev.yes rfl ?_⟩; try simp only [nthL])
        refine Ev.yes (Nat.ble_eq_true_of_le (by simp only [txt, List.length_map, List.length_append, List.length_cons, List.length_nil, maxLst]; omega)) ?_
        refine Ev.yes (Nat.ble_eq_true_of_le (by simp only [txt, List.length_map, List.length_append, List.length_cons, List.length_nil, maxLst]; omega)) ?_
        have e0 : ((acc ++ txt g ++ [.str [46], .str nm, .str [40]]) ++ txt (lW (wE 4) es)) ++ [.str [41]] = acc ++ txt (g ++ ([(3, [46]), (1, nm), (3, [40])] ++ (lW (wE 4) es ++ [(3, [41])]))) := by simp [txt]
        show Ev (fun n => ref09_conns_L0 n (.lst 2 xs) _ (.lst 1 (((acc ++ txt g ++ [.str [46], .str nm, .str [40]]) ++ txt (lW (wE 4) es)) ++ [.str [41]]))) P
        rw [e0]
        exact K
      refine Ev.test (fun h0 => ?_) fun h0 => ?_
      · have h0 := of_decide_eq_true h0
        rw [show (j == 0) = false from beq_eq_false_iff_ne.2 (by omega)] at K
        refine Ev.yes (Nat.ble_eq_true_of_le (by simp only [txt, List.length_map, List.length_append, List.length_cons, List.length_nil, maxLst]; omega)) ?_
        exact J1 _ [(3, [44])] (by simp) K
      · have h0 := of_decide_eq_false h0
        have : j = 0 := by omega
        subst this
        have J := J1 _ [] (by simp) K
        rw [show acc ++ txt [] = acc from by simp [txt]] at J
        exact J
    · exact Ev.eq (fun n => ref09_conns_L0_eq n xs _ _) (Ev.no (decide_eq_false (by omega)) (Ev.ret ⟨_, rfl⟩))
  · obtain ⟨q, h⟩ := h
    cases h
    refine Ev.yes rfl ?_
    simp only [nth2]
    refine Ev.yes (Nat.ble_eq_true_of_le (by simp only [txt, List.length_map, List.length_append, List.length_cons, List.length_nil, maxLst]; omega)) ?_
    refine Ev.ret ?_
    show _ = (true, [D.lst 1 (txt ([(3, [40])] ++ (lW cW xs ++ [(3, [41])])))])
    simp [txt]
theorem xI_exp {n : Nat} {x : D} (h : xI n x) : expTy ty_issbl6l6l5l11l11l2l2 x = x ∧ (notAny ty_issbl6l6l5l11l11l2l2 && okTy ty_issbl6l6l5l11l11l2l2 x) = true := by
  obtain ⟨k, nm, ty, sg, es, fs, bs, its, els, ps, qs, rfl⟩ := xI_form h
  exact ⟨rfl, rfl⟩
theorem xN_exp {T : NT} {x : D} (h : xN T x) : expTy ty_issbl6l6l5l11l11l2l2 x = x ∧ (notAny ty_issbl6l6l5l11l11l2l2 && okTy ty_issbl6l6l5l11l11l2l2 x) = true := by
  obtain ⟨nm, ty, sg, es, fs, rfl⟩ := xN_form h
  exact ⟨rfl, rfl⟩
/-- Items, one behind the other. -/
theorem itemsR {w : D → List Tk} {m N : Nat} {xs : List D} (hN : N ≤ 10) (hn : xs.length ≤ N) (hm : m ≤ 1000000000) (hw : ∀ x ∈ xs, (w x).length ≤ m) (hT : ∀ x ∈ xs, (notAny ty_issbl6l6l5l11l11l2l2 && okTy ty_issbl6l6l5l11l11l2l2 x) = true)
    (hI : ∀ x ∈ xs, Ev (fun n => ref09_ItemWords n (expTy ty_issbl6l6l5l11l11l2l2 x)) (fun r => r = (true, [.lst 1 (txt (w x))]))) : Ev (fun n => ref09_ItemsWords n (.lst 11 xs)) (fun r => r = (true, [.lst 1 (txt (xs.flatMap w))])) := by
  have hb : xs.length * m ≤ 10 * m := Nat.mul_le_mul_right _ (by omega)
  refine Ev.eq (fun n => ref09_ItemsWords_eq n xs) ?_
  refine Ev.bindL (Q := fun r => ∃ q, r = (false, [.lst 11 xs, .int .i64 q, .lst 1 ([] ++ txt (xs.flatMap w))])) ?_ (fun ds h => by obtain ⟨_, h⟩ := h; cases h) fun ds h => ?_
  · refine flatLoop (xs := xs) (w := w) (m := m) (C := 10 * m) (T := fun j acc n => ref09_ItemsWords_L0 n (.lst 11 xs) (.int .i64 j) (.lst 1 acc)) (acc0 := []) (by omega) hw (by simp only [List.length_nil]; omega) (fun j acc hj hl K => ?_) ?_
    · have l1 := hw xs[j] (List.getElem_mem hj)
      refine Ev.eq (fun n => ref09_ItemsWords_L0_eq n xs _ _) (Ev.yes (decide_eq_true (by omega)) (Ev.yes (in_range hj) ?_))
      rw [get_nat hj]
      refine Ev.yes (hT _ (List.getElem_mem hj)) (Ev.bindC (hI _ (List.getElem_mem hj)) ?_)
      (intro _ _ h; cases h; refine ⟨rfl, Ev.yes rfl ?_⟩; try simp only [nthL])
      refine Ev.yes (Nat.ble_eq_true_of_le (by simp only [txt, List.length_map, List.length_append, List.length_cons, List.length_nil, maxLst]; omega)) ?_
      exact K
    · exact Ev.eq (fun n => ref09_ItemsWords_L0_eq n xs _ _) (Ev.no (decide_eq_false (by omega)) (Ev.ret ⟨_, rfl⟩))
  · obtain ⟨q, h⟩ := h
    cases h
    exact Ev.yes rfl (Ev.ret rfl)
/-- A block of items. -/
theorem blockR {w : D → List Tk} {m : Nat} {t : List UInt8} {its : List D} (ht : t.length ≤ 10) (hn : its.length ≤ 2) (hm : m ≤ 1000000000) (hw : ∀ x ∈ its, (w x).length ≤ m) (hI : Ev (fun n => ref09_ItemsWords n (.lst 11 its)) (fun r => r = (true, [.lst 1 (txt (its.flatMap w))]))) :
    Ev (fun n => ref09_blocks n (.lst 11 [gB t its])) (fun r => r = (true, [.lst 1 (txt ([gB t its].flatMap (blW w)))])) := by
  have l1 := flat_len (w := w) (m := m) hw
  have l2 : its.length * m ≤ 2 * m := Nat.mul_le_mul_right _ hn
  refine Ev.eq (fun n => ref09_blocks_eq n _) ?_
  refine Ev.bindL (Q := fun r => r = (false, [.lst 11 [gB t its], .int .i64 1, .lst 1 (txt ([gB t its].flatMap (blW w)))])) ?_ (fun ds h => by cases h) fun ds h => ?_
  · refine Ev.eq (fun n => ref09_blocks_L0_eq n _ _ _) (Ev.yes rfl (Ev.yes rfl (Ev.yes rfl (Ev.yes rfl ?_))))
    refine Ev.yes rfl (Ev.yes rfl (Ev.yes rfl (Ev.yes rfl (Ev.bindC hI ?_))))
    (intro _ _ h; cases h; refine ⟨rfl, Ev.yes rfl ?_⟩; try simp only [nthL])
    refine Ev.yes (Nat.ble_eq_true_of_le (by simp only [txt, List.length_map, List.length_append, List.length_cons, List.length_nil, maxLst]; omega)) ?_
    refine Ev.yes (Nat.ble_eq_true_of_le (by simp only [txt, List.length_map, List.length_append, List.length_cons, List.length_nil, maxLst]; omega)) ?_
    refine Ev.eq (fun n => ref09_blocks_L0_eq n _ _ _) (Ev.no rfl (Ev.ret ?_))
    show _ = (false, [D.lst 11 [gB t its], .int .i64 1, D.lst 1 (txt (([(1, beginT), (3, [58]), (1, t)] ++ (its.flatMap w ++ [(1, endS)])) ++ []))])
    simp [txt, beginT, endS]
    exact ⟨rfl, rfl⟩
  · cases h
    exact Ev.yes rfl (Ev.ret rfl)
theorem itemR : ∀ (d : Nat), IL d ≤ 1000000000 → ∀ x, xI d x → Ev (fun n => ref09_ItemWords n x) (fun r => r = (true, [.lst 1 (txt (wI d x))])) := by
  intro d
  induction d with
  | zero => intro _ x h; exact h.elim
  | succ d ih =>
    intro hd x hx
    simp only [IL] at hd
    have ih := ih (by omega)
    have hL := wI_len d
    have ihs : ∀ {its : List D}, its.length ≤ 10 → (∀ i ∈ its, xI d i) → Ev (fun n => ref09_ItemsWords n (.lst 11 its)) (fun r => r = (true, [.lst 1 (txt (its.flatMap (wI d)))])) := fun {its} hl hi =>
      itemsR (N := 10) (m := IL d) (by decide) hl (by omega) (fun x h => hL x (hi x h)) (fun x h => (xI_exp (hi x h)).2) (fun x h => by rw [(xI_exp (hi x h)).1]; exact ih x (hi x h))
    have nets : ∀ {T : NT} {x : D}, xN T x → Ev (fun n => ref09_ItemWords n x) (fun r => r = (true, [.lst 1 (txt (wI (d + 1) x))])) := by
      intro T x h
      have hN := netXR h
      have hl := wI_net (n := d) h
      obtain ⟨nm, ty, sg, es, fs, rfl⟩ := xN_form h
      refine Ev.eq (fun n => ref09_ItemWords_eq n 1 nm ty sg es fs [] [] [] [] []) (Ev.yes rfl (Ev.bindC hN ?_))
      have hl : (nW nm ty sg es fs ++ [(3, [59])] : List Tk).length ≤ 2101 := hl
      simp only [List.length_append, List.length_cons, List.length_nil] at hl
      have e0 : poW (I 1 nm ty sg es fs [] [] [] [] []) = nW nm ty sg es fs := rfl
      rw [e0]
      (intro _ _ h; cases h; refine ⟨rfl, Ev.yes rfl ?_⟩; try simp only [nthL])
      refine Ev.yes (Nat.ble_eq_true_of_le (by simp only [txt, List.length_map, List.length_append, List.length_cons, List.length_nil, maxLst]; omega)) ?_
      refine Ev.ret ?_
      show _ = (true, [D.lst 1 (txt (nW nm ty sg es fs ++ [(3, [59])]))])
      simp [txt]
    rcases hx with (h | h) | ⟨nm, e, rfl, _, he⟩ | ⟨nm, rfl, _⟩ | ⟨l, e, rfl, hl, he⟩ | ⟨s, rfl, hs⟩ | ⟨s, rfl, hs⟩ | ⟨sg, es, its, s, rfl, hes, he, _, hi2, hi, hs⟩ | ⟨k, ps, qs, rfl, _, hp1, hq1, hp, hq⟩ | ⟨es, its, rfl, hl, he, hi1, hi⟩ | ⟨e, its, els, rfl, he, hi1, hi, hel⟩
    · exact nets h
    · exact nets h
    · have l1 := wE4_len he
      refine Ev.eq (fun n => ref09_ItemWords_eq n 2 nm lparT false [e] [] [] [] [] [] []) (Ev.no rfl (Ev.yes rfl (Ev.yes rfl (Ev.yes (okE4 he) (Ev.bindC (exprR (x := e) he) ?_)))))
      (intro _ _ h; cases h; refine ⟨rfl, Ev.yes rfl ?_⟩; try simp only [nthL])
      refine Ev.yes (Nat.ble_eq_true_of_le (by simp only [txt, List.length_map, List.length_append, List.length_cons, List.length_nil, maxLst]; omega)) ?_
      refine Ev.yes (Nat.ble_eq_true_of_le (by simp only [txt, List.length_map, List.length_append, List.length_cons, List.length_nil, maxLst]; omega)) ?_
      refine Ev.ret ?_
      show _ = (true, [D.lst 1 (txt ([(1, lparT), (1, nm), (3, [61])] ++ (wE 4 e ++ [(3, [59])])))])
      simp [txt]
    · exact Ev.eq (fun n => ref09_ItemWords_eq n 3 nm [] false [] [] [] [] [] [] []) (Ev.no rfl (Ev.no rfl (Ev.yes rfl (Ev.ret rfl))))
    · have hl := wfE_up (n := 3) (m := 4) (by decide) (isLeft_wf hl)
      have l1 := wE4_len hl
      have l2 := wE4_len he
      refine Ev.eq (fun n => ref09_ItemWords_eq n 4 [] [] false [l, e] [] [] [] [] [] []) (Ev.no rfl (Ev.no rfl (Ev.no rfl (Ev.yes rfl (Ev.yes rfl (Ev.yes (okE4 hl) (Ev.bindC (exprR (x := l) hl) ?_)))))))
      (intro _ _ h; cases h; refine ⟨rfl, Ev.yes rfl ?_⟩; try simp only [nthL])
      refine Ev.yes (Nat.ble_eq_true_of_le (by simp only [txt, List.length_map, List.length_append, List.length_cons, List.length_nil, maxLst]; omega)) ?_
      refine Ev.yes (Nat.ble_eq_true_of_le (by simp only [txt, List.length_map, List.length_append, List.length_cons, List.length_nil, maxLst]; omega)) ?_
      refine Ev.yes rfl (Ev.yes (okE4 he) (Ev.bindC (exprR (x := e) he) ?_))
      (intro _ _ h; cases h; refine ⟨rfl, Ev.yes rfl ?_⟩; try simp only [nthL])
      refine Ev.yes (Nat.ble_eq_true_of_le (by simp only [txt, List.length_map, List.length_append, List.length_cons, List.length_nil, maxLst]; omega)) ?_
      refine Ev.yes (Nat.ble_eq_true_of_le (by simp only [txt, List.length_map, List.length_append, List.length_cons, List.length_nil, maxLst]; omega)) ?_
      refine Ev.ret ?_
      show _ = (true, [D.lst 1 (txt ([(1, assT')] ++ (wE 4 l ++ ([(3, [61])] ++ (wE 4 e ++ [(3, [59])])))))])
      simp [txt, assT']
    · have l1 := wS4_len hs
      refine Ev.eq (fun n => ref09_ItemWords_eq n 5 [] [] false [] [] [s] [] [] [] []) (Ev.no rfl (Ev.no rfl (Ev.no rfl (Ev.no rfl (Ev.yes rfl (Ev.yes rfl (Ev.yes (okS hs) (Ev.bindC (stmt4 (x := s) hs) ?_))))))))
      (intro _ _ h; cases h; refine ⟨rfl, Ev.yes rfl ?_⟩; try simp only [nthL])
      refine Ev.yes (Nat.ble_eq_true_of_le (by simp only [txt, List.length_map, List.length_append, List.length_cons, List.length_nil, maxLst]; omega)) ?_
      refine Ev.ret ?_
      show _ = (true, [D.lst 1 (txt ([(1, alwT), (3, [64]), (3, [42])] ++ wS 4 s))])
      simp [txt, alwT]
    · have l1 := wS4_len hs
      refine Ev.eq (fun n => ref09_ItemWords_eq n 6 clkT [] false [] [] [s] [] [] [] []) (Ev.no rfl (Ev.no rfl (Ev.no rfl (Ev.no rfl (Ev.no rfl (Ev.yes rfl (Ev.yes rfl (Ev.yes (okS hs) (Ev.bindC (stmt4 (x := s) hs) ?_)))))))))
      (intro _ _ h; cases h; refine ⟨rfl, Ev.yes rfl ?_⟩; try simp only [nthL])
      refine Ev.yes (Nat.ble_eq_true_of_le (by simp only [txt, List.length_map, List.length_append, List.length_cons, List.length_nil, maxLst]; omega)) ?_
      refine Ev.ret ?_
      show _ = (true, [D.lst 1 (txt ([(1, alwT), (3, [64]), (3, [40]), (1, posT), (1, clkT), (3, [41])] ++ wS 4 s))])
      simp [txt, alwT, posT]
    · have l1 := wS4_len hs
      have l2 := boW_len he
      have h4 := flat_len (w := nIW) fun i hi' => nIW_len (hi i hi')
      have h5 : its.length * 2101 ≤ 2 * 2101 := Nat.mul_le_mul_right _ hi2
      have hI : Ev (fun n => ref09_ItemsWords n (.lst 11 its)) (fun r => r = (true, [.lst 1 (txt (its.flatMap nIW))])) :=
        itemsR (N := 2) (m := 2101) (by decide) hi2 (by decide) (fun x h => nIW_len (hi x h)) (fun x h => (xN_exp (hi x h)).2) (fun x h => by
          have hn := nets (hi x h)
          rw [(xN_exp (hi x h)).1]
          obtain ⟨nm1, ty1, sg1, es1, fs1, rfl⟩ := xN_form (hi x h)
          exact hn)
      have J : ∀ g : List Tk, g.length ≤ 2 → Ev (fun n => ref09_ItemWords_j1 n (txt g) es its [102] [s]) (fun r => r = (true, [.lst 1 (txt (g ++ (boW es ++ ([(1, [102]), (3, [59])] ++ (its.flatMap nIW ++ (wS 4 s ++ [(1, efunT)]))))))])) := by
        intro g hg
        refine evDf (fun n => ref09_ItemWords_j1_def n _ _ _ _ _) (Ev.bindC (boundsR (es := es) (by omega) he) ?_)
        (intro _ _ h; cases h; refine ⟨rfl, Ev.yes rfl ?_⟩; try simp only [nthL])
        refine Ev.yes (Nat.ble_eq_true_of_le (by simp only [txt, List.length_map, List.length_append, List.length_cons, List.length_nil, maxLst]; omega)) ?_
        refine Ev.yes (Nat.ble_eq_true_of_le (by simp only [txt, List.length_map, List.length_append, List.length_cons, List.length_nil, maxLst]; omega)) ?_
        refine Ev.bindC hI ?_
        (intro _ _ h; cases h; refine ⟨rfl, Ev.yes rfl ?_⟩; try simp only [nthL])
        refine Ev.yes (Nat.ble_eq_true_of_le (by simp only [txt, List.length_map, List.length_append, List.length_cons, List.length_nil, maxLst]; omega)) ?_
        refine Ev.yes rfl (Ev.yes (okS hs) (Ev.bindC (stmt4 (x := s) hs) ?_))
        (intro _ _ h; cases h; refine ⟨rfl, Ev.yes rfl ?_⟩; try simp only [nthL])
        refine Ev.yes (Nat.ble_eq_true_of_le (by simp only [txt, List.length_map, List.length_append, List.length_cons, List.length_nil, maxLst]; omega)) ?_
        refine Ev.yes (Nat.ble_eq_true_of_le (by simp only [txt, List.length_map, List.length_append, List.length_cons, List.length_nil, maxLst]; omega)) ?_
        exact Ev.ret (by simp [txt, efunT])
      refine Ev.eq (fun n => ref09_ItemWords_eq n 7 [102] [] sg es [] [s] its [] [] []) (Ev.no rfl (Ev.no rfl (Ev.no rfl (Ev.no rfl (Ev.no rfl (Ev.no rfl (Ev.yes rfl ?_)))))))
      cases sg with
      | true => exact Ev.yes rfl (J [(1, funT), (1, sgnT)] (by simp))
      | false => exact Ev.no rfl (J [(1, funT)] (by simp))
    · have l1 := csW_len hp1 hp
      have l2 := csW_len hq1 hq
      refine Ev.eq (fun n => ref09_ItemWords_eq n 8 [117, 48 + k] subT false [] [] [] [] [] ps qs) (Ev.no rfl (Ev.no rfl (Ev.no rfl (Ev.no rfl (Ev.no rfl (Ev.no rfl (Ev.no rfl (Ev.yes rfl ?_))))))))
      cases ps with
      | nil =>
        refine Ev.no rfl (Ev.bindC (connsR hq1 hq) ?_)
        (intro _ _ h; cases h; refine ⟨rfl, Ev.yes rfl ?_⟩; try simp only [nthL])
        refine Ev.yes (Nat.ble_eq_true_of_le (by simp only [txt, List.length_map, List.length_append, List.length_cons, List.length_nil, maxLst]; omega)) ?_
        refine Ev.yes (Nat.ble_eq_true_of_le (by simp only [txt, List.length_map, List.length_append, List.length_cons, List.length_nil, maxLst]; omega)) ?_
        refine Ev.ret ?_
        show _ = (true, [D.lst 1 (txt ([(1, subT)] ++ ([] ++ ([(1, [117, 48 + k])] ++ (csW qs ++ [(3, [59])])))))])
        simp [txt]
      | cons p ps =>
        refine Ev.yes (by simp) (Ev.bindC (connsR hp1 hp) ?_)
        (intro _ _ h; cases h; refine ⟨rfl, Ev.yes rfl ?_⟩; try simp only [nthL])
        refine Ev.yes (Nat.ble_eq_true_of_le (by simp only [txt, List.length_map, List.length_append, List.length_cons, List.length_nil, maxLst]; omega)) ?_
        refine Ev.yes (Nat.ble_eq_true_of_le (by simp only [txt, List.length_map, List.length_append, List.length_cons, List.length_nil, maxLst]; omega)) ?_
        refine Ev.bindC (connsR hq1 hq) ?_
        (intro _ _ h; cases h; refine ⟨rfl, Ev.yes rfl ?_⟩; try simp only [nthL])
        refine Ev.yes (Nat.ble_eq_true_of_le (by simp only [txt, List.length_map, List.length_append, List.length_cons, List.length_nil, maxLst]; omega)) ?_
        refine Ev.yes (Nat.ble_eq_true_of_le (by simp only [txt, List.length_map, List.length_append, List.length_cons, List.length_nil, maxLst]; omega)) ?_
        refine Ev.ret ?_
        show _ = (true, [D.lst 1 (txt ([(1, subT)] ++ (([(3, [35])] ++ csW (p :: ps)) ++ ([(1, [117, 48 + k])] ++ (csW qs ++ [(3, [59])])))))])
        simp [txt]
    · have l1 := loopT_len (t := [105]) he hl
      have l2 := blW_len (w := wI d) (m := IL d) (t := [103]) hi1 fun i h => hL i (hi i h)
      refine Ev.eq (fun n => ref09_ItemWords_eq n 9 [105] [] false es [] [] [gB [103] its] [] [] []) (Ev.no rfl (Ev.no rfl (Ev.no rfl (Ev.no rfl (Ev.no rfl (Ev.no rfl (Ev.no rfl (Ev.no rfl (Ev.yes rfl (Ev.bindC (loopR hl he) ?_))))))))))
      (intro _ _ h; cases h; refine ⟨rfl, Ev.yes rfl ?_⟩; try simp only [nthL])
      refine Ev.bindC (blockR (w := wI d) (m := IL d) (by decide) hi1 (by omega) (fun i h => hL i (hi i h)) (ihs (by omega) hi)) ?_
      have e0 : ([gB [103] its].flatMap (blW (wI d))).length = (blW (wI d) (gB [103] its)).length := by simp
      (intro _ _ h; cases h; refine ⟨rfl, Ev.yes rfl ?_⟩; try simp only [nthL])
      refine Ev.yes (Nat.ble_eq_true_of_le (by simp only [txt, List.length_map, List.length_append, List.length_cons, List.length_nil, maxLst]; omega)) ?_
      refine Ev.ret ?_
      show _ = (true, [D.lst 1 (txt (loopT [105] es ++ [gB [103] its].flatMap (blW (wI d))))])
      simp [txt]
    · have l1 := pW_len he
      have l2 := blW_len (w := wI d) (m := IL d) (t := [116]) hi1 fun i h => hL i (hi i h)
      have e0 : ([gB [116] its].flatMap (blW (wI d))).length = (blW (wI d) (gB [116] its)).length := by simp
      refine Ev.eq (fun n => ref09_ItemWords_eq n 10 [] [] false [e] [] [] [gB [116] its] els [] []) (Ev.no rfl (Ev.no rfl (Ev.no rfl (Ev.no rfl (Ev.no rfl (Ev.no rfl (Ev.no rfl (Ev.no rfl (Ev.no rfl (Ev.yes rfl (Ev.yes (okE4 he) (Ev.bindC (parenR (x := e) he) ?_))))))))))))
      (intro _ _ h; cases h; refine ⟨rfl, Ev.yes rfl ?_⟩; try simp only [nthL])
      refine Ev.yes (Nat.ble_eq_true_of_le (by simp only [txt, List.length_map, List.length_append, List.length_cons, List.length_nil, maxLst]; omega)) ?_
      refine Ev.bindC (blockR (w := wI d) (m := IL d) (by decide) hi1 (by omega) (fun i h => hL i (hi i h)) (ihs (by omega) hi)) ?_
      (intro _ _ h; cases h; refine ⟨rfl, Ev.yes rfl ?_⟩; try simp only [nthL])
      refine Ev.yes (Nat.ble_eq_true_of_le (by simp only [txt, List.length_map, List.length_append, List.length_cons, List.length_nil, maxLst]; omega)) ?_
      rcases hel with rfl | ⟨ys, rfl, hy1, hy⟩
      · refine Ev.no rfl (Ev.ret ?_)
        show _ = (true, [D.lst 1 (txt ([(1, ifT)] ++ (pW e ++ ([gB [116] its].flatMap (blW (wI d)) ++ []))))])
        simp [txt, ifT]
      · have l3 := blW_len (w := wI d) (m := IL d) (t := [101]) hy1 fun i h => hL i (hy i h)
        have e1 : ([gB [101] ys].flatMap (blW (wI d))).length = (blW (wI d) (gB [101] ys)).length := by simp
        refine Ev.yes rfl ?_
        refine Ev.yes (Nat.ble_eq_true_of_le (by simp only [txt, List.length_map, List.length_append, List.length_cons, List.length_nil, maxLst]; omega)) ?_
        refine Ev.bindC (blockR (w := wI d) (m := IL d) (by decide) hy1 (by omega) (fun i h => hL i (hy i h)) (ihs (by omega) hy)) ?_
        (intro _ _ h; cases h; refine ⟨rfl, Ev.yes rfl ?_⟩; try simp only [nthL])
        refine Ev.yes (Nat.ble_eq_true_of_le (by simp only [txt, List.length_map, List.length_append, List.length_cons, List.length_nil, maxLst]; omega)) ?_
        refine Ev.ret ?_
        show _ = (true, [D.lst 1 (txt ([(1, ifT)] ++ (pW e ++ ([gB [116] its].flatMap (blW (wI d)) ++ ([(1, elseT)] ++ [gB [101] ys].flatMap (blW (wI d)))))))])
        simp [txt, ifT, elseT]
end Go.Proofs.YtalibicpmfbieaaGreatDoor
