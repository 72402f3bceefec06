/- The reference's words of statements are these. -/
import Derived.Test.YtalibicpmfbieaaGreatDoorXwA
namespace Go.Proofs.YtalibicpmfbieaaGreatDoor
open Go.AE
set_option linter.unusedVariables false
set_option linter.unusedSimpArgs false
theorem nth6 {k : Nat} {ws rest : List D} {a b c d e f : D} : (nth (a :: b :: c :: d :: e :: f :: .lst k ws :: rest) 6).l = ws := rfl
theorem okS {d : Nat} {x : D} (h : wfS d x) : (notAny ty_isl6l5l6 && okTy ty_isl6l5l6 x) = true := by rw [(wfS_exp h).2]; rfl
theorem openR {d : Nat} {x : D} (h : wfS d x) : Ev (fun n => ref09_open n (expTy ty_isl6l5l6 x)) fun r => r = (true, [.bool (openS d x)]) := by rw [(wfS_exp h).1]; exact open_ev d x h
theorem loopR {nm : List UInt8} {es : List D} (hl : es.length = 3) (h : ∀ x ∈ es, wfE 4 x) : Ev (fun n => ref09_loop n (.str nm) (.lst 6 es)) fun r => r = (true, [.lst 1 (txt (loopT nm es))]) := by
  refine Ev.eq (fun n => ref09_loop_eq n nm es) ?_
  match es, hl, h with
  | [x, y, z], _, ha =>
    have h1 := ha x (by simp)
    have h2 := ha y (by simp)
    have h3 := ha z (by simp)
    have l1 := wE4_len h1
    have l2 := wE4_len h2
    have l3 := wE4_len h3
    refine Ev.yes rfl (Ev.yes (okE4 h1) (Ev.bindC (exprR (x := x) h1) ?_))
    (intro _ _ h; cases h; refine ⟨rfl, Ev.yes rfl ?_⟩; try simp only [nthL])
    refine Ev.yes (Nat.ble_eq_true_of_le (by simp only [txt, List.length_map, List.length_append, List.length_cons, List.length_nil, maxLst]; omega)) ?_
    refine Ev.yes (Nat.ble_eq_true_of_le (by simp only [txt, List.length_map, List.length_append, List.length_cons, List.length_nil, maxLst]; omega)) ?_
    refine Ev.yes rfl (Ev.yes (okE4 h2) (Ev.bindC (exprR (x := y) h2) ?_))
    (intro _ _ h; cases h; refine ⟨rfl, Ev.yes rfl ?_⟩; try simp only [nthL])
    refine Ev.yes (Nat.ble_eq_true_of_le (by simp only [txt, List.length_map, List.length_append, List.length_cons, List.length_nil, maxLst]; omega)) ?_
    refine Ev.yes (Nat.ble_eq_true_of_le (by simp only [txt, List.length_map, List.length_append, List.length_cons, List.length_nil, maxLst]; omega)) ?_
    refine Ev.yes rfl (Ev.yes (okE4 h3) (Ev.bindC (exprR (x := z) h3) ?_))
    (intro _ _ h; cases h; refine ⟨rfl, Ev.yes rfl ?_⟩; try simp only [nthL])
    refine Ev.yes (Nat.ble_eq_true_of_le (by simp only [txt, List.length_map, List.length_append, List.length_cons, List.length_nil, maxLst]; omega)) ?_
    refine Ev.yes (Nat.ble_eq_true_of_le (by simp only [txt, List.length_map, List.length_append, List.length_cons, List.length_nil, maxLst]; omega)) ?_
    refine Ev.ret ?_
    show _ = (true, [D.lst 1 (txt ([(1, forT), (3, [40]), (1, nm), (3, [61])] ++ (wE 4 x ++ ([(3, [59])] ++ (wE 4 y ++ ([(3, [59]), (1, nm), (3, [61])] ++ (wE 4 z ++ [(3, [41])])))))))])
    simp [txt, forT]
/-- A loop that lays words behind one another. -/
theorem flatLoop {Q : Bool × List D → Prop} {xs : List D} {w : D → List Tk} {m C : Nat} {T : Int → List D → Nat → Out} {acc0 : List D} (hn : xs.length ≤ 1000) (hw : ∀ x ∈ xs, (w x).length ≤ m) (hC : acc0.length + xs.length * m ≤ C)
    (step : ∀ (j : Nat) (acc : List D) (hj : j < xs.length), acc.length + m ≤ C → Ev (T (IntKind.i64.wrap ((j : Int) + 1)) (acc ++ txt (w xs[j]))) Q → Ev (T (j : Int) acc) Q)
    (fin : Ev (T (xs.length : Int) (acc0 ++ txt (xs.flatMap w))) Q) : Ev (T 0 acc0) Q := by
  have aux : ∀ (q j : Nat) (acc : List D), xs.length - j = q → j ≤ xs.length → acc = acc0 ++ txt ((xs.take j).flatMap w) → Ev (T (j : Int) acc) Q := by
    intro q
    induction q with
    | zero =>
      intro j acc hq hj ha
      have : j = xs.length := by omega
      subst this
      rw [ha, List.take_length]
      exact fin
    | succ q ih =>
      intro j acc hq hj ha
      have hlt : j < xs.length := by omega
      have hf := flat_len (w := w) (m := m) (xs := xs.take j) fun x hx => hw x (List.mem_of_mem_take hx)
      rw [List.length_take, Nat.min_eq_left hj] at hf
      have hle : (j + 1) * m ≤ xs.length * m := Nat.mul_le_mul_right m hlt
      rw [Nat.succ_mul] at hle
      refine step j acc hlt (by rw [ha, List.length_append, txt_len]; omega) ?_
      rw [wrap_succ (by omega)]
      refine ih (j + 1) _ (by omega) (by omega) ?_
      rw [ha, List.append_assoc, ← txt_app, List.take_add_one, List.getElem?_eq_getElem hlt, List.flatMap_append]
      simp
  exact aux xs.length 0 acc0 rfl (Nat.zero_le _) (by simp [txt])
theorem stmtR : ∀ (d : Nat), SL d ≤ 10000000 → ∀ x, wfS d x → Ev (fun n => ref09_StmtWords n x) fun r => r = (true, [.lst 1 (txt (wS d x))]) := by
  intro d
  induction d with
  | zero => intro _ x h; exact h.elim
  | succ d ih =>
    intro hd x hx
    simp only [SL] at hd
    have ih := ih (by omega)
    have ih' : ∀ x, wfS d x → Ev (fun n => ref09_StmtWords n (expTy ty_isl6l5l6 x)) fun r => r = (true, [.lst 1 (txt (wS d x))]) := fun x h => by rw [(wfS_exp h).1]; exact ih x h
    have hL := wS_len d
    obtain ⟨k, t, es, bs, zs, rfl, he, hb, hz, hsh⟩ := hx
    refine Ev.eq (fun n => ref09_StmtWords_eq n k t es bs zs) ?_
    rw [wS_S]
    rcases hsh with ⟨rfl, rfl, rfl, hl, rfl⟩ | ⟨hk, rfl, ⟨l, e, rfl, _⟩, rfl, rfl⟩ | ⟨rfl, rfl, hl, ⟨b, c, rfl, hbc⟩, rfl⟩ | ⟨rfl, rfl, hl, rfl, hz1, hz2⟩ | ⟨rfl, rfl, hl, hl2, rfl⟩ | ⟨rfl, ht, hl, rfl, rfl⟩ | ⟨rfl, rfl, rfl, rfl, rfl⟩
    · have hf := flat_len (w := wS d) (m := SL d) (xs := bs) fun x hx => hL x (hb x hx)
      have hm : bs.length * SL d ≤ 3 * SL d := Nat.mul_le_mul_right _ hl
      refine Ev.yes rfl (Ev.bindL (Q := fun r => ∃ q, r = (false, [.int .i64 q, .int .i64 1, .str [], .lst 6 [], .lst 5 bs, .lst 6 [], .lst 1 ([.str beginT] ++ txt (bs.flatMap (wS d)))])) ?_ (fun ds h => by obtain ⟨_, h⟩ := h; cases h) fun ds h => ?_)
      · refine flatLoop (xs := bs) (w := wS d) (m := SL d) (C := 1 + 3 * SL d) (T := fun j acc n => ref09_StmtWords_L1 n (.int .i64 j) (.int .i64 1) (.str []) (.lst 6 []) (.lst 5 bs) (.lst 6 []) (.lst 1 acc)) (acc0 := [.str beginT]) (by omega) (fun x hx => hL x (hb x hx)) (by simp only [List.length_cons, List.length_nil]; omega) (fun j acc hj hl K => ?_) ?_
        · refine Ev.eq (fun n => ref09_StmtWords_L1_eq n _ _ _ _ _ _ _) (Ev.yes (decide_eq_true (by omega)) (Ev.yes (in_range hj) ?_))
          have hw := hb bs[j] (List.getElem_mem hj)
          have l1 := hL _ hw
          rw [get_nat hj]
          refine Ev.yes (okS hw) (Ev.bindC (ih' _ hw) ?_)
          (intro _ _ h; cases h; refine ⟨rfl, Ev.yes rfl ?_⟩; try simp only [nthL])
          refine Ev.yes (Nat.ble_eq_true_of_le (by simp only [txt, List.length_map, List.length_append, List.length_cons, List.length_nil, maxLst]; omega)) ?_
          exact K
        · exact Ev.eq (fun n => ref09_StmtWords_L1_eq n _ _ _ _ _ _ _) (Ev.no (decide_eq_false (by omega)) (Ev.ret ⟨_, rfl⟩))
      · obtain ⟨q, h⟩ := h
        cases h
        refine Ev.yes rfl ?_
        simp only [nth6]
        refine Ev.yes (Nat.ble_eq_true_of_le (by simp only [txt, List.length_map, List.length_append, List.length_cons, List.length_nil, maxLst]; omega)) ?_
        refine Ev.ret ?_
        show _ = (true, [D.lst 1 (txt ([(1, beginT)] ++ (bs.flatMap (wS d) ++ [(1, endS)])))])
        simp [txt, endS]
    · have h1 := he l (by simp)
      have h2 := he e (by simp)
      have l1 := wE4_len h1
      have l2 := wE4_len h2
      have J2 : ∀ o : List UInt8, Ev (fun n => ref09_StmtWords_j2 n (([] ++ txt (wE 4 l)) ++ [.str o]) [l, e]) fun r => r = (true, [.lst 1 (txt (wE 4 l ++ ([(3, o)] ++ (wE 4 e ++ [(3, [59])]))))]) := by
        intro o
        refine evDf (fun n => ref09_StmtWords_j2_def n _ _) (Ev.yes rfl (Ev.yes (okE4 h2) (Ev.bindC (exprR (x := e) h2) ?_)))
        (intro _ _ h; cases h; refine ⟨rfl, Ev.yes rfl ?_⟩; try simp only [nthL])
        refine Ev.yes (Nat.ble_eq_true_of_le (by simp only [txt, List.length_map, List.length_append, List.length_cons, List.length_nil, maxLst]; omega)) ?_
        refine Ev.yes (Nat.ble_eq_true_of_le (by simp only [txt, List.length_map, List.length_append, List.length_cons, List.length_nil, maxLst]; omega)) ?_
        exact Ev.ret (by simp [txt])
      rcases hk with rfl | rfl
      · refine Ev.no rfl (Ev.yes rfl (evDf (fun n => ref09_StmtWords_j1_def n _ _ _ _ _ _) (Ev.yes rfl (Ev.yes rfl (Ev.yes (okE4 h1) (Ev.bindC (exprR (x := l) h1) ?_))))))
        (intro _ _ h; cases h; refine ⟨rfl, Ev.yes rfl ?_⟩; try simp only [nthL])
        refine Ev.yes (Nat.ble_eq_true_of_le (by simp only [txt, List.length_map, List.length_append, List.length_cons, List.length_nil, maxLst]; omega)) ?_
        refine Ev.yes rfl ?_
        refine Ev.yes (Nat.ble_eq_true_of_le (by simp only [txt, List.length_map, List.length_append, List.length_cons, List.length_nil, maxLst]; omega)) ?_
        exact J2 [61]
      · refine Ev.no rfl (Ev.no rfl (evDf (fun n => ref09_StmtWords_j1_def n _ _ _ _ _ _) (Ev.yes rfl (Ev.yes rfl (Ev.yes (okE4 h1) (Ev.bindC (exprR (x := l) h1) ?_))))))
        (intro _ _ h; cases h; refine ⟨rfl, Ev.yes rfl ?_⟩; try simp only [nthL])
        refine Ev.yes (Nat.ble_eq_true_of_le (by simp only [txt, List.length_map, List.length_append, List.length_cons, List.length_nil, maxLst]; omega)) ?_
        refine Ev.no rfl ?_
        refine Ev.yes (Nat.ble_eq_true_of_le (by simp only [txt, List.length_map, List.length_append, List.length_cons, List.length_nil, maxLst]; omega)) ?_
        exact J2 [60, 61]
    · match es, hl, he with
      | [e], _, he =>
        have h1 := he e (by simp)
        have hb1 := hb b (by simp)
        have hc := hb c (by simp)
        have l1 := pW_len h1
        have l2 := hL b hb1
        have l3 := hL c hc
        have hc0 := hc
        have agg : aggD c = true ∧ okTy (.leaf (.int .i64)) (c.at_ 0) = true := by
          cases d with
          | zero => exact hc0.elim
          | succ d => obtain ⟨k', t', es', bs', zs', rfl, _⟩ := hc0; exact ⟨rfl, rfl⟩
        refine Ev.no rfl (Ev.no rfl (evDf (fun n => ref09_StmtWords_j1_def n _ _ _ _ _ _) (Ev.no rfl (Ev.yes rfl (Ev.yes rfl (Ev.yes (okE4 h1) (Ev.bindC (parenR (x := e) h1) ?_)))))))
        (intro _ _ h; cases h; refine ⟨rfl, Ev.yes rfl ?_⟩; try simp only [nthL])
        refine Ev.yes (Nat.ble_eq_true_of_le (by simp only [txt, List.length_map, List.length_append, List.length_cons, List.length_nil, maxLst]; omega)) ?_
        refine Ev.yes rfl (Ev.yes agg.1 (Ev.yes agg.2 (Ev.test (fun h8 => ?_) fun h8 => ?_)))
        · refine Ev.yes rfl (Ev.yes (okS hb1) (Ev.bindC (ih' b hb1) ?_))
          (intro _ _ h; cases h; refine ⟨rfl, Ev.yes rfl ?_⟩; try simp only [nthL])
          refine Ev.yes (Nat.ble_eq_true_of_le (by simp only [txt, List.length_map, List.length_append, List.length_cons, List.length_nil, maxLst]; omega)) ?_
          refine Ev.ret ?_
          show _ = (true, [D.lst 1 (txt ([(1, ifT)] ++ (pW e ++ (wS d b ++ (bif (c.at_ 0).i == 8 then [] else [(1, elseT)] ++ wS d c)))))])
          rw [show ((c.at_ 0).i == 8) = true from h8]
          simp [txt, ifT]
        · have hop : openS d b = false := by
            rcases hbc with rfl | h
            · cases h8
            · exact h
          refine Ev.yes rfl (Ev.yes (okS hb1) (Ev.bindC (openR hb1) ?_))
          intro _ ds h; cases h; refine ⟨rfl, Ev.yes rfl (Ev.no hop ?_)⟩
          refine Ev.yes rfl (Ev.yes (okS hb1) (Ev.bindC (ih' b hb1) ?_))
          (intro _ _ h; cases h; refine ⟨rfl, Ev.yes rfl ?_⟩; try simp only [nthL])
          refine Ev.yes (Nat.ble_eq_true_of_le (by simp only [txt, List.length_map, List.length_append, List.length_cons, List.length_nil, maxLst]; omega)) ?_
          refine evDf (fun n => ref09_StmtWords_j3_def n _ _) ?_
          refine Ev.yes (Nat.ble_eq_true_of_le (by simp only [txt, List.length_map, List.length_append, List.length_cons, List.length_nil, maxLst]; omega)) ?_
          refine Ev.yes rfl (Ev.yes (okS hc) (Ev.bindC (ih' c hc) ?_))
          (intro _ _ h; cases h; refine ⟨rfl, Ev.yes rfl ?_⟩; try simp only [nthL])
          refine Ev.yes (Nat.ble_eq_true_of_le (by simp only [txt, List.length_map, List.length_append, List.length_cons, List.length_nil, maxLst]; omega)) ?_
          refine Ev.ret ?_
          show _ = (true, [D.lst 1 (txt ([(1, ifT)] ++ (pW e ++ (wS d b ++ (bif (c.at_ 0).i == 8 then [] else [(1, elseT)] ++ wS d c)))))])
          rw [show ((c.at_ 0).i == 8) = false from h8]
          simp [txt, ifT, elseT]
    · match es, hl, he with
      | [e], _, he =>
        have h1 := he e (by simp)
        have l1 := pW_len h1
        have hA : ∀ a ∈ zs, (armT (wS d) a).length ≤ SL d + 810 := fun a ha => armT_len (n := d) (fun x hx => hL x hx) (hz a ha)
        have hf := flat_len (w := armT (wS d)) (m := SL d + 810) (xs := zs) hA
        have hm : zs.length * (SL d + 810) ≤ 4 * (SL d + 810) := Nat.mul_le_mul_right _ hz2
        refine Ev.no rfl (Ev.no rfl (evDf (fun n => ref09_StmtWords_j1_def n _ _ _ _ _ _) (Ev.no rfl (Ev.no rfl (Ev.yes rfl (Ev.yes rfl (Ev.yes (okE4 h1) (Ev.bindC (parenR (x := e) h1) ?_))))))))
        (intro _ _ h; cases h; refine ⟨rfl, Ev.yes rfl ?_⟩; try simp only [nthL])
        refine Ev.yes (Nat.ble_eq_true_of_le (by simp only [txt, List.length_map, List.length_append, List.length_cons, List.length_nil, maxLst]; omega)) ?_
        refine Ev.bindL (Q := fun r => ∃ q, r = (false, [.int .i64 q, .int .i64 5, .str [], .lst 6 [e], .lst 5 [], .lst 6 zs, .lst 1 (([.str caseT] ++ txt (pW e)) ++ txt (zs.flatMap (armT (wS d))))])) ?_ (fun ds h => by obtain ⟨_, h⟩ := h; cases h) fun ds h => ?_
        · refine flatLoop (xs := zs) (w := armT (wS d)) (m := SL d + 810) (C := 403 + 4 * (SL d + 810)) (T := fun j acc n => ref09_StmtWords_L3 n (.int .i64 j) (.int .i64 5) (.str []) (.lst 6 [e]) (.lst 5 []) (.lst 6 zs) (.lst 1 acc)) (acc0 := [.str caseT] ++ txt (pW e)) (by omega) hA (by simp only [List.length_append, List.length_cons, List.length_nil, txt_len]; omega) (fun j acc hj hl K => ?_) ?_
          · obtain ⟨es', s, ea, le, he', hs'⟩ := hz zs[j] (List.getElem_mem hj)
            have hs0 := hs'
            have hw := ih s hs'
            have l2 := hL s hs'
            have l3 := lW_len (w := wE 4) (A := 400) (xs := es') fun x hx => wE4_len (he' x hx)
            have l4 : es'.length * 401 ≤ 2 * 401 := Nat.mul_le_mul_right _ le
            have eA : armT (wS d) zs[j] = (bif es'.isEmpty then [(1, defT)] else []) ++ (lW (wE 4) es' ++ ([(3, [58])] ++ wS d s)) := by
              rw [ea]; unfold armT; rw [stm_of hs', arm_0]
            rw [eA] at K
            have J1 : ∀ (P : Bool × List D → Prop) (g : List Tk), g.length ≤ 1 → Ev (fun n => ref09_StmtWords_L3 n (.int .i64 (IntKind.i64.wrap ((j : Int) + 1))) (.int .i64 5) (.str []) (.lst 6 [e]) (.lst 5 []) (.lst 6 zs) (.lst 1 (acc ++ txt (g ++ (lW (wE 4) es' ++ ([(3, [58])] ++ wS d s)))))) P →
                Ev (fun n => ref09_StmtWords_L3_j1 n (acc ++ txt g) (j : Int) zs 5 [] [e] []) P := by
              intro P g hg K
              refine evDf (fun n => ref09_StmtWords_L3_j1_def n _ _ _ _ _ _ _) (Ev.yes (in_range hj) ?_)
              rw [get_nat hj, ea]
              cases d with
              | zero => exact hs0.elim
              | succ d =>
                obtain ⟨k3, t3, fs, bs3, zs3, rfl, _⟩ := hs'
                refine Ev.yes rfl (Ev.yes rfl (Ev.bindC (listR (xs := es') (by omega) he') ?_))
                (intro _ _ h; cases h; refine ⟨rfl, Ev.yes rfl ?_⟩; try simp only [nthL])
                refine Ev.yes (Nat.ble_eq_true_of_le (by simp only [txt, List.length_map, List.length_append, List.length_cons, List.length_nil, maxLst]; omega)) ?_
                refine Ev.yes (Nat.ble_eq_true_of_le (by simp only [txt, List.length_map, List.length_append, List.length_cons, List.length_nil, maxLst]; omega)) ?_
                refine Ev.yes (in_range hj) (Ev.yes rfl (Ev.yes rfl (Ev.bindC hw ?_)))
                (intro _ _ h; cases h; refine ⟨rfl, Ev.yes rfl ?_⟩; try simp only [nthL])
                refine Ev.yes (Nat.ble_eq_true_of_le (by simp only [txt, List.length_map, List.length_append, List.length_cons, List.length_nil, maxLst]; omega)) ?_
                have e0 : ((acc ++ txt g) ++ txt (lW (wE 4) es') ++ [.str [58]]) ++ txt (wS (d + 1) (S k3 t3 fs bs3 zs3)) = acc ++ txt (g ++ (lW (wE 4) es' ++ ([(3, [58])] ++ wS (d + 1) (S k3 t3 fs bs3 zs3)))) := by simp [txt]
                rw [e0]
                exact K
            refine Ev.eq (fun n => ref09_StmtWords_L3_eq n _ _ _ _ _ _ _) (Ev.yes (decide_eq_true (by omega)) (Ev.yes (in_range hj) ?_))
            rw [get_nat hj, ea]
            refine Ev.yes rfl (Ev.yes rfl (Ev.test (fun h0 => ?_) fun h0 => ?_))
            · have h0 : es' = [] := by
                have : ((es'.length : Int) == 0) = true := h0
                exact List.eq_nil_of_length_eq_zero (by simpa using this)
              subst h0
              have hq : acc.length + 1 ≤ maxLst := by
                clear hf hm hz1 l3 l4
                simp only [maxLst]; omega
              refine Ev.yes (Nat.ble_eq_true_of_le hq) ?_
              exact J1 _ [(1, defT)] (by simp) K
            · have h0 : es'.isEmpty = false := by
                have : ((es'.length : Int) == 0) = false := h0
                cases es' with
                | nil => cases this
                | cons => rfl
              rw [h0] at K
              have J := J1 _ [] (by simp) K
              rw [show acc ++ txt [] = acc from by simp [txt]] at J
              exact J
          · exact Ev.eq (fun n => ref09_StmtWords_L3_eq n _ _ _ _ _ _ _) (Ev.no (decide_eq_false (by omega)) (Ev.ret ⟨_, rfl⟩))
        · obtain ⟨q, h⟩ := h
          cases h
          refine Ev.yes rfl ?_
          simp only [nth6]
          refine Ev.yes (Nat.ble_eq_true_of_le (by simp only [txt, List.length_map, List.length_append, List.length_cons, List.length_nil, maxLst]; omega)) ?_
          refine Ev.ret ?_
          show _ = (true, [D.lst 1 (txt ([(1, caseT)] ++ (pW e ++ (zs.flatMap (armT (wS d)) ++ [(1, ecaseT)]))))])
          simp [txt, caseT, ecaseT]
    · match bs, hl2, hb with
      | [b], _, hb =>
        have hb1 := hb b (by simp)
        have l1 := loopT_len (t := [105]) he hl
        have l2 := hL b hb1
        refine Ev.no rfl (Ev.no rfl (evDf (fun n => ref09_StmtWords_j1_def n _ _ _ _ _ _) (Ev.no rfl (Ev.no rfl (Ev.no rfl (Ev.yes rfl (Ev.bindC (loopR hl he) ?_)))))))
        (intro _ _ h; cases h; refine ⟨rfl, Ev.yes rfl ?_⟩; try simp only [nthL])
        refine Ev.yes rfl (Ev.yes (okS hb1) (Ev.bindC (ih' b hb1) ?_))
        (intro _ _ h; cases h; refine ⟨rfl, Ev.yes rfl ?_⟩; try simp only [nthL])
        refine Ev.yes (Nat.ble_eq_true_of_le (by simp only [txt, List.length_map, List.length_append, List.length_cons, List.length_nil, maxLst]; omega)) ?_
        refine Ev.ret ?_
        show _ = (true, [D.lst 1 (txt (loopT [105] es ++ wS d b))])
        simp [txt]
    · match es, hl, he with
      | [e], _, he =>
        have h1 := he e (by simp)
        have l1 := pW_len h1
        have J4 : ∀ g : List Tk, g.length ≤ 2 → Ev (fun n => ref09_StmtWords_j4 n (txt g) [e]) fun r => r = (true, [.lst 1 (txt (g ++ ([(1, asrT)] ++ (pW e ++ [(3, [59])]))))]) := by
          intro g hg
          refine evDf (fun n => ref09_StmtWords_j4_def n _ _) ?_
          refine Ev.yes (Nat.ble_eq_true_of_le (by simp only [txt, List.length_map, List.length_append, List.length_cons, List.length_nil, maxLst]; omega)) ?_
          refine Ev.yes rfl (Ev.yes (okE4 h1) (Ev.bindC (parenR (x := e) h1) ?_))
          (intro _ _ h; cases h; refine ⟨rfl, Ev.yes rfl ?_⟩; try simp only [nthL])
          refine Ev.yes (Nat.ble_eq_true_of_le (by simp only [txt, List.length_map, List.length_append, List.length_cons, List.length_nil, maxLst]; omega)) ?_
          refine Ev.yes (Nat.ble_eq_true_of_le (by simp only [txt, List.length_map, List.length_append, List.length_cons, List.length_nil, maxLst]; omega)) ?_
          exact Ev.ret (by simp [txt, asrT])
        refine Ev.no rfl (Ev.no rfl (evDf (fun n => ref09_StmtWords_j1_def n _ _ _ _ _ _) (Ev.no rfl (Ev.no rfl (Ev.no rfl (Ev.no rfl (Ev.yes rfl ?_)))))))
        rcases ht with rfl | rfl
        · exact Ev.no rfl (J4 [] (by simp))
        · exact Ev.yes rfl (J4 [(1, [112, 49]), (3, [58])] (by simp))
    · exact Ev.no rfl (Ev.no rfl (evDf (fun n => ref09_StmtWords_j1_def n _ _ _ _ _ _) (Ev.no rfl (Ev.no rfl (Ev.no rfl (Ev.no rfl (Ev.no rfl (Ev.ret rfl))))))))
end Go.Proofs.YtalibicpmfbieaaGreatDoor
