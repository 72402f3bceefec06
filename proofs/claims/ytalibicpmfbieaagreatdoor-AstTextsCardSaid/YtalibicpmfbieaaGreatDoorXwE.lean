/- The reference's words of a whole tree are these. -/
import Derived.Test.YtalibicpmfbieaaGreatDoorXwD
namespace Go.Proofs.YtalibicpmfbieaaGreatDoor
open Go.AE
set_option linter.unusedVariables false
set_option linter.unusedSimpArgs false
theorem nth3 {k : Nat} {ws rest : List D} {a b c : D} : (nth (a :: b :: c :: .lst k ws :: rest) 3).l = ws := rfl
theorem paW_len {p : D} (h : xP p) : (paW p).length ≤ 403 := by
  obtain ⟨nm, e, rfl, _, he⟩ := h
  have := wE4_len he
  show ([(1, parT), (1, nm), (3, [61])] ++ wE 4 e : List Tk).length ≤ _
  simp only [List.length_append, List.length_cons, List.length_nil]; omega
theorem poW_len {T : NT} {q : D} (h : xN T q) : (poW q).length ≤ 2100 := by
  obtain ⟨nm, ty, q, f, sg, es, fs, rfl, _, _, _, _, _, _, he, hf⟩ := h
  exact nW_len he hf
section
variable {ms ps qs its : List D} {nm : List UInt8} {j0 : Int}
theorem paramsR (hn : ps.length ≤ 2) (h : ∀ p ∈ ps, xP p) {acc0 : List D} (ha : acc0.length ≤ 1230000000) :
    Ev (fun n => ref09_Words_L2 n (.lst 4 ms) (.int .i64 j0) (.int .i64 0) (.lst 1 acc0) (.str nm) (.lst 11 ps) (.lst 11 qs) (.lst 11 its)) fun r => ∃ q, r = (false, [.lst 4 ms, .int .i64 j0, .int .i64 q, .lst 1 (acc0 ++ txt (lW paW ps)), .str nm, .lst 11 ps, .lst 11 qs, .lst 11 its]) := by
  have hm : ps.length * 404 ≤ 2 * 404 := Nat.mul_le_mul_right _ hn
  refine commaLoop (xs := ps) (w := paW) (m := 403) (C := acc0.length + 808) (T := fun j acc n => ref09_Words_L2 n (.lst 4 ms) (.int .i64 j0) (.int .i64 j) (.lst 1 acc) (.str nm) (.lst 11 ps) (.lst 11 qs) (.lst 11 its)) (acc0 := acc0) (by omega) (fun x hx => paW_len (h x hx)) (by omega) (fun j acc hj hl K => ?_) ?_
  · refine Ev.eq (fun n => ref09_Words_L2_eq n _ _ _ _ _ _ _ _) (Ev.yes (decide_eq_true (by omega)) ?_)
    obtain ⟨nm1, e, ee, _, he⟩ := h ps[j] (List.getElem_mem hj)
    have l1 := wE4_len he
    have eP : paW ps[j] = [(1, parT), (1, nm1), (3, [61])] ++ wE 4 e := by rw [ee]; rfl
    rw [eP] at K
    have R := in_range hj
    rw [get_nat hj, ee]
    refine Ev.test (fun h0 => ?_) fun h0 => ?_
    · have h0 := of_decide_eq_true h0
      rw [show (j == 0) = false from beq_eq_false_iff_ne.2 (by omega)] at K
      refine Ev.yes (Nat.ble_eq_true_of_le (by simp only [txt, List.length_map, List.length_append, List.length_cons, List.length_nil, maxLst]; omega)) ?_
      refine Ev.yes R (Ev.yes rfl (Ev.yes rfl (Ev.yes R (Ev.yes rfl (Ev.yes rfl ?_)))))
      refine Ev.yes (Nat.ble_eq_true_of_le (by simp only [txt, List.length_map, List.length_append, List.length_cons, List.length_nil, maxLst]; omega)) ?_
      refine Ev.yes R (Ev.yes rfl (Ev.yes rfl (Ev.yes rfl (Ev.yes (okE4 he) (Ev.bindC (exprR (x := e) he) ?_)))))
      (intro _ _ h; cases h; refine ⟨rfl, Ev.yes rfl ?_⟩; try simp only [nthL])
      refine Ev.yes (Nat.ble_eq_true_of_le (by simp only [txt, List.length_map, List.length_append, List.length_cons, List.length_nil, maxLst]; omega)) ?_
      have e0 : ((acc ++ [.str [44]]) ++ [.str parT, .str nm1, .str [61]]) ++ txt (wE 4 e) = acc ++ txt ((bif false then [] else [(3, [44])]) ++ ([(1, parT), (1, nm1), (3, [61])] ++ wE 4 e)) := by simp [txt]
      rw [← e0] at K
      exact K
    · have h0 := of_decide_eq_false h0
      have : j = 0 := by omega
      subst this
      refine Ev.yes R (Ev.yes rfl (Ev.yes rfl (Ev.yes R (Ev.yes rfl (Ev.yes rfl ?_)))))
      refine Ev.yes (Nat.ble_eq_true_of_le (by simp only [txt, List.length_map, List.length_append, List.length_cons, List.length_nil, maxLst]; omega)) ?_
      refine Ev.yes R (Ev.yes rfl (Ev.yes rfl (Ev.yes rfl (Ev.yes (okE4 he) (Ev.bindC (exprR (x := e) he) ?_)))))
      (intro _ _ h; cases h; refine ⟨rfl, Ev.yes rfl ?_⟩; try simp only [nthL])
      refine Ev.yes (Nat.ble_eq_true_of_le (by simp only [txt, List.length_map, List.length_append, List.length_cons, List.length_nil, maxLst]; omega)) ?_
      have e0 : (acc ++ [.str parT, .str nm1, .str [61]]) ++ txt (wE 4 e) = acc ++ txt ((bif 0 == 0 then [] else [(3, [44])]) ++ ([(1, parT), (1, nm1), (3, [61])] ++ wE 4 e)) := by simp [txt]
      rw [← e0] at K
      exact K
  · exact Ev.eq (fun n => ref09_Words_L2_eq n _ _ _ _ _ _ _ _) (Ev.no (decide_eq_false (by omega)) (Ev.ret ⟨_, rfl⟩))
theorem portsR (hn : qs.length ≤ 3) (h : ∀ p ∈ qs, xN portN p) {acc0 : List D} (ha : acc0.length ≤ 1230000000) :
    Ev (fun n => ref09_Words_L4 n (.lst 4 ms) (.int .i64 j0) (.int .i64 0) (.lst 1 acc0) (.str nm) (.lst 11 ps) (.lst 11 qs) (.lst 11 its)) fun r => ∃ q, r = (false, [.lst 4 ms, .int .i64 j0, .int .i64 q, .lst 1 (acc0 ++ txt (lW poW qs)), .str nm, .lst 11 ps, .lst 11 qs, .lst 11 its]) := by
  have hm : qs.length * 2101 ≤ 3 * 2101 := Nat.mul_le_mul_right _ hn
  refine commaLoop (xs := qs) (w := poW) (m := 2100) (C := acc0.length + 6303) (T := fun j acc n => ref09_Words_L4 n (.lst 4 ms) (.int .i64 j0) (.int .i64 j) (.lst 1 acc) (.str nm) (.lst 11 ps) (.lst 11 qs) (.lst 11 its)) (acc0 := acc0) (by omega) (fun x hx => poW_len (h x hx)) (by omega) (fun j acc hj hl K => ?_) ?_
  · refine Ev.eq (fun n => ref09_Words_L4_eq n _ _ _ _ _ _ _ _) (Ev.yes (decide_eq_true (by omega)) ?_)
    have hx := h qs[j] (List.getElem_mem hj)
    have N := netXR hx
    have l1 := poW_len hx
    have R := in_range hj
    rw [get_nat hj]
    have N' : Ev (fun n => ref09_net n (expTy ty_issbl6l6l5l11l11l2l2 qs[j])) (fun r => r = (true, [.lst 1 (txt (poW qs[j]))])) := by rw [(xN_exp hx).1]; exact N
    have O := (xN_exp hx).2
    refine Ev.test (fun h0 => ?_) fun h0 => ?_
    · have h0 := of_decide_eq_true h0
      rw [show (j == 0) = false from beq_eq_false_iff_ne.2 (by omega)] at K
      refine Ev.yes (Nat.ble_eq_true_of_le (by simp only [txt, List.length_map, List.length_append, List.length_cons, List.length_nil, maxLst]; omega)) ?_
      refine Ev.yes R (Ev.yes O (Ev.bindC N' ?_))
      (intro _ _ h; cases h; refine ⟨rfl, Ev.yes rfl ?_⟩; try simp only [nthL])
      refine Ev.yes (Nat.ble_eq_true_of_le (by simp only [txt, List.length_map, List.length_append, List.length_cons, List.length_nil, maxLst]; omega)) ?_
      have e0 : (acc ++ [.str [44]]) ++ txt (poW qs[j]) = acc ++ txt ((bif false then [] else [(3, [44])]) ++ poW qs[j]) := by simp [txt]
      rw [← e0] at K
      exact K
    · have h0 := of_decide_eq_false h0
      have : j = 0 := by omega
      subst this
      refine Ev.yes R (Ev.yes O (Ev.bindC N' ?_))
      (intro _ _ h; cases h; refine ⟨rfl, Ev.yes rfl ?_⟩; try simp only [nthL])
      refine Ev.yes (Nat.ble_eq_true_of_le (by simp only [txt, List.length_map, List.length_append, List.length_cons, List.length_nil, maxLst]; omega)) ?_
      exact K
  · exact Ev.eq (fun n => ref09_Words_L4_eq n _ _ _ _ _ _ _ _) (Ev.no (decide_eq_false (by omega)) (Ev.ret ⟨_, rfl⟩))
end
theorem xM_of {ms : List D} (h : xMs ms) {x : D} (hx : x ∈ ms) : ∃ k, xM k x := by
  obtain ⟨i, hi, rfl⟩ := List.mem_iff_getElem.1 hx
  exact ⟨i, h i hi⟩
theorem itW_len {its : List D} (hn : its.length ≤ 5) (h : ∀ i ∈ its, xI 4 i) : (its.flatMap (wI 4)).length ≤ 5 * IL 4 := by
  have h1 := flat_len (w := wI 4) (m := IL 4) fun i hi => wI_len 4 i (h i hi)
  exact Nat.le_trans h1 (Nat.mul_le_mul_right _ hn)
theorem wM_len {k : Nat} {x : D} (h : xM k x) : (wM x).length ≤ 230000000 := by
  obtain ⟨ps, qs, its, rfl, lp, lq, li, hp, hq, hi⟩ := h
  have h1 := itW_len li hi
  have h2 := lW_len (w := paW) (A := 403) (xs := ps) fun p hx => paW_len (hp p hx)
  have h3 : ps.length * 404 ≤ 2 * 404 := Nat.mul_le_mul_right _ lp
  have h4 := lW_len (w := poW) (A := 2100) (xs := qs) fun p hx => poW_len (hq p hx)
  have h5 : qs.length * 2101 ≤ 3 * 2101 := Nat.mul_le_mul_right _ lq
  have h6 : (bif ps.isEmpty then [] else [(3, [35]), (3, [40])] ++ (lW paW ps ++ [(3, [41])]) : List Tk).length ≤ 811 := by
    cases ps.isEmpty
    · simp only [cond_false, List.length_append, List.length_cons, List.length_nil]; omega
    · simp
  have h7 : IL 4 = 44200000 := rfl
  rw [wM_M]
  unfold mW
  simp only [List.length_append, List.length_cons, List.length_nil] at h6 ⊢; omega
theorem items4R {its : List D} (hn : its.length ≤ 5) (h : ∀ i ∈ its, xI 4 i) : Ev (fun n => ref09_ItemsWords n (.lst 11 its)) (fun r => r = (true, [.lst 1 (txt (its.flatMap (wI 4)))])) :=
  itemsR (N := 5) (m := IL 4) (by decide) hn (by decide) (fun x hx => wI_len 4 x (h x hx)) (fun x hx => (xI_exp (h x hx)).2) (fun x hx => by rw [(xI_exp (h x hx)).1]; exact itemR 4 (by decide) x (h x hx))
theorem wordsR {ms : List D} (hn : ms.length ≤ 3) (h : xMs ms) : Ev (fun n => ref09_Words n (.lst 4 ms)) (fun r => r = (true, [.lst 1 (txt (ms.flatMap wM))])) := by
  have hL : ∀ x ∈ ms, (wM x).length ≤ 230000000 := fun x hx => by obtain ⟨k, hk⟩ := xM_of h hx; exact wM_len hk
  have hm : ms.length * 230000000 ≤ 3 * 230000000 := Nat.mul_le_mul_right _ hn
  refine Ev.eq (fun n => ref09_Words_eq n ms) ?_
  refine Ev.bindL (Q := fun r => ∃ q, r = (false, [.lst 4 ms, .int .i64 q, .lst 1 ([] ++ txt (ms.flatMap wM))])) ?_ (fun ds h => by obtain ⟨_, h⟩ := h; cases h) fun ds h => ?_
  · refine flatLoop (xs := ms) (w := wM) (m := 230000000) (C := 690000000) (T := fun j acc n => ref09_Words_L0 n (.lst 4 ms) (.int .i64 j) (.lst 1 acc)) (acc0 := []) (by omega) hL (by simp only [List.length_nil]; omega) (fun j acc0 hj hl K => ?_) ?_
    · have hw := hL ms[j] (List.getElem_mem hj)
      refine Ev.eq (fun n => ref09_Words_L0_eq n _ _ _) (Ev.yes (decide_eq_true (by omega)) (Ev.yes (in_range hj) ?_))
      obtain ⟨ps, qs, its, e, l1, l2, l3, h1, h2, h3⟩ := h j hj
      have l4 := lW_len (w := paW) (A := 403) (xs := ps) fun p hx => paW_len (h1 p hx)
      have l5 : ps.length * 404 ≤ 2 * 404 := Nat.mul_le_mul_right _ l1
      have l6 := lW_len (w := poW) (A := 2100) (xs := qs) fun p hx => poW_len (h2 p hx)
      have l7 : qs.length * 2101 ≤ 3 * 2101 := Nat.mul_le_mul_right _ l2
      have l8 := itW_len l3 h3
      have l9 : IL 4 = 44200000 := rfl
      have a1 : (lW paW ps).length ≤ 808 := by omega
      have a2 : (lW poW qs).length ≤ 6303 := by omega
      have a3 : (its.flatMap (wI 4)).length ≤ 221000000 := Nat.le_trans l8 (by rw [l9]; decide)
      have hl : acc0.length ≤ 4000000000 := by omega
      clear l4 l5 l6 l7 l8 l9 hm hw
      have eM : wM ms[j] = mW [109, 48 + UInt8.ofNat j] ps qs its := by rw [e]; rfl
      rw [eM] at K
      rw [get_nat hj, e]
      generalize [109, 48 + UInt8.ofNat j] = nm at K
      refine Ev.yes rfl ?_
      refine Ev.yes (Nat.ble_eq_true_of_le (by simp only [txt, List.length_map, List.length_append, List.length_cons, List.length_nil, maxLst]; omega)) ?_
      cases hps : ps with
      | nil =>
        subst hps
        refine Ev.no rfl ?_
        refine Ev.yes (Nat.ble_eq_true_of_le (by simp only [txt, List.length_map, List.length_append, List.length_cons, List.length_nil, maxLst]; omega)) ?_
        refine Ev.bindL (portsR l2 h2 (by simp only [List.length_append, List.length_cons, List.length_nil]; omega)) (fun ds h => by obtain ⟨_, h⟩ := h; cases h) fun ds h => ?_
        obtain ⟨q, h⟩ := h
        cases h
        refine Ev.yes rfl ?_
        simp only [nth3]
        refine Ev.yes (Nat.ble_eq_true_of_le (by simp only [txt, List.length_map, List.length_append, List.length_cons, List.length_nil, maxLst]; omega)) ?_
        refine Ev.bindC (items4R (its := its) l3 h3) ?_
        (intro _ _ h; cases h; refine ⟨rfl, Ev.yes rfl ?_⟩; try simp only [nthL])
        refine Ev.yes (Nat.ble_eq_true_of_le (by simp only [txt, List.length_map, List.length_append, List.length_cons, List.length_nil, maxLst]; omega)) ?_
        refine Ev.yes (Nat.ble_eq_true_of_le (by simp only [txt, List.length_map, List.length_append, List.length_cons, List.length_nil, maxLst]; omega)) ?_
        have e0 : ((((acc0 ++ [.str modT', .str nm]) ++ [.str [40]]) ++ txt (lW poW qs)) ++ [.str [41], .str [59]]) ++ txt (its.flatMap (wI 4)) ++ [.str emodT] = acc0 ++ txt (mW nm [] qs its) := by simp [txt, mW]
        rw [← e0] at K
        exact K
      | cons p r =>
        subst hps
        refine Ev.yes (decide_eq_true (show (0 : Int) < (((p :: r).length : Nat) : Int) from by simp only [List.length_cons]; omega)) ?_
        refine Ev.yes (Nat.ble_eq_true_of_le (by simp only [txt, List.length_map, List.length_append, List.length_cons, List.length_nil, maxLst]; omega)) ?_
        refine Ev.bindL (paramsR l1 h1 (by simp only [List.length_append, List.length_cons, List.length_nil]; omega)) (fun ds h => by obtain ⟨_, h⟩ := h; cases h) fun ds h => ?_
        obtain ⟨q, h⟩ := h
        cases h
        refine Ev.yes rfl ?_
        simp only [nth3]
        refine Ev.yes (Nat.ble_eq_true_of_le (by simp only [txt, List.length_map, List.length_append, List.length_cons, List.length_nil, maxLst]; omega)) ?_
        refine Ev.yes (Nat.ble_eq_true_of_le (by simp only [txt, List.length_map, List.length_append, List.length_cons, List.length_nil, maxLst]; omega)) ?_
        refine Ev.bindL (portsR l2 h2 (by simp only [List.length_append, List.length_cons, List.length_nil, txt_len]; omega)) (fun ds h => by obtain ⟨_, h⟩ := h; cases h) fun ds h => ?_
        obtain ⟨q, h⟩ := h
        cases h
        refine Ev.yes rfl ?_
        simp only [nth3]
        refine Ev.yes (Nat.ble_eq_true_of_le (by simp only [txt, List.length_map, List.length_append, List.length_cons, List.length_nil, maxLst]; omega)) ?_
        refine Ev.bindC (items4R (its := its) l3 h3) ?_
        (intro _ _ h; cases h; refine ⟨rfl, Ev.yes rfl ?_⟩; try simp only [nthL])
        refine Ev.yes (Nat.ble_eq_true_of_le (by simp only [txt, List.length_map, List.length_append, List.length_cons, List.length_nil, maxLst]; omega)) ?_
        refine Ev.yes (Nat.ble_eq_true_of_le (by simp only [txt, List.length_map, List.length_append, List.length_cons, List.length_nil, maxLst]; omega)) ?_
        have e0 : ((((((((acc0 ++ [.str modT', .str nm]) ++ [.str [35], .str [40]]) ++ txt (lW paW (p :: r))) ++ [.str [41]]) ++ [.str [40]]) ++ txt (lW poW qs)) ++ [.str [41], .str [59]]) ++ txt (its.flatMap (wI 4))) ++ [.str emodT] = acc0 ++ txt (mW nm (p :: r) qs its) := by simp [txt, mW]
        rw [← e0] at K
        exact K
    · exact Ev.eq (fun n => ref09_Words_L0_eq n _ _ _) (Ev.no (decide_eq_false (by omega)) (Ev.ret ⟨_, rfl⟩))
  · obtain ⟨q, h⟩ := h
    cases h
    exact Ev.yes rfl (Ev.ret rfl)
end Go.Proofs.YtalibicpmfbieaaGreatDoor
