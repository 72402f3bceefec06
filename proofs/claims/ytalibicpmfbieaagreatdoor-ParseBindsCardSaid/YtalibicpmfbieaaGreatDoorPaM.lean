/- ParseBinds, plain. -/
import Derived.Test.YtalibicpmfbieaaGreatDoorPaL
import Derived.Test.YtalibicpmfbieaaGreatDoorPaW
namespace Go.Proofs.YtalibicpmfbieaaGreatDoor
open Go.AE
set_option linter.unusedVariables false
set_option linter.unusedSimpArgs false
def good (ps : Pairs) : Prop := ∀ p ∈ ps, p.1 ∈ opsT ∧ p.2 ∈ nmsT
def tailT : Pairs → List UInt8
  | [] => []
  | p :: r => [32] ++ p.1 ++ [32] ++ p.2 ++ tailT r
def baseT : List UInt8 := [109, 111, 100, 117, 108, 101, 32, 109, 32, 40, 32, 41, 32, 59, 32, 97, 115, 115, 105, 103, 110, 32, 121, 32, 61, 32, 110, 48]
def endS : List UInt8 := [32, 59, 32, 101, 110, 100, 109, 111, 100, 117, 108, 101]
def hdT : List D := [tokD 1 [109] 0 0 0, tokD 3 [40] 0 0 0, tokD 3 [41] 0 0 0, tokD 3 [59] 0 0 0, tokD 1 assT 0 0 0, tokD 1 [121] 0 0 0, tokD 3 [61] 0 0 0, tokD 1 [110, 48] 0 0 0]
def flT : Pairs → List D
  | [] => []
  | p :: r => tokD 3 p.1 0 0 0 :: tokD 1 p.2 0 0 0 :: flT r
def tlT : List D := [tokD 3 [59] 0 0 0, tokD 1 endT 0 0 0]
def srcT (ps : Pairs) : List D := tokD 1 modT 0 0 0 :: hdT ++ (flT ps ++ tlT)
theorem tailT_snoc (p : List UInt8 × List UInt8) : ∀ ps : Pairs, tailT (ps ++ [p]) = tailT ps ++ ((([32] ++ p.1) ++ [32]) ++ p.2)
  | [] => by simp [tailT]
  | q :: r => by
    have := tailT_snoc p r
    simp only [List.cons_append, tailT, this, List.append_assoc]
theorem jt_eq : ∀ ts : List D, jt ts = ts.flatMap fun y => [32] ++ (kw y).2
  | [] => rfl
  | y :: ts => by
    show [32] ++ joinStr [32] (words (y :: ts)) = _
    rw [join_cons, jt_eq ts]
    simp [List.flatMap_cons]
theorem flT_text : ∀ ps : Pairs, ((flT ps).flatMap fun y => [32] ++ (kw y).2) = tailT ps
  | [] => rfl
  | p :: r => by
    have := flT_text r
    simp only [flT, List.flatMap_cons, this, tailT]
    simp [kw, tokD, D.at_, D.cells, D.s]
theorem src_join (ps : Pairs) : joinStr [32] (words (srcT ps)) = (baseT ++ tailT ps) ++ endS := by
  have h1 : modT ++ (hdT.flatMap fun y => [32] ++ (kw y).2) = baseT := rfl
  have h2 : (tlT.flatMap fun y => [32] ++ (kw y).2) = endS := rfl
  show joinStr [32] (words (tokD 1 modT 0 0 0 :: (hdT ++ (flT ps ++ tlT)))) = _
  rw [join_cons, jt_eq, List.flatMap_append, List.flatMap_append, flT_text, h2, ← List.append_assoc, ← List.append_assoc]
  show ((modT ++ _) ++ _) ++ _ = _
  rw [h1]
theorem flT_w : ∀ ps : Pairs, good ps → WToks (flT ps)
  | [], _ => WToks.nil
  | p :: r, h => by
    intro y hy
    have hp := h p (List.mem_cons_self ..)
    rcases List.mem_cons.1 hy with rfl | hy
    · exact ⟨_, _, _, _, _, rfl, wd_op _ hp.1⟩
    · rcases List.mem_cons.1 hy with rfl | hy
      · exact ⟨_, _, _, _, _, rfl, wd_nm _ hp.2⟩
      · exact flT_w r (fun q hq => h q (List.mem_cons_of_mem _ hq)) y hy
theorem hdT_w : WToks (tokD 1 modT 0 0 0 :: hdT) := by
  intro y hy
  simp only [hdT, List.mem_cons, List.not_mem_nil, or_false] at hy
  rcases hy with rfl | rfl | rfl | rfl | rfl | rfl | rfl | rfl | rfl
  · exact ⟨_, _, _, _, _, rfl, wd_0⟩
  · exact ⟨_, _, _, _, _, rfl, wd_1⟩
  · exact ⟨_, _, _, _, _, rfl, wd_9⟩
  · exact ⟨_, _, _, _, _, rfl, wd_10⟩
  · exact ⟨_, _, _, _, _, rfl, wd_11⟩
  · exact ⟨_, _, _, _, _, rfl, wd_2⟩
  · exact ⟨_, _, _, _, _, rfl, wd_3⟩
  · exact ⟨_, _, _, _, _, rfl, wd_12⟩
  · exact ⟨_, _, _, _, _, rfl, wd_4⟩
theorem tlT_w : WToks tlT := by
  intro y hy
  simp only [tlT, List.mem_cons, List.not_mem_nil, or_false] at hy
  rcases hy with rfl | rfl
  · exact ⟨_, _, _, _, _, rfl, wd_11⟩
  · exact ⟨_, _, _, _, _, rfl, wd_8⟩
theorem src_w {ps : Pairs} (h : good ps) : WToks (srcT ps) := hdT_w.append ((flT_w ps h).append tlT_w)
theorem flT_len : ∀ ps : Pairs, (flT ps).length = 2 * ps.length
  | [] => rfl
  | p :: r => by simp only [flT, List.length_cons, flT_len r]; omega
theorem src_len (ps : Pairs) : (srcT ps).length = 11 + 2 * ps.length := by
  show ((tokD 1 modT 0 0 0 :: hdT) ++ (flT ps ++ tlT)).length = _
  simp only [List.length_append, List.length_cons, flT_len, hdT, tlT, List.length_nil]; omega
theorem plc_get : ∀ (ts : List D) (c : Int) (j : Nat) {k a b e : Int} {w : List UInt8}, ts[j]? = some (tokD k w a b e) → ∃ c', (plc c ts)[j]? = some (tk k w 1 1 c')
  | [], _, j, _, _, _, _, _, h => by simp at h
  | y :: ts, c, 0, k, a, b, e, w, h => by
    have : y = tokD k w a b e := by simpa using h
    subst this
    exact ⟨c, rfl⟩
  | y :: ts, c, j + 1, k, a, b, e, w, h => by
    obtain ⟨c', h'⟩ := plc_get ts (c + ((kw y).2.length : Int) + 1) j (by simpa using h)
    exact ⟨c', by simpa [plc] using h'⟩
theorem nm_ok {y : List UInt8} (h : y ∈ nmsT) : okN y = true := List.all_eq_true.1 ok_nm y h
theorem psAt_plc (post : List D) : ∀ (ps : Pairs) (pre : List D) (c : Int), good ps → PsAt (plc c (pre ++ (flT ps ++ (tokD 3 [59] 0 0 0 :: post)))) pre.length ps
  | [], pre, c, _ => by
    obtain ⟨c', h⟩ := plc_get (pre ++ (flT [] ++ (tokD 3 [59] 0 0 0 :: post))) c pre.length (k := 3) (w := [59]) (a := 0) (b := 0) (e := 0) (by simp [flT])
    exact ⟨1, 1, c', h⟩
  | (o, y) :: r, pre, c, hg => by
    have hp := hg (o, y) (List.mem_cons_self ..)
    obtain ⟨c1, h1⟩ := plc_get (pre ++ (flT ((o, y) :: r) ++ (tokD 3 [59] 0 0 0 :: post))) c pre.length (k := 3) (w := o) (a := 0) (b := 0) (e := 0) (by simp [flT])
    obtain ⟨c2, h2⟩ := plc_get (pre ++ (flT ((o, y) :: r) ++ (tokD 3 [59] 0 0 0 :: post))) c (pre.length + 1) (k := 1) (w := y) (a := 0) (b := 0) (e := 0) (by rw [List.getElem?_append_right (by omega)]; simp [flT])
    have ih := psAt_plc post r (pre ++ [tokD 3 o 0 0 0, tokD 1 y 0 0 0]) c fun q hq => hg q (List.mem_cons_of_mem _ hq)
    rw [show (pre ++ [tokD 3 o 0 0 0, tokD 1 y 0 0 0]).length = pre.length + 2 from by simp] at ih
    rw [show (pre ++ [tokD 3 o 0 0 0, tokD 1 y 0 0 0]) ++ (flT r ++ (tokD 3 [59] 0 0 0 :: post)) = pre ++ (flT ((o, y) :: r) ++ (tokD 3 [59] 0 0 0 :: post)) from by simp [flT]] at ih
    exact ⟨⟨1, 1, c1, h1⟩, ⟨1, 1, c2, h2⟩, hp.1, nm_ok hp.2, ih⟩
theorem src_ps {ps : Pairs} (h : good ps) : PsAt (plc 1 (srcT ps)) (0 + 5 + 4) ps := psAt_plc [tokD 1 endT 0 0 0] ps (tokD 1 modT 0 0 0 :: hdT) 1 h
theorem src_end (ps : Pairs) : ∃ c, (plc 1 (srcT ps))[0 + 5 + 5 + 2 * ps.length]? = some (tk 1 endT 1 1 c) := by
  refine plc_get (srcT ps) 1 _ (k := 1) (w := endT) (a := 0) (b := 0) (e := 0) ?_
  show ((tokD 1 modT 0 0 0 :: hdT) ++ (flT ps ++ tlT))[0 + 5 + 5 + 2 * ps.length]? = _
  rw [List.getElem?_append_right (by simp only [hdT, List.length_cons, List.length_nil]; omega), List.getElem?_append_right (by rw [flT_len]; simp only [hdT, List.length_cons, List.length_nil]; omega), flT_len]
  rw [show 0 + 5 + 5 + 2 * ps.length - (tokD 1 modT 0 0 0 :: hdT).length - 2 * ps.length = 1 from by simp only [hdT, List.length_cons, List.length_nil]; omega]
  rfl
theorem ok_m : okN [109] = true := by kernel_rfl
theorem ok_y : okN [121] = true := by kernel_rfl
theorem ok_n0 : okN [110, 48] = true := by kernel_rfl
theorem parseSrc_ev {ps : Pairs} (hg : good ps) (hn : ps.length ≤ 20) : Ev (fun n => parse_Parse n (.lst 5 (plc 1 (srcT ps)))) fun r => ∃ m t u a b e a' b' e' v, r = (true, [.agg [.int .i64 0, .int .i64 0, .int .i64 0], .int .i64 0, .lst 7 [AMo m a' b' e' (AI a b e v u)]]) ∧ Rep t u ∧ Bd [110, 48] ps (wB t) := by
  have hl : (plc 1 (srcT ps)).length = 11 + 2 * ps.length := by rw [plc_len, src_len]
  have at_ : ∀ (j : Nat) (k : Int) (w : List UInt8), (tokD 1 modT 0 0 0 :: hdT)[j]? = some (tokD k w 0 0 0) → ∃ c, (plc 1 (srcT ps))[j]? = some (tk k w 1 1 c) := by
    intro j k w h
    refine plc_get (srcT ps) 1 j (k := k) (w := w) (a := 0) (b := 0) (e := 0) ?_
    show ((tokD 1 modT 0 0 0 :: hdT) ++ (flT ps ++ tlT))[j]? = _
    have hj : j < (tokD 1 modT 0 0 0 :: hdT).length := by
      by_cases hj : j < (tokD 1 modT 0 0 0 :: hdT).length
      · exact hj
      · rw [List.getElem?_eq_none (by omega)] at h; cases h
    rw [List.getElem?_append_left hj]; exact h
  obtain ⟨c1, g1⟩ := at_ 0 1 modT rfl
  obtain ⟨c2, g2⟩ := at_ 1 1 [109] rfl
  obtain ⟨c3, g3⟩ := at_ 2 3 [40] rfl
  obtain ⟨c4, g4⟩ := at_ 3 3 [41] rfl
  obtain ⟨c5, g5⟩ := at_ 4 3 [59] rfl
  obtain ⟨c6, g6⟩ := at_ 5 1 assT rfl
  obtain ⟨c7, g7⟩ := at_ 6 1 [121] rfl
  obtain ⟨c8, g8⟩ := at_ 7 3 [61] rfl
  obtain ⟨c9, g9⟩ := at_ 8 1 [110, 48] rfl
  obtain ⟨ce, ge⟩ := src_end ps
  refine (parseOne_ev (l := plc 1 (srcT ps)) (by omega) g1 g2 ok_m g3 g4 g5 g6 g7 ok_y g8 g9 ok_n0 (src_ps hg) ge (by omega)).mono fun r hr => ?_
  obtain ⟨t, u, a, b, e, v, h, hrep, hbd⟩ := hr
  exact ⟨_, t, u, a, b, e, _, _, _, v, h, hrep, hbd⟩
theorem word_short : (opsT.all fun o => decide (o.length ≤ 3)) = true := by kernel_rfl
theorem tailT_len : ∀ {ps : Pairs}, good ps → (tailT ps).length ≤ 6 * ps.length
  | [], _ => Nat.zero_le _
  | p :: r, h => by
    have hp := h p (List.mem_cons_self ..)
    have h1 := op_len hp.1
    have h2 : p.2.length ≤ 1 := by
      have := hp.2
      simp only [nmsT, List.mem_cons, List.not_mem_nil, or_false] at this
      rcases this with h | h | h <;> rw [h] <;> exact Nat.le_refl _
    have ih := tailT_len (ps := r) fun q hq => h q (List.mem_cons_of_mem _ hq)
    simp only [tailT, List.length_append, List.length_cons, List.length_nil]
    omega
theorem readSrc_ev {ps : Pairs} (hg : good ps) (hn : ps.length ≤ 20) : Ev (fun n => law10_Read n (.str ((baseT ++ tailT ps) ++ endS))) fun r => ∃ m t u a b e a' b' e' v ts, r = (true, [.lst 7 [AMo m a' b' e' (AI a b e v u)], .lst 5 ts, .agg [.int .i64 0, .int .i64 0, .int .i64 0], .int .i64 0]) ∧ Rep t u ∧ Bd [110, 48] ps (wB t) := by
  have hl := tailT_len hg
  have hs : ((baseT ++ tailT ps) ++ endS).length ≤ 12000 := by
    simp only [List.length_append]
    have : baseT.length = 28 := rfl
    have : endS.length = 12 := rfl
    omega
  have hA : Again (1, 1) ((baseT ++ tailT ps) ++ endS) (plc 1 (srcT ps)) := by rw [← src_join]; exact again_join _ (src_w hg)
  have h1 := lexAgain_ev hs hA
  refine Ev.eq (fun n => law10_Read_eq n _) (Ev.bindC h1 ?_)
  intro _ ds h; cases h
  refine ⟨rfl, Ev.yes (and_tt rfl (plain3T (plc_toks 1 (srcT ps)))) (Ev.no rfl (Ev.bindC (parseSrc_ev hg hn) ?_))⟩
  rintro _ ds ⟨m, t, u, a, b, e, a', b', e', v, h0, hr, hb⟩
  cases h0
  exact ⟨rfl, Ev.yes rfl (Ev.ret ⟨m, t, u, a, b, e, a', b', e', v, _, rfl, hr, hb⟩)⟩
theorem tm_nat (x : Int) (m : Nat) (hm : 0 < m) (h : 0 ≤ x) : ∃ k : Nat, k < m ∧ x.tmod (m : Int) = (k : Int) := by
  have h1 := Int.tmod_lt_of_pos x (by omega : (0 : Int) < (m : Int))
  have h2 := Int.tmod_nonneg (m : Int) h
  exact ⟨(x.tmod (m : Int)).toNat, by omega, by omega⟩
theorem pick21 (x : Int) : ∃ k : Nat, k < 21 ∧ (IntKind.i64.wrap (x.tmod (((opsT.map D.str).length : Nat) : Int) + (((opsT.map D.str).length : Nat) : Int))).tmod (((opsT.map D.str).length : Nat) : Int) = (k : Int) := by
  have hL : (opsT.map D.str).length = 21 := rfl
  rw [hL]
  have h1 := Int.tmod_lt_of_pos x (by decide : (0 : Int) < ((21 : Nat) : Int))
  have h2 := Int.lt_tmod_of_pos x (by decide : (0 : Int) < ((21 : Nat) : Int))
  rw [wrap_id (by omega) (by omega)]
  exact tm_nat _ 21 (by decide) (by omega)
theorem bindsL0 {picks : List D} (hp : ∀ y ∈ picks, ∃ x, y = D.int .i64 x) : ∀ (m i : Nat) (ps : Pairs), 20 - i = m → i ≤ 20 → i ≤ picks.length → ps.length = i → good ps →
    Ev (fun n => law10_ParseBinds_L0 n (.lst 1 picks) (.str (baseT ++ tailT ps)) (.int .i64 (i : Int)) (.lst 1 (opsT.map D.str)) (.lst 1 (nms [110, 48] ps)) (.lst 1 (opn ps)))
      fun r => ∃ (ps' : Pairs) (i' : Int), good ps' ∧ ps'.length ≤ 20 ∧ r = (false, [.lst 1 picks, .str (baseT ++ tailT ps'), .int .i64 i', .lst 1 (opsT.map D.str), .lst 1 (nms [110, 48] ps'), .lst 1 (opn ps')]) := by
  intro m
  have stop : ∀ (i : Nat) (ps : Pairs), i ≤ 20 → ps.length = i → good ps → Ev (fun n => law10_ParseBinds_L0_j1 n false (i : Int) picks (opsT.map D.str) (opn ps) (nms [110, 48] ps) (baseT ++ tailT ps))
      fun r => ∃ (ps' : Pairs) (i' : Int), good ps' ∧ ps'.length ≤ 20 ∧ r = (false, [.lst 1 picks, .str (baseT ++ tailT ps'), .int .i64 i', .lst 1 (opsT.map D.str), .lst 1 (nms [110, 48] ps'), .lst 1 (opn ps')]) := by
    intro i ps hi hl hg
    exact evDf (fun n => law10_ParseBinds_L0_j1_def n _ _ _ _ _ _ _) (Ev.no rfl (Ev.ret ⟨ps, _, hg, by omega, rfl⟩))
  induction m with
  | zero =>
    intro i ps hm hi hip hl hg
    refine Ev.eq (fun n => law10_ParseBinds_L0_eq n _ _ _ _ _ _) (Ev.test (fun h => ?_) fun h => stop i ps hi hl hg)
    rw [show decide ((i : Int) < 20) = false from decide_eq_false (by omega)]
    exact stop i ps hi hl hg
  | succ m ih =>
    intro i ps hm hi hip hl hg
    refine Ev.eq (fun n => law10_ParseBinds_L0_eq n _ _ _ _ _ _) (Ev.test (fun h => ?_) fun h => stop i ps hi hl hg)
    have hlt : i < picks.length := by have := of_decide_eq_true h; omega
    rw [show decide ((i : Int) < 20) = true from decide_eq_true (by omega)]
    obtain ⟨x, hx⟩ := hp picks[i] (List.getElem_mem hlt)
    have hget : picks[((i : Nat) : Int).toNat]?.getD D.top = .int .i64 x := by rw [get_nat hlt, hx]
    obtain ⟨k, hk, ek⟩ := pick21 x
    obtain ⟨k3, hk3, ek3⟩ := tm_nat (i : Int) 3 (by decide) (by omega)
    have go : (opsT.map D.str)[((k : Nat) : Int).toNat]?.getD D.top = .str (opsT[k]?.getD []) := strGet (os := opsT) hk
    have gn : (nmsT.map D.str)[((k3 : Nat) : Int).toNat]?.getD D.top = .str (nmsT[k3]?.getD []) := strGet (os := nmsT) hk3
    have ho : opsT[k]?.getD [] ∈ opsT := by rw [List.getElem?_eq_getElem (show k < opsT.length from hk)]; exact List.getElem_mem _
    have hy : nmsT[k3]?.getD [] ∈ nmsT := by rw [List.getElem?_eq_getElem (show k3 < nmsT.length from hk3)]; exact List.getElem_mem _
    have hol := op_len ho
    have hyl : (nmsT[k3]?.getD []).length ≤ 1 := by
      have := hy
      simp only [nmsT, List.mem_cons, List.not_mem_nil, or_false] at this
      rcases this with h | h | h <;> · rw [nmsT, h]; exact Nat.le_refl _
    generalize opsT[k]?.getD [] = o at *
    generalize nmsT[k3]?.getD [] = y at *
    have htl := tailT_len hg
    have hw : IntKind.i64.wrap ((i : Int) + 1) = ((i + 1 : Nat) : Int) := wrap_succ (by omega)
    have hg' : good (ps ++ [(o, y)]) := by
      intro p hp
      rcases List.mem_append.1 hp with hp | hp
      · exact hg p hp
      · rw [List.mem_singleton.1 hp]; exact ⟨ho, hy⟩
    have I := ih (i + 1) (ps ++ [(o, y)]) (by omega) (by omega) hlt (by rw [List.length_append, List.length_singleton]; omega) hg'
    rw [show tailT (ps ++ [(o, y)]) = tailT ps ++ ((([32] ++ o) ++ [32]) ++ y) from tailT_snoc (o, y) ps, ← List.append_assoc,
      show nms [110, 48] (ps ++ [(o, y)]) = nms [110, 48] ps ++ [.str y] from by simp [nms], show opn (ps ++ [(o, y)]) = opn ps ++ [.str o] from by simp [opn]] at I
    have hb : baseT.length = 28 := rfl
    refine evDf (fun n => law10_ParseBinds_L0_j1_def n _ _ _ _ _ _ _) (Ev.yes rfl (Ev.yes (in_range hlt) ?_))
    generalize hA : picks[((i : Nat) : Int).toNat]?.getD D.top = A
    have hA' : A = .int .i64 x := hA.symm.trans hget
    clear hA hget
    subst hA'
    refine Ev.yes rfl (Ev.no (decide_eq_false (by decide)) (Ev.no (decide_eq_false (by decide)) ?_))
    generalize hQ : (IntKind.i64.wrap ((D.int .i64 x).i.tmod (((opsT.map D.str).length : Nat) : Int) + (((opsT.map D.str).length : Nat) : Int))).tmod (((opsT.map D.str).length : Nat) : Int) = Q
    have hQ' : Q = (k : Int) := hQ.symm.trans ek
    clear hQ
    subst hQ'
    generalize hZ : (opsT.map D.str)[((k : Nat) : Int).toNat]?.getD D.top = Z
    have hZ' : Z = .str o := hZ.symm.trans go
    clear hZ
    subst hZ'
    generalize hT : ((i : Nat) : Int).tmod 3 = T
    have hT' : T = (k3 : Int) := hT.symm.trans ek3
    clear hT
    subst hT'
    generalize hY : ([.str [97], .str [98], .str [99]] : List D)[((k3 : Nat) : Int).toNat]?.getD D.top = Y
    have hY' : Y = .str y := hY.symm.trans gn
    clear hY
    subst hY'
    refine Ev.yes (in_range hk) (Ev.yes rfl (Ev.yes (in_range hk3) ?_))
    refine Ev.yes rfl (Ev.yes (Nat.ble_eq_true_of_le (by simp only [opn, List.length_map, maxLst]; omega)) (Ev.yes (Nat.ble_eq_true_of_le (by simp only [nms, List.length_map, List.length_cons, maxLst]; omega)) (Ev.yes (decide_eq_true (by show 1 + o.length ≤ maxStr; simp only [maxStr]; omega)) (Ev.yes (decide_eq_true (by show ([32] ++ o).length + 1 ≤ maxStr; simp only [maxStr, List.length_append, List.length_singleton]; omega)) (Ev.yes (decide_eq_true (by show (([32] ++ o) ++ [32]).length + y.length ≤ maxStr; simp only [maxStr, List.length_append, List.length_singleton]; omega)) (Ev.yes (decide_eq_true (by show (baseT ++ tailT ps).length + ((([32] ++ o) ++ [32]) ++ y).length ≤ maxStr; simp only [maxStr, List.length_append, List.length_singleton]; omega)) ?_))))))
    rw [hw]
    exact I
theorem strs_plain : ∀ w : List (List UInt8), (w.map D.str).all plainD = true
  | [] => rfl
  | x :: w => by simp only [List.map_cons, List.all_cons, strs_plain w]; rfl
theorem sameLoop {os : List (List UInt8)} (hl : os.length ≤ 100000) : ∀ (m i : Nat), os.length - i = m → i ≤ os.length →
    Ev (fun n => law10_ParseBinds_L2 n (.int .i64 ((os.map D.str).length : Int)) (.int .i64 (i : Int)) (.lst 1 (os.map D.str)) (.lst 1 (os.map D.str))) fun r => ∃ i' : Int, r = (false, [.int .i64 ((os.map D.str).length : Int), .int .i64 i', .lst 1 (os.map D.str), .lst 1 (os.map D.str)]) := by
  intro m
  induction m with
  | zero => intro i hm hi; exact Ev.eq (fun n => law10_ParseBinds_L2_eq n _ _ _ _) (Ev.no (decide_eq_false (by rw [List.length_map]; omega)) (Ev.ret ⟨_, rfl⟩))
  | succ m ih =>
    intro i hm hi
    have hlt : i < os.length := by omega
    have hlt2 : i < (os.map D.str).length := by rw [List.length_map]; exact hlt
    have g := strGet (os := os) (k := i) hlt
    have hw : IntKind.i64.wrap ((i : Int) + 1) = ((i + 1 : Nat) : Int) := wrap_succ (by omega)
    refine Ev.eq (fun n => law10_ParseBinds_L2_eq n _ _ _ _) (Ev.yes (decide_eq_true (by omega)) (Ev.yes (in_range hlt2) ?_))
    rw [g, hw]
    refine Ev.yes rfl (Ev.yes (in_range hlt2) (Ev.yes rfl (Ev.no (by show (!(_ == _)) = false; simp) (ih (i + 1) (by omega) hlt))))
theorem parseBinds_plain {picks : List D} (hp : ∀ y ∈ picks, ∃ x, y = D.int .i64 x) : Ev (fun n => law10_ParseBinds n (.lst 1 picks)) fun r => r = (true, [.bool true]) := by
  refine Ev.eq (fun n => law10_ParseBinds_eq n picks) (Ev.bindC awake10 ?_)
  intro _ ds h; cases h
  refine ⟨rfl, Ev.yes rfl (Ev.no rfl ?_)⟩
  have L : Ev (fun n => law10_ParseBinds_L0 n (.lst 1 picks) (.str baseT) (.int .i64 (((0 : Nat) : Int))) (.lst 1 (opsT.map D.str)) (.lst 1 (nms [110, 48] [])) (.lst 1 (opn []))) _ := bindsL0 hp 20 0 [] rfl (Nat.zero_le _) (Nat.zero_le _) rfl (fun p h => by cases h)
  refine Ev.bindL L (fun ds h => by obtain ⟨_, _, _, _, h⟩ := h; cases h) fun ds h => ?_
  obtain ⟨ps, i', hg, hn, h⟩ := h
  cases h
  have hl := tailT_len hg
  have hb : baseT.length = 28 := rfl
  refine Ev.yes rfl (Ev.yes (decide_eq_true (by show (baseT ++ tailT ps).length + 12 ≤ maxStr; simp only [maxStr, List.length_append]; omega)) (Ev.bindC (readSrc_ev hg hn) ?_))
  rintro _ ds ⟨m, t, u, a, b, e, a', b', e', v, ts, h0, hr, hbd⟩
  cases h0
  have hwl := Bd_len hbd
  have tu := Rep_typ hr
  have T : Ev (fun n => law09_ToldExpr n (expTy ty_iiiisl6 u)) fun r => ∃ u, r = (true, [u]) ∧ Rep t u := by rw [tu.1]; exact told_ev t u hr
  refine ⟨rfl, Ev.yes rfl (Ev.no rfl (Ev.no rfl (Ev.yes rfl (Ev.yes rfl (Ev.yes rfl (Ev.no rfl (Ev.yes rfl (Ev.yes rfl (Ev.yes rfl (Ev.yes rfl (Ev.yes rfl (Ev.yes rfl (evDf (fun n => law10_ParseBinds_j1_def n _ _ _) (Ev.no rfl (Ev.yes rfl (Ev.yes rfl (Ev.yes rfl (Ev.yes rfl (Ev.yes rfl (Ev.yes rfl (Ev.yes rfl (Ev.yes (by show (notAny ty_iiiisl6 && okTy ty_iiiisl6 u) = true; rw [tu.2]; rfl) (Ev.bindC T ?_)))))))))))))))))))))))⟩
  rintro _ ds ⟨u', h0, hr'⟩
  cases h0
  have tu' := Rep_typ hr'
  have W : Ev (fun n => ref09_ExprWords n (expTy ty_iiiisl6 u')) fun r => r = (true, [.lst 1 ((wB t).map D.str)]) := by rw [tu'.1]; exact wordsB_ev t u' hr' (by omega)
  refine ⟨rfl, Ev.yes (by show ((okTy ty_iiiisl6 u' && true) && true) = true; rw [tu'.2]; rfl) (Ev.bindC W ?_)⟩
  intro _ ds h0; cases h0
  refine ⟨rfl, Ev.yes rfl (Ev.bindC (binds_ev hbd (fun p hp => (hg p hp).1) (by omega)) ?_)⟩
  intro _ ds h0; cases h0
  refine ⟨rfl, Ev.yes (and_tt rfl (by simp only [plainDs, List.all_cons, List.all_nil, strs_plain]; rfl)) (Ev.no (by show (!(_ == _)) = false; simp) ?_)⟩
  refine Ev.bindL (sameLoop (os := wB t) (by omega) (wB t).length 0 rfl (Nat.zero_le _)) (fun ds h => by obtain ⟨_, h⟩ := h; cases h) fun ds h => ?_
  obtain ⟨_, h⟩ := h
  cases h
  exact Ev.yes rfl (Ev.ret rfl)
end Go.Proofs.YtalibicpmfbieaaGreatDoor
