/- ParseDeep, plain. -/
import Derived.Test.YtalibicpmfbieaaGreatDoorYeC
namespace Go.Proofs.YtalibicpmfbieaaGreatDoor
open Go.AE
set_option linter.unusedVariables false
set_option linter.unusedSimpArgs false
theorem plc_line : ∀ (ts : List D) (c : Int), ∀ y ∈ plc c ts, ∃ (k : Int) (w : List UInt8) (g : Int), y = tokD k w 1 1 g
  | [], _, y, hy => by cases hy
  | x :: ts, c, y, hy => by
    unfold plc at hy
    rcases List.mem_cons.1 hy with rfl | hy
    · exact ⟨_, _, _, rfl⟩
    · exact plc_line ts _ y hy
def aR (y : D) : Prop := ∃ a b e, y = PE 2 a b e [97] []
theorem aR_is (y : D) (h : aR y) : IsE y := by obtain ⟨_, _, _, rfl⟩ := h; exact ⟨_, _, _, _, _, _, rfl⟩
def aW1 : List Tk := [(1, [97])]
theorem ok_a : okN [97] = true := by kernel_rfl
theorem aW1_ok : OkW aW1 := fun p hp => by rw [List.mem_singleton.1 hp]; simp [allW]
theorem par_a {l : List D} (hl : l.length ≤ 1000000) : ∀ (k i : Nat), TokAt l i (parW k aW1) → Nx l (i + (parW k aW1).length) cl → Ph expF l i (parW k aW1).length aR (1 + k)
  | 0, i, ht, hn => by
    have ht : (∃ a b e, l[i]? = some (tk 1 [97] a b e)) ∧ TokAt l (i + 1) [] := ht
    have hn : Nx l (i + 1) cl := hn
    obtain ⟨a, b, e, g⟩ := ht.1
    have O := one_name (l := l) (i := i) hl ok_a ht.1 (hn.mono cl_cu) cu_name
    have O : Ph oneF l i 1 aR 0 := O
    exact (expr_unary hl aR_is ⟨_, _, a, b, e, g⟩ hn (unary_of_one aR_is ⟨_, _, a, b, e, g, .inl (by decide)⟩ O)).mono (fun _ h => h) (by omega)
  | k + 1, i, ht, hn => by
    have ht : (∃ a b e, l[i]? = some (tk 3 [40] a b e)) ∧ TokAt l (i + 1) (parW k aW1 ++ [(3, [41])]) := ht
    obtain ⟨h1, h2⟩ := TokAt_app.1 ht.2
    have hc := h2.1
    have I := par_a hl k (i + 1) h1 (nx_of hc rfl)
    have O := one_paren hl aR_is ht.1 I hc
    have e : 1 + (parW k aW1).length + 1 = (parW (k + 1) aW1).length := by simp only [parW, List.length_cons, List.length_append, List.length_nil]; omega
    have O := O.cast e
    obtain ⟨a, b, e, g⟩ := ht.1
    exact (expr_unary hl aR_is ⟨_, _, a, b, e, g⟩ hn (unary_of_one aR_is ⟨_, _, a, b, e, g, .inr (.inl rfl)⟩ O)).mono (fun _ h => h) (by omega)
theorem par_at : ∀ (q k i : Nat) {l : List D}, q ≤ k → TokAt l i (parW k aW1) → (∀ r, i ≤ r → r < i + q → ∃ a b e, l[r]? = some (tk 3 [40] a b e)) ∧ ∃ (kk : Int) (t : List UInt8) (a b e : Int), l[i + q]? = some (tk kk t a b e)
  | 0, 0, i, l, _, ht => ⟨fun r h1 h2 => by omega, by
    have ht : (∃ a b e, l[i]? = some (tk 1 [97] a b e)) ∧ TokAt l (i + 1) [] := ht
    obtain ⟨a, b, e, h⟩ := ht.1
    exact ⟨_, _, a, b, e, h⟩⟩
  | 0, k + 1, i, l, _, ht => ⟨fun r h1 h2 => by omega, by
    have ht : (∃ a b e, l[i]? = some (tk 3 [40] a b e)) ∧ TokAt l (i + 1) (parW k aW1 ++ [(3, [41])]) := ht
    obtain ⟨a, b, e, h⟩ := ht.1
    exact ⟨_, _, a, b, e, h⟩⟩
  | q + 1, k + 1, i, l, hq, ht => by
    have ht : (∃ a b e, l[i]? = some (tk 3 [40] a b e)) ∧ TokAt l (i + 1) (parW k aW1 ++ [(3, [41])]) := ht
    obtain ⟨h1, h2⟩ := par_at q k (i + 1) (by omega) (TokAt_app.1 ht.2).1
    refine ⟨fun r hr1 hr2 => ?_, by rw [show i + (q + 1) = i + 1 + q from by omega]; exact h2⟩
    by_cases h : r = i
    · rw [h]; exact ht.1
    · exact h1 r (by omega) (by omega)
theorem rdeep_len (n : Nat) : (parW n aW1).length = 1 + 2 * n := by rw [parW_len]; rfl
/-- Too deep: the error, on the one line. -/
theorem read_deep {n : Nat} (h1 : 39 ≤ n) (h2 : n ≤ 60) : Ev (fun n' => law10_Read n' (.str ((hdS ++ txS (parW n aW1)) ++ tlS))) fun r => ∃ (ts : List D) (a g : Int), r = (true, [.lst 7 [], .lst 5 ts, .agg [.int .i64 a, .int .i64 1, .int .i64 g], .int .i64 8]) := by
  have hX : OkW (parW n aW1) := parW_ok aW1_ok n
  have hlen := rdeep_len n
  have hOk : OkW (hdW ++ (parW n aW1 ++ tlW)) := hd_ok.app (hX.app tl_ok)
  have h3 := txS_le hX
  have hs : ((hdS ++ txS (parW n aW1)) ++ tlS).length ≤ 12000 := by
    have : hdS.length = 26 := rfl
    have : tlS.length = 11 := rfl
    simp only [List.length_append]; omega
  have hA : Again (1, 1) ((hdS ++ txS (parW n aW1)) ++ tlS) (plc 1 (tD (hdW ++ (parW n aW1 ++ tlW)))) := by
    rw [← hdS_is, ← txS_app, ← src_txt]; exact again_join _ (tD_w hOk)
  have hlex := lexAgain_ev hs hA
  have T0 := tokAt_plc (hdW ++ (parW n aW1 ++ tlW)) [] []
  rw [List.append_nil, List.nil_append] at T0
  have hl : (plc 1 (tD (hdW ++ (parW n aW1 ++ tlW)))).length = 10 + (parW n aW1).length := by
    rw [plc_len, tD_len]
    have : hdW.length = 8 := rfl
    have : tlW.length = 2 := rfl
    simp only [List.length_append]; omega
  have hT := plc_toks 1 (tD (hdW ++ (parW n aW1 ++ tlW)))
  have hP := plc_line (tD (hdW ++ (parW n aW1 ++ tlW))) 1
  generalize plc 1 (tD (hdW ++ (parW n aW1 ++ tlW))) = l at hlex T0 hl hT hP
  obtain ⟨T1, T2⟩ := TokAt_app.1 T0
  obtain ⟨T2, _⟩ := TokAt_app.1 T2
  rw [show ([] : List Tk).length + hdW.length = 8 from rfl] at T2
  obtain ⟨⟨a7, b7, e7, g1⟩, ⟨a8, b8, e8, g2⟩, ⟨a9, b9, e9, g3⟩, ⟨a10, b10, e10, g4⟩, ⟨a11, b11, e11, g5⟩, ⟨a1, b1, e1, g6⟩, ⟨a2, b2, e2, g7⟩, ⟨a3, b3, e3, g8⟩, _⟩ := T1
  obtain ⟨hp1, kk, t, a, b, e, hp2⟩ := par_at 39 n 8 h1 T2
  have hb : b = 1 := by
    obtain ⟨k', w', g', hh⟩ := hP _ (List.mem_of_getElem? hp2)
    unfold tk tokD at hh
    injection hh with hh
    simp only [List.cons.injEq, D.int.injEq, true_and] at hh
    exact hh.2.2.2.1
  subst hb
  have hTk : Tks l := fun y hy => by obtain ⟨k, w, a, b, c, h⟩ := hT y hy; exact ⟨k, w, a, b, c, h⟩
  have H := fz_deep (l := l) (j := 47) (by omega) hTk hp2 39 8 rfl (by omega) fun r hr1 hr2 => hp1 r hr1 hr2
  have G := ok_nms
  have gm : goodN [109] = true := okN_goodN (List.all_eq_true.1 G _ (by simp))
  have gy : goodN [121] = true := okN_goodN (List.all_eq_true.1 G _ (by simp))
  have hp := fz_parse (l := l) (by omega) hTk g1 g2 gm g3 g4 g5 g6 g7 gy g8 H
  refine Ev.eq (fun n => law10_Read_eq n _) (Ev.bindC hlex ?_)
  intro _ ds h; cases h
  refine ⟨rfl, Ev.yes (and_tt rfl (plain3T hT)) (Ev.no rfl (Ev.bindC hp ?_))⟩
  (intro _ ds h0; cases h0; refine ⟨rfl, Ev.yes rfl ?_⟩)
  exact Ev.ret ⟨l, a, e, rfl⟩
def shT : Nat → List UInt8
  | 0 => []
  | k + 1 => shT k ++ [32, 41]
theorem shT_len : ∀ k, (shT k).length = 2 * k
  | 0 => rfl
  | k + 1 => by simp only [shT, List.length_append, List.length_cons, List.length_nil, shT_len k]; omega
theorem shT_is : ∀ k, shT k ++ [32] = [32] ++ rep2 41 k
  | 0 => rfl
  | k + 1 => by
    show (shT k ++ [32, 41]) ++ [32] = [32] ++ (rep2 41 k ++ [41, 32])
    rw [← List.append_assoc, ← shT_is k]; simp
theorem src_deep (n : Nat) : (((hdS ++ rep2 40 n) ++ [97]) ++ shT n) ++ [32, 59, 32, 101, 110, 100, 109, 111, 100, 117, 108, 101] = (hdS ++ txS (parW n aW1)) ++ tlS := by
  rw [parW_txt]
  have e : txS aW1 = [97, 32] := rfl
  have e2 : ([32, 59, 32, 101, 110, 100, 109, 111, 100, 117, 108, 101] : List UInt8) = [32] ++ tlS := rfl
  have e3 : [97, 32] ++ rep2 41 n = [97] ++ (shT n ++ [32]) := by rw [shT_is]; rfl
  rw [e, e2]
  simp only [List.append_assoc] at e3 ⊢
  rw [show ([97, 32] : List UInt8) ++ (rep2 41 n ++ tlS) = ([97, 32] ++ rep2 41 n) ++ tlS from (List.append_assoc ..).symm, e3]
  simp only [List.append_assoc]
theorem deepLoop {n : Nat} (hn : n ≤ 60) (m0 : Int) : ∀ (m i : Nat), n - i = m → i ≤ n →
    Ev (fun n' => law10_ParseDeep_L0 n' (.int .i64 (n : Int)) (.int .i64 m0) (.str (rep2 40 i)) (.str (shT i)) (.int .i64 (n : Int)) (.int .i64 (i : Int))) fun r => r = (false, [.int .i64 (n : Int), .int .i64 m0, .str (rep2 40 n), .str (shT n), .int .i64 (n : Int), .int .i64 (n : Int)]) := by
  intro m
  induction m with
  | zero =>
    intro i hm hi
    have : i = n := by omega
    subst this
    exact Ev.eq (fun n => law10_ParseDeep_L0_eq n _ _ _ _ _ _) (Ev.no (decide_eq_false (by omega)) (Ev.ret rfl))
  | succ m ih =>
    intro i hm hi
    have I := ih (i + 1) (by omega) (by omega)
    rw [← wrap_succ (by omega)] at I
    exact Ev.eq (fun n => law10_ParseDeep_L0_eq n _ _ _ _ _ _) (Ev.yes (decide_eq_true (by omega)) (Ev.yes (decide_eq_true (by rw [rep2_len]; simp only [maxStr]; omega)) (Ev.yes (decide_eq_true (by rw [shT_len]; simp only [maxStr]; omega)) I)))
def nmsT (k : Nat) : List (List UInt8) := (List.range k).map nmM
theorem nmsT_len (k : Nat) : (nmsT k).length = k := by simp [nmsT]
theorem nmsT_get {k j : Nat} (h : j < (nmsT k).length) : (nmsT k)[j] = nmM j := by simp [nmsT]
theorem nmsT_ok {k : Nat} (hk : k ≤ 45) : ∀ nm ∈ nmsT k, NmOk nm := fun nm h => by
  obtain ⟨r, hr, rfl⟩ := List.mem_map.1 h
  exact ⟨nmM_wd (by have := List.mem_range.1 hr; omega), rfl⟩
theorem nmsT_nms {k : Nat} (hk : k ≤ 45) : Nms (nmsT k) := by
  refine ⟨fun nm h => ?_, fun i j hi hj hij => ?_⟩
  · obtain ⟨r, hr, rfl⟩ := List.mem_map.1 h
    exact nmM_good r (by have := List.mem_range.1 hr; omega)
  · rw [nmsT_get, nmsT_get]
    rw [nmsT_len] at hi hj
    exact nmM_ne i (by omega) j (by omega) hij
theorem nmsT_succ (k : Nat) : nmsT (k + 1) = nmsT k ++ [nmM k] := by simp [nmsT, List.range_succ]
theorem nmsT_cons (k : Nat) : ∃ u, nmsT (k + 1) = nmM 0 :: u ∧ u.length = k := by
  refine ⟨(nmsT (k + 1)).drop 1, ?_, by simp [nmsT]⟩
  have h : 0 < (nmsT (k + 1)).length := by rw [nmsT_len]; omega
  have := List.drop_eq_getElem_cons h
  rw [List.drop_zero, nmsT_get] at this
  exact this
theorem byte1 : ∀ r : Nat, r ≤ 45 → UInt8.ofNat (IntKind.i32.wrap (IntKind.i64.wrap (97 + ((r : Int).tmod 26)))).toNat = UInt8.ofNat (97 + r % 26) ∧ (decide (0 ≤ (IntKind.i32.wrap (IntKind.i64.wrap (97 + ((r : Int).tmod 26))))) && decide ((IntKind.i32.wrap (IntKind.i64.wrap (97 + ((r : Int).tmod 26)))) < 128)) = true := by decide +kernel
theorem byte2 : ∀ r : Nat, r ≤ 45 → UInt8.ofNat (IntKind.i32.wrap (IntKind.i64.wrap (97 + (IntKind.i64.wrap ((r : Int).tdiv 26))))).toNat = UInt8.ofNat (97 + r / 26) ∧ (decide (0 ≤ (IntKind.i32.wrap (IntKind.i64.wrap (97 + (IntKind.i64.wrap ((r : Int).tdiv 26)))))) && decide ((IntKind.i32.wrap (IntKind.i64.wrap (97 + (IntKind.i64.wrap ((r : Int).tdiv 26))))) < 128)) = true := by decide +kernel
theorem modsLoop {k : Nat} (hk : k ≤ 45) (x y z : Int) : ∀ (m i : Nat), k - i = m → i ≤ k →
    Ev (fun n => law10_ParseDeep_L2 n (.int .i64 (k : Int)) (.str (lnsT (nmsT i))) (.int .i64 (k : Int)) (.int .i64 (i : Int)) (.int .i64 x) (.int .i64 y) (.int .i64 z)) fun r => r = (false, [.int .i64 (k : Int), .str (lnsT (nmsT k)), .int .i64 (k : Int), .int .i64 (k : Int), .int .i64 x, .int .i64 y, .int .i64 z]) := by
  intro m
  induction m with
  | zero =>
    intro i hm hi
    have : i = k := by omega
    subst this
    exact Ev.eq (fun n => law10_ParseDeep_L2_eq n _ _ _ _ _ _ _) (Ev.no (decide_eq_false (by omega)) (Ev.ret rfl))
  | succ m ih =>
    intro i hm hi
    have I := ih (i + 1) (by omega) (by omega)
    rw [← wrap_succ (by omega), nmsT_succ, lnsT_app] at I
    obtain ⟨b1, b2⟩ := byte1 i (by omega)
    obtain ⟨b3, b4⟩ := byte2 i (by omega)
    have hl := lnsT_len (nmsT i) fun nm h => (nmsT_ok (by omega) nm h).2
    rw [nmsT_len] at hl
    refine Ev.eq (fun n => law10_ParseDeep_L2_eq n _ _ _ _ _ _ _) (Ev.yes (decide_eq_true (by omega)) (Ev.yes b2 (Ev.yes rfl (Ev.yes b4 (Ev.yes rfl (Ev.yes rfl ?_))))))
    rw [b1, b3]
    have e : lnsT [nmM i] = ((([109, 111, 100, 117, 108, 101, 32, 109] : List UInt8) ++ [UInt8.ofNat (97 + i % 26)]) ++ [UInt8.ofNat (97 + i / 26)]) ++ [32, 40, 32, 41, 32, 59, 32, 101, 110, 100, 109, 111, 100, 117, 108, 101, 10] := rfl
    rw [e] at I
    refine Ev.yes (decide_eq_true ?_) I
    show (lnsT (nmsT i)).length + 27 ≤ maxStr
    simp only [maxStr]; omega
theorem read_lns {s : List UInt8} {ts ms : List D} {a b g e : Int} (ha : Agn (1, 1) s ts) (hs : s.length ≤ 900000) (ht : ts.length ≤ 12000) (hT : Tks ts) (hp : Ev (fun n => parse_Parse n (.lst 5 ts)) fun r => r = (true, [.agg [.int .i64 a, .int .i64 b, .int .i64 g], .int .i64 e, .lst 7 ms])) :
    Ev (fun n => law10_Read n (.str s)) fun r => r = (true, [.lst 7 ms, .lst 5 ts, .agg [.int .i64 a, .int .i64 b, .int .i64 g], .int .i64 e]) := by
  have hT2 : Toks ts := fun y hy => by obtain ⟨k, w, a, b, c, h⟩ := hT y hy; exact ⟨k, w, a, b, c, h⟩
  refine Ev.eq (fun n => law10_Read_eq n s) (Ev.bindC (agnLex_ev hs ht ha) ?_)
  intro _ ds h; cases h
  refine ⟨rfl, Ev.yes (and_tt rfl (plain3T hT2)) (Ev.no rfl (Ev.bindC hp ?_))⟩
  (intro _ ds h0; cases h0; refine ⟨rfl, Ev.yes rfl ?_⟩)
  exact Ev.ret rfl
theorem deep_j1 (m0 : Int) (r2 r3 : List D) (h2 : (nth r2 1).i = m0) : Ev (fun n => law10_ParseDeep_j1 n false r2 r3) fun r => r = (true, [.bool true]) := by
  obtain ⟨k, hk1, hk, ek⟩ : ∃ k : Nat, 1 ≤ k ∧ k ≤ 45 ∧ max 1 (min m0 45) = (k : Int) := ⟨(max 1 (min m0 45)).toNat, by omega, by omega, by omega⟩
  have hok := nmsT_ok hk
  have hl := lnsT_len (nmsT k) fun nm h => (hok nm h).2
  have hK := lnsK_len 1 (nmsT k)
  rw [nmsT_len] at hl hK
  refine evDf (fun n => law10_ParseDeep_j1_def n _ _ _) (Ev.no rfl ?_)
  rw [h2, ek]
  refine Ev.bindL (modsLoop hk _ _ _ k 0 rfl (Nat.zero_le _)) (fun ds h => by cases h) fun ds h => ?_
  cases h
  refine Ev.yes rfl ?_
  have hR := fun {ms a b g e} => read_lns (ms := ms) (a := a) (b := b) (g := g) (e := e) (agn_all hok) (by omega) (by omega) (lnsK_toks 1 (nmsT k))
  by_cases h40 : 40 < k
  · have P := mods_much (u := nmsT k) (by rw [nmsT_len]; omega) (by rw [nmsT_len]; exact h40) (by
      have hn := nmsT_nms hk
      refine ⟨fun x hx => hn.1 x (List.mem_of_mem_take hx), fun i j hi hj hij => ?_⟩
      rw [List.getElem_take, List.getElem_take]
      exact hn.2 i j _ _ hij) (fun x hx => by
        obtain ⟨r, _, rfl⟩ := List.mem_map.1 hx; rfl)
    refine Ev.bindC (hR P) ?_
    (intro _ ds h0; cases h0; refine ⟨rfl, Ev.yes rfl ?_⟩)
    exact Ev.yes (decide_eq_true (by show (40 : Int) < (k : Int); omega)) (Ev.yes rfl (Ev.yes rfl (Ev.ret rfl)))
  · have P := mods_ok (u := nmsT k) (by rw [nmsT_len]; omega) (nmsT_nms hk)
    refine Ev.bindC (hR P) ?_
    (intro _ ds h0; cases h0; refine ⟨rfl, Ev.yes rfl ?_⟩)
    have h0 : NmOk (nmM 0) := ⟨nmM_wd (by decide), rfl⟩
    have hl2 : (lnsT (nmsT k) ++ lnT (nmM 0)).length = 27 * k + 26 := by rw [List.length_append, hl]; rfl
    have hK2 := lnsK_len 1 (nmsT k ++ [nmM 0])
    rw [List.length_append, nmsT_len] at hK2
    have hR2 := fun {ms a b g e} => read_lns (ms := ms) (a := a) (b := b) (g := g) (e := e) (agn_more hok h0) (by omega) (by rw [hK2]; show 6 * (k + 1) ≤ _; omega) (lnsK_toks 1 (nmsT k ++ [nmM 0]))
    have hlen : ((acM 1 (nmsT k)).length : Int) = (k : Int) := by rw [acM_len, nmsT_len]
    refine Ev.no (decide_eq_false (by show ¬ ((40 : Int) < (k : Int)); omega)) (Ev.yes (decide_eq_true (by show (lnsT (nmsT k)).length + 26 ≤ maxStr; simp only [maxStr]; omega)) ?_)
    by_cases h : k < 40
    · obtain ⟨u, hu, hul⟩ := nmsT_cons (k - 1)
      rw [show k - 1 + 1 = k from by omega] at hu
      have P2 := mods_twice (nm := nmM 0) (u := u) (by omega) (by rw [← hu]; exact nmsT_nms hk)
      rw [← hu] at P2
      refine Ev.bindC (hR2 P2) ?_
      (intro _ ds h0; cases h0; refine ⟨rfl, Ev.yes rfl ?_⟩)
      refine Ev.yes (decide_eq_true (by show (k : Int) < (40 : Int); omega)) (Ev.no rfl (Ev.no ?_ (Ev.yes rfl (Ev.ret ?_))))
      · show (!((1 : Int) == 1 && ((((u.length + 2 : Nat)) : Int) == IntKind.i64.wrap ((k : Int) + 1) && ((1 : Int) == 1 && true)))) = false
        rw [wrap_succ (by omega), show u.length + 2 = k + 1 from by omega]
        simp
      · show (true, [D.bool (((acM 1 (nmsT k)).length : Int) == (k : Int))]) = _
        rw [hlen, beq_self_eq_true]
    · have : k = 40 := by omega
      subst this
      have ht : (nmsT 40 ++ [nmM 0]).take 40 = nmsT 40 := by
        have := List.take_left (l₁ := nmsT 40) (l₂ := [nmM 0])
        rwa [nmsT_len] at this
      have P2 := mods_much (u := nmsT 40 ++ [nmM 0]) (by rw [List.length_append, nmsT_len]; decide) (by rw [List.length_append, nmsT_len]; decide) (by rw [ht]; exact nmsT_nms hk) (fun x hx => by
        rcases List.mem_append.1 hx with h | h
        · obtain ⟨r, _, rfl⟩ := List.mem_map.1 h; rfl
        · rw [List.mem_singleton.1 h]; rfl)
      refine Ev.bindC (hR2 P2) ?_
      (intro _ ds h0; cases h0; refine ⟨rfl, Ev.yes rfl ?_⟩)
      refine Ev.no rfl (Ev.yes rfl (Ev.ret ?_))
      show (true, [D.bool (((acM 1 (nmsT 40)).length : Int) == ((40 : Nat) : Int))]) = _
      rw [hlen, beq_self_eq_true]
theorem parseDeep_plain (n0 m0 : Int) : Ev (fun n => law10_ParseDeep n (.int .i64 n0) (.int .i64 m0)) fun r => r = (true, [.bool true]) := by
  obtain ⟨k, hk, ek⟩ : ∃ k : Nat, k ≤ 60 ∧ max 0 (min n0 60) = (k : Int) := ⟨(max 0 (min n0 60)).toNat, by omega, by omega⟩
  refine Ev.eq (fun n => law10_ParseDeep_eq n n0 m0) (Ev.bindC awake10 ?_)
  (intro _ ds h0; cases h0; refine ⟨rfl, Ev.yes rfl ?_⟩)
  refine Ev.no rfl ?_
  rw [ek]
  refine Ev.bindL (deepLoop hk m0 k 0 rfl (Nat.zero_le _)) (fun ds h => by cases h) fun ds h => ?_
  cases h
  have r1 := rep2_len 40 k
  have r2 := shT_len k
  refine Ev.yes rfl (Ev.yes (decide_eq_true (by show 26 + (rep2 40 k).length ≤ maxStr; simp only [maxStr]; omega)) (Ev.yes (decide_eq_true (by show (hdS ++ rep2 40 k).length + 1 ≤ maxStr; rw [List.length_append, r1]; show 26 + _ + 1 ≤ maxStr; simp only [maxStr]; omega)) (Ev.yes (decide_eq_true (by show ((hdS ++ rep2 40 k) ++ [97]).length + (shT k).length ≤ maxStr; rw [List.length_append, List.length_append, r1, r2]; show 26 + _ + 1 + _ ≤ maxStr; simp only [maxStr]; omega)) (Ev.yes (decide_eq_true (by show (((hdS ++ rep2 40 k) ++ [97]) ++ shT k).length + 12 ≤ maxStr; rw [List.length_append, List.length_append, List.length_append, r1, r2]; show 26 + _ + 1 + _ + 12 ≤ maxStr; simp only [maxStr]; omega)) ?_))))
  by_cases h : k ≤ 38
  · have hlen := rdeep_len k
    have R := read_x (X := parW k aW1) (R := aR) (h := 1 + k) aR_is (parW_ok aW1_ok k) (by omega) (by omega) fun l hl ht hn => par_a hl k 8 ht hn
    rw [← src_deep] at R
    refine Ev.bindC R ?_
    rintro _ ds ⟨u, a, b, e, a1, b1, e1, a2, b2, e2, ts, hu, h0⟩
    cases h0
    exact ⟨rfl, Ev.yes rfl (Ev.no (decide_eq_false (by show ¬ ((38 : Int) < (k : Int)); omega)) (Ev.yes (decide_eq_true (by show (k : Int) ≤ 38; omega)) (deep_j1 m0 _ _ rfl)))⟩
  · have R := read_deep (n := k) (by omega) hk
    rw [← src_deep] at R
    refine Ev.bindC R ?_
    rintro _ ds ⟨ts, a, g, h0⟩
    cases h0
    exact ⟨rfl, Ev.yes rfl (Ev.yes (decide_eq_true (by show (38 : Int) < (k : Int); omega)) (Ev.no rfl (Ev.no rfl (Ev.no (decide_eq_false (by show ¬ ((k : Int) ≤ 38); omega)) (deep_j1 m0 _ _ rfl)))))⟩
end Go.Proofs.YtalibicpmfbieaaGreatDoor
