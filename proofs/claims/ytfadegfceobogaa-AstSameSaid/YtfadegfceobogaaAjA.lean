/- AstJoins: an expression of two others. -/
import Derived.Test.YtfadegfceobogaaAstAsks
import Derived.Test.YtfadegfceobogaaMapL
namespace Go.Proofs.Ytfadegfceobogaa
open Go.AE
set_option linter.unusedVariables false
set_option linter.unusedSimpArgs false
theorem SS_nodup : ∀ {l : List (List UInt8)}, SS l → l.Nodup
  | [], _ => by simp
  | x :: l, ⟨h1, h2⟩ => List.nodup_cons.2 ⟨fun k => (by have := h1 x k; rw [lt_irrefl] at this; cases this), SS_nodup h2⟩
theorem SS_adj : ∀ {l : List (List UInt8)} {j : Nat}, SS l → (h : j + 1 < l.length) → lt (l[j]'(by omega)) l[j + 1] = true
  | [], _, _, h => by simp at h
  | x :: l, 0, ⟨h1, _⟩, h => h1 _ (by simp only [List.getElem_cons_succ]; exact List.getElem_mem _)
  | x :: l, j + 1, ⟨_, h2⟩, h => by
    have := SS_adj (l := l) (j := j) h2 (by simpa using h)
    simpa using this
theorem SS_drop : ∀ {l : List (List UInt8)} {j : Nat} (_ : SS l) (h : j < l.length), ∀ y ∈ l.drop (j + 1), l[j] ≠ y
  | [], _, _, h => by simp at h
  | x :: l, 0, ⟨h1, _⟩, _ => fun y hy e => by
    have := h1 y (by simpa using hy)
    have e : x = y := e
    rw [e, lt_irrefl] at this; cases this
  | x :: l, j + 1, ⟨_, h2⟩, h => fun y hy => by
    have := SS_drop (l := l) (j := j) h2 (by simpa using h) y (by simpa using hy)
    simpa using this
section
variable {a0 a2 a3 a4 a5 a8 a9 a10 a11 a14 a15 a16 a17 : Int} {a6 a12 a18 : List UInt8} {a7 a13 a21 : List D}
theorem joins0_is (l : List (List UInt8)) (hl : l.length ≤ 1000000) : ∀ (m j : Nat) (M : Env0), l.length - j = m → j ≤ l.length → M.length ≤ j →
    Ev (fun n => law09_AstJoins_L0 n (.int .i64 ((l.map D.str).length : Int)) (.int .i64 (j : Int)) (.int .i64 a2) (.int .i64 a3) (.int .i64 a4) (.int .i64 a5) (.str a6) (.lst 6 a7) (.int .i64 a8) (.int .i64 a9) (.int .i64 a10) (.int .i64 a11) (.str a12) (.lst 6 a13) (.int .i64 a14) (.int .i64 a15) (.int .i64 a16) (.int .i64 a17) (.str a18)
      (.lst 2 (M.map nmD)) (.lst 1 (l.map D.str)) (.lst 6 a21)) fun r => ∃ p q : Int, r = (false, [.int .i64 p, .int .i64 q, .int .i64 a2, .int .i64 a3, .int .i64 a4, .int .i64 a5, .str a6, .lst 6 a7, .int .i64 a8, .int .i64 a9, .int .i64 a10, .int .i64 a11, .str a12, .lst 6 a13, .int .i64 a14, .int .i64 a15, .int .i64 a16, .int .i64 a17, .str a18,
        .lst 2 ((allF 1 (l.drop j) M).map nmD), .lst 1 (l.map D.str), .lst 6 a21]) := by
  intro m
  induction m with
  | zero =>
    intro j M hm hj hM
    have : j = l.length := by omega
    subst this
    rw [List.drop_length]
    exact Ev.eq (fun n => law09_AstJoins_L0_eq n _ _ _ _ _ _ _ _ _ _ _ _ _ _ _ _ _ _ _ _ _ _) (Ev.no (decide_eq_false (by rw [List.length_map]; omega)) (Ev.ret ⟨_, _, rfl⟩))
  | succ m ih =>
    intro j M hm hj hM
    have hj2 : j < l.length := by omega
    have hj3 : j < (l.map D.str).length := by rw [List.length_map]; exact hj2
    refine Ev.eq (fun n => law09_AstJoins_L0_eq n _ _ _ _ _ _ _ _ _ _ _ _ _ _ _ _ _ _ _ _ _ _) (Ev.yes (decide_eq_true (by omega)) (Ev.yes (in_range hj3) ?_))
    rw [get_nat hj3, List.getElem_map, wrap_succ (by omega)]
    have nx := ih (j + 1) (withF l[j] 1 M) (by omega) hj2 (by have := withF_len l[j] 1 M; omega)
    rw [← put_is] at nx
    rw [drop_cons hj2]
    exact Ev.yes rfl (Ev.yes (Nat.ble_eq_true_of_le (by rw [List.length_map]; simp only [maxLst]; omega)) nx)
theorem joins2_is (l : List (List UInt8)) (hl : l.length ≤ 1000000) (hS : SS l) (N : Nat) (hN : N ≤ 1000000) : ∀ (m j : Nat) (M : Env0), l.length - j = m → j ≤ l.length → M.length = N → (∀ s ∈ l.drop j, lookF s M = some 1) →
    Ev (fun n => law09_AstJoins_L2 n (.int .i64 ((l.map D.str).length : Int)) (.int .i64 (j : Int)) (.int .i64 a2) (.int .i64 a3) (.int .i64 a4) (.int .i64 a5) (.str a6) (.lst 6 a7) (.int .i64 a8) (.int .i64 a9) (.int .i64 a10) (.int .i64 a11) (.str a12) (.lst 6 a13) (.int .i64 a14) (.int .i64 a15) (.int .i64 a16) (.int .i64 a17) (.str a18)
      (.lst 2 (M.map nmD)) (.lst 1 (l.map D.str)) (.lst 6 a21)) fun r => ∃ (p q : Int) (M : Env0), M.length = N ∧ r = (false, [.int .i64 p, .int .i64 q, .int .i64 a2, .int .i64 a3, .int .i64 a4, .int .i64 a5, .str a6, .lst 6 a7, .int .i64 a8, .int .i64 a9, .int .i64 a10, .int .i64 a11, .str a12, .lst 6 a13, .int .i64 a14, .int .i64 a15, .int .i64 a16, .int .i64 a17, .str a18,
        .lst 2 (M.map nmD), .lst 1 (l.map D.str), .lst 6 a21]) := by
  intro m
  induction m with
  | zero =>
    intro j M hm hj hM _
    exact Ev.eq (fun n => law09_AstJoins_L2_eq n _ _ _ _ _ _ _ _ _ _ _ _ _ _ _ _ _ _ _ _ _ _) (Ev.no (decide_eq_false (by rw [List.length_map]; omega)) (Ev.ret ⟨_, _, M, hM, rfl⟩))
  | succ m ih =>
    intro j M hm hj hM hk
    have hj2 : j < l.length := by omega
    have hj3 : j < (l.map D.str).length := by rw [List.length_map]; exact hj2
    have hlook : lookF l[j] M = some 1 := hk _ (by rw [drop_cons hj2]; exact List.mem_cons_self)
    have hwl : (withF l[j] 2 M).length = N := by
      unfold withF
      cases h : idxF l[j] M with
      | none => rw [idxF_none h] at hlook; cases hlook
      | some i => simpa using hM
    have nx := ih (j + 1) (withF l[j] 2 M) (by omega) hj2 hwl (fun s hs => by
      rw [lookF_with]
      have hne := SS_drop hS hj2 s hs
      rw [show (l[j] == s) = false from by simpa using hne]
      exact hk s (by rw [drop_cons hj2]; exact List.mem_cons_of_mem _ hs))
    rw [← put_is] at nx
    have hg := mget_is l[j] M
    rw [hlook] at hg
    have go : Ev (fun n => bif Nat.ble (M.map nmD).length maxLst then law09_AstJoins_L2 n (.int .i64 ((l.map D.str).length : Int)) (.int .i64 ((j + 1 : Nat) : Int)) (.int .i64 a2) (.int .i64 a3) (.int .i64 a4) (.int .i64 a5) (.str a6) (.lst 6 a7) (.int .i64 a8) (.int .i64 a9) (.int .i64 a10) (.int .i64 a11) (.str a12) (.lst 6 a13) (.int .i64 a14) (.int .i64 a15) (.int .i64 a16) (.int .i64 a17) (.str a18)
      (.lst 2 (putM (.str l[j]) (.int .i64 2) (M.map nmD))) (.lst 1 (l.map D.str)) (.lst 6 a21) else none) _ := Ev.yes (Nat.ble_eq_true_of_le (by rw [List.length_map]; simp only [maxLst]; omega)) nx
    refine Ev.eq (fun n => law09_AstJoins_L2_eq n _ _ _ _ _ _ _ _ _ _ _ _ _ _ _ _ _ _ _ _ _ _) (Ev.yes (decide_eq_true (by omega)) (Ev.yes (in_range hj3) ?_))
    rw [get_nat hj3, List.getElem_map, wrap_succ (by omega)]
    refine Ev.yes rfl (Ev.yes (by exact congrArg (fun x => notAny (.leaf (.int .i64)) && okTy (.leaf (.int .i64)) x) hg) (Ev.no ?_ ?_))
    · show ((getM (.int .i64 0) (.str l[j]) (M.map nmD)).i != 1) = false
      rw [hg]; rfl
    · refine Ev.test (fun hp => ?_) fun _ => go
      have hp := of_decide_eq_true hp
      obtain ⟨i, rfl⟩ : ∃ i, j = i + 1 := ⟨j - 1, by omega⟩
      have hw : IntKind.i64.wrap (((i + 1 : Nat) : Int) - 1) = (i : Int) := by rw [wrap_id (by omega) (by omega)]; omega
      have hi : i < (l.map D.str).length := by rw [List.length_map]; omega
      rw [hw]
      refine Ev.yes (in_range hi) ?_
      rw [get_nat hi, List.getElem_map]
      refine Ev.yes rfl (Ev.no ?_ go)
      have := SS_adj hS hj2
      show (!(lt l[i] l[i + 1])) = false
      rw [this]; rfl
end
/-- The names of an expression, in order. -/
def namesU (d : Nat) (x : D) : List (List UInt8) := (nmE d x).foldl (fun o t => insU t o) []
theorem namesU_ev {d : Nat} {x : D} (h : wfE d x) (hd : d ≤ 10) : Ev (fun n => ast_Names n x) fun r => r = (true, [.lst 1 ((namesU d x).map D.str)]) := by
  have := names_ev h hd
  rw [comp_sort] at this
  exact this
theorem namesU_len {d : Nat} {x : D} (h : wfE d x) : (namesU d x).length ≤ 4 ^ d := by
  have h1 := len_foldU (l := nmE d x) (s := [])
  have h2 := nmE_le _ _ h
  have z : ([] : List (List UInt8)).length = 0 := rfl
  unfold namesU; omega
theorem cat_wf {x y : D} (hx : wfE 4 x) (hy : wfE 4 y) : wfE 5 (E 6 [] [x, y]) := by
  refine ⟨6, [], _, rfl, .inr (.inr (.inr (.inr (.inr (.inl ⟨rfl, rfl, by simp, by simp⟩))))), fun a ha => ?_⟩
  rcases List.mem_cons.1 ha with rfl | ha
  · exact hx
  · rcases List.mem_cons.1 ha with rfl | ha
    · exact hy
    · cases ha
theorem cat_names {x y : D} (s : List UInt8) : s ∈ namesU 5 (E 6 [] [x, y]) ↔ s ∈ namesU 4 x ++ namesU 4 y := by
  have ex : nmE 5 (E 6 [] [x, y]) = nmE 4 x ++ nmE 4 y := by
    rw [nmE_E]; simp [nk]
  unfold namesU
  rw [ex]
  simp only [mem_foldU, List.mem_append, List.not_mem_nil, or_false]
theorem texts_plain (l : List (List UInt8)) : (l.map D.str).all plainD = true := List.all_eq_true.2 fun y hy => by
  obtain ⟨s, _, rfl⟩ := List.mem_map.1 hy
  rfl
theorem astJoins_plain {b1 b2 : List D} (h1 : Bytes b1) (h2 : Bytes b2) : Ev (fun n => law09_AstJoins n (.lst 1 b1) (.lst 1 b2)) fun r => r = (true, [.bool true]) := by
  refine Ev.eq (fun n => law09_AstJoins_eq n b1 b2) ?_
  refine Ev.bindC awake09 ?_
  intro _ ds h; cases h; refine ⟨rfl, Ev.yes rfl (Ev.no rfl ?_)⟩
  refine Ev.bindC (short_ev h1) ?_
  rintro _ _ ⟨c1, h, hc1, hl1⟩; cases h; refine ⟨rfl, Ev.yes rfl ?_⟩
  refine Ev.bindC (makeExpr_ev 3 4 (by decide) (by decide) (by decide) c1 0 ⟨hc1, hl1, Int.le_refl _, by omega⟩) ?_
  rintro _ _ ⟨x, p, h, hx, _⟩; cases h; refine ⟨rfl, ?_⟩
  have hx0 : wfE 4 x := hx
  obtain ⟨kx, tx, ax, rfl, sx, wx⟩ := hx
  refine Ev.yes rfl ?_
  refine Ev.bindC (show Ev (fun n => law09_OwnExpr n (E kx tx ax)) _ from own_ev _ _ hx0) ?_
  intro _ ds h; cases h; refine ⟨rfl, Ev.yes rfl ?_⟩
  refine Ev.bindC (short_ev h2) ?_
  rintro _ _ ⟨c2, h, hc2, hl2⟩; cases h; refine ⟨rfl, Ev.yes rfl ?_⟩
  refine Ev.bindC (makeExpr_ev 3 4 (by decide) (by decide) (by decide) c2 0 ⟨hc2, hl2, Int.le_refl _, by omega⟩) ?_
  rintro _ _ ⟨y, q, h, hy, _⟩; cases h; refine ⟨rfl, ?_⟩
  have hy0 : wfE 4 y := hy
  obtain ⟨ky, ty, ay, rfl, sy, wy⟩ := hy
  refine Ev.yes rfl ?_
  refine Ev.bindC (show Ev (fun n => law09_OwnExpr n (E ky ty ay)) _ from own_ev _ _ hy0) ?_
  intro _ ds h; cases h; refine ⟨rfl, Ev.yes rfl ?_⟩
  refine Ev.bindC (show Ev (fun n => ast_Names n (E kx tx ax)) _ from namesU_ev hx0 (by decide)) ?_
  intro _ ds h; cases h; refine ⟨rfl, Ev.yes rfl ?_⟩
  refine Ev.bindC (show Ev (fun n => ast_Names n (E ky ty ay)) _ from namesU_ev hy0 (by decide)) ?_
  intro _ ds h; cases h; refine ⟨rfl, Ev.yes rfl ?_⟩
  have he := cat_wf hx0 hy0
  have hdx := dpE_le _ _ hx0
  have hdy := dpE_le _ _ hy0
  have dpe : dpE 5 (E 6 [] [E kx tx ax, E ky ty ay]) = max (max 0 (dpE 4 (E kx tx ax))) (dpE 4 (E ky ty ay)) + 1 := rfl
  have Dx := depth_ev 4 _ hx0 (by decide)
  have Dy := depth_ev 4 _ hy0 (by decide)
  have De := depth_ev 5 _ he (by decide)
  have Ne := namesU_ev he (by decide)
  have la := namesU_len hx0
  have lb := namesU_len hy0
  have le := namesU_len he
  have p4 : (4 : Nat) ^ 4 = 256 := rfl
  have p5 : (4 : Nat) ^ 5 = 1024 := rfl
  have hSe : SS (namesU 5 (E 6 [] [E kx tx ax, E ky ty ay])) := foldU_SS trivial
  have hmem := fun s => cat_names (x := E kx tx ax) (y := E ky ty ay) s
  refine Ev.yes (Nat.ble_eq_true_of_le (by simp only [nth, D.l, List.length_map, maxLst]; omega)) ?_
  have L0 := joins0_is (a2 := kx) (a3 := 0) (a4 := 0) (a5 := 0) (a6 := tx) (a7 := ax) (a8 := ky) (a9 := 0) (a10 := 0) (a11 := 0) (a12 := ty) (a13 := ay) (a14 := 6) (a15 := 0) (a16 := 0) (a17 := 0) (a18 := []) (a21 := [E kx tx ax, E ky ty ay]) (namesU 4 (E kx tx ax) ++ namesU 4 (E ky ty ay)) (by rw [List.length_append]; omega) _ 0 [] rfl (Nat.zero_le _) (Nat.le_refl _)
  rw [List.map_append, List.drop_zero] at L0
  have keys : ∀ s, s ∈ keysF (allF 1 (namesU 4 (E kx tx ax) ++ namesU 4 (E ky ty ay)) []) ↔ s ∈ namesU 4 (E kx tx ax) ++ namesU 4 (E ky ty ay) := fun s => by rw [allF_keys]; simp [keysF]
  have look : ∀ s ∈ namesU 5 (E 6 [] [E kx tx ax, E ky ty ay]), lookF s (allF 1 (namesU 4 (E kx tx ax) ++ namesU 4 (E ky ty ay)) []) = some 1 := fun s hs => allF_look (fun s hs => by cases hs) s ((keys s).2 ((hmem s).1 hs))
  have nod : (keysF (allF 1 (namesU 4 (E kx tx ax) ++ namesU 4 (E ky ty ay)) [])).Nodup := allF_nodup (by simp [keysF])
  have hlen : (namesU 5 (E 6 [] [E kx tx ax, E ky ty ay])).length = (allF 1 (namesU 4 (E kx tx ax) ++ namesU 4 (E ky ty ay)) []).length := by
    rw [← len_keysF]
    exact Nat.le_antisymm (nodup_le (SS_nodup hSe) fun s hs => (keys s).2 ((hmem s).1 hs)) (nodup_le nod fun s hs => (hmem s).2 ((keys s).1 hs))
  refine Ev.bindL L0 (fun ds h => by obtain ⟨_, _, h⟩ := h; cases h) fun ds h => ?_
  obtain ⟨p, q, h⟩ := h
  cases h
  refine Ev.yes rfl (Ev.bindC (show Ev (fun n => ast_Names n (E 6 [] [E kx tx ax, E ky ty ay])) _ from Ne) ?_)
  intro _ ds h; cases h; refine ⟨rfl, Ev.yes ?_ ?_⟩
  · show (true && (((namesU 5 (E 6 [] [E kx tx ax, E ky ty ay])).map D.str).all plainD && true)) = true
    rw [texts_plain]; rfl
  have L2 := joins2_is (a2 := kx) (a3 := 0) (a4 := 0) (a5 := 0) (a6 := tx) (a7 := ax) (a8 := ky) (a9 := 0) (a10 := 0) (a11 := 0) (a12 := ty) (a13 := ay) (a14 := 6) (a15 := 0) (a16 := 0) (a17 := 0) (a18 := []) (a21 := [E kx tx ax, E ky ty ay]) (namesU 5 (E 6 [] [E kx tx ax, E ky ty ay])) (by omega) hSe (allF 1 (namesU 4 (E kx tx ax) ++ namesU 4 (E ky ty ay)) []).length (by omega) _ 0 (allF 1 (namesU 4 (E kx tx ax) ++ namesU 4 (E ky ty ay)) []) rfl (Nat.zero_le _) rfl (by rw [List.drop_zero]; exact look)
  refine Ev.bindL L2 (fun ds h => by obtain ⟨_, _, _, _, h⟩ := h; cases h) fun ds h => ?_
  obtain ⟨p, q, M, hM, h⟩ := h
  cases h
  refine Ev.yes rfl (Ev.yes ?_ (Ev.bindC (show Ev (fun n => ast_Depth n (E 6 [] [E kx tx ax, E ky ty ay])) _ from De) ?_))
  · show (((((namesU 5 (E 6 [] [E kx tx ax, E ky ty ay])).map D.str).length : Int)) == ((M.map nmD).length : Int)) = true
    rw [List.length_map, List.length_map, hlen, hM]
    simp
  intro _ ds h; cases h; refine ⟨rfl, Ev.yes rfl (Ev.bindC (show Ev (fun n => ast_Depth n (E kx tx ax)) _ from Dx) ?_)⟩
  intro _ ds h; cases h; refine ⟨rfl, Ev.yes rfl (Ev.bindC (show Ev (fun n => ast_Depth n (E ky ty ay)) _ from Dy) ?_)⟩
  intro _ ds h; cases h; refine ⟨rfl, Ev.yes rfl (Ev.ret ?_)⟩
  show (true, [D.bool (dpE 5 (E 6 [] [E kx tx ax, E ky ty ay]) == IntKind.i64.wrap (1 + max (dpE 4 (E kx tx ax)) (dpE 4 (E ky ty ay))))]) = _
  rw [dpe]
  generalize dpE 4 (E kx tx ax) = u at *
  generalize dpE 4 (E ky ty ay) = v at *
  rw [wrap_id (by omega) (by omega)]
  have : (max (max 0 u) v + 1 == 1 + max u v) = true := by simp; omega
  rw [this]
end Go.Proofs.Ytfadegfceobogaa
