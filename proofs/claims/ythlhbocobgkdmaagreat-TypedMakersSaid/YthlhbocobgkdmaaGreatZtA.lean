/- Names with numbers; what names are: found, deleted, one more. -/
import Derived.Test.YthlhbocobgkdmaaGreatMkJ
import Derived.Test.YthlhbocobgkdmaaGreatMapL
namespace Go.Proofs.YthlhbocobgkdmaaGreat
open Go.AE
set_option linter.unusedVariables false
set_option linter.unusedSimpArgs false
theorem place1_is (s t : List UInt8) (m : Int) : Ev (fun n => konst_Env_place_1 n (.agg [.str s, .int .i64 m]) (.str t)) fun r => r = (true, [.bool (s == t), .str t]) :=
  Ev.eq (fun n => konst_Env_place_1_eq n _ _ _) (Ev.ret rfl)
theorem index_is {l : Env0} (hl : l.length ≤ 1048576) (t : List UInt8) : ∀ (m j : Nat), l.length - j = m → j ≤ l.length →
    Ev (fun n => slices_IndexFunc_named_L0 n (.lst 2 (l.map nmD)) (.int .i64 (l.length : Int)) (.int .i64 (j : Int)) (.str t)) fun r => match idxF t (l.drop j) with
      | some i => r = (true, [.int .i64 ((j + i : Nat) : Int), .str t])
      | none => ∃ j' : Int, r = (false, [.lst 2 (l.map nmD), .int .i64 (l.length : Int), .int .i64 j', .str t]) := by
  intro m
  induction m with
  | zero =>
    intro j hm hj
    rw [List.drop_eq_nil_of_le (by omega)]
    exact Ev.eq (fun n => slices_IndexFunc_named_L0_eq n _ _ _ _) (Ev.no (decide_eq_false (by omega)) (Ev.ret ⟨_, rfl⟩))
  | succ m ih =>
    intro j hm hj
    have hj2 : j < l.length := by omega
    have hj3 : j < (l.map nmD).length := by rw [List.length_map]; exact hj2
    have hw : IntKind.i64.wrap ((j : Int) + 1) = ((j + 1 : Nat) : Int) := wrap_succ (by omega)
    refine Ev.eq (fun n => slices_IndexFunc_named_L0_eq n _ _ _ _) (Ev.yes (decide_eq_true (by omega)) (Ev.yes (in_range hj3) ?_))
    rw [get_nat hj3, List.getElem_map, hw, drop_cons hj2]
    have nx := ih (j + 1) (by omega) hj2
    refine Ev.yes rfl (evCall (place1_is _ t _) (Ev.yes rfl ?_))
    show Ev (fun n => bif (l[j].1 == t) then _ else _) _
    unfold idxF
    cases hp : l[j].1 == t with
    | true => exact Ev.yes rfl (Ev.ret rfl)
    | false =>
      refine Ev.no rfl (nx.mono fun r hr => ?_)
      simp only [cond_false]
      cases hi : idxF t (l.drop (j + 1)) with
      | none =>
        rw [hi] at hr
        exact hr
      | some i =>
        rw [hi] at hr
        show r = (true, [.int .i64 ((j + (i + 1) : Nat) : Int), .str t])
        rw [show j + (i + 1) = j + 1 + i by omega]
        exact hr
theorem place_is {l : Env0} (hl : l.length ≤ 1048576) (t : List UInt8) : Ev (fun n => konst_Env_place n (.agg [.lst 2 (l.map nmD)]) (.str t)) fun r => r = (true, [.int .i64 (idxI t l)]) := by
  have hx : Ev (fun n => slices_IndexFunc_named n (.lst 2 (l.map nmD)) (.str t)) fun r => r = (true, [.int .i64 (idxI t l), .str t]) := by
    refine Ev.eq (fun n => slices_IndexFunc_named_eq n _ _) ?_
    rw [List.length_map]
    have hi := index_is hl t l.length 0 rfl (Nat.zero_le _)
    rw [List.drop_zero] at hi
    unfold idxI
    cases hf : idxF t l with
    | none =>
      simp only [hf] at hi
      refine Ev.bindL hi (fun ds h => by obtain ⟨_, h⟩ := h; cases h) fun ds h => ?_
      obtain ⟨_, h⟩ := h
      cases h
      exact Ev.yes rfl (Ev.ret rfl)
    | some i =>
      simp only [hf] at hi
      refine Ev.bindL hi (fun ds h => ?_) fun ds h => by cases h
      rw [h, Nat.zero_add]
  exact Ev.eq (fun n => konst_Env_place_eq n _ _) (evCall hx (Ev.yes rfl (Ev.ret rfl)))
theorem clone_is {l : List D} (hl : l.length ≤ 1048576) : Ev (fun n => slices_Clone_named n (.lst 2 l)) fun r => r = (true, [.lst 2 l]) := by
  refine Ev.eq (fun n => slices_Clone_named_eq n l) ?_
  have hb : Nat.ble (0 + l.length) maxLst = true := Nat.ble_eq_true_of_le (by simp only [maxLst]; omega)
  refine Ev.test (fun he => ?_) fun he => Ev.yes hb (Ev.ret rfl)
  have : l = [] := by simpa using he
  subst this
  exact Ev.agree (Ev.ret rfl) (Ev.yes rfl (Ev.ret rfl)) rfl
theorem with_is {l : Env0} (hl : l.length ≤ 1048576) (t : List UInt8) (m : Int) : Ev (fun n => konst_Env_With n (.agg [.lst 2 (l.map nmD)]) (.str t) (.int .i64 m)) fun r => r = (true, [.agg [.lst 2 ((withF t m l).map nmD)]]) := by
  refine Ev.eq (fun n => konst_Env_With_eq n _ _ _) (evCall (clone_is (by rw [List.length_map]; exact hl)) (Ev.yes rfl (evCall (place_is hl t) (Ev.yes rfl ?_))))
  unfold idxI withF
  cases hf : idxF t l with
  | none =>
    refine Ev.no rfl (Ev.yes (Nat.ble_eq_true_of_le (by show (l.map nmD).length + 1 ≤ maxLst; rw [List.length_map]; simp only [maxLst]; omega)) (Ev.ret ?_))
    rw [List.map_append]; rfl
  | some i =>
    obtain ⟨hi, h1, h2⟩ := idxF_some hf
    have hi2 : i < (l.map nmD).length := by rw [List.length_map]; exact hi
    refine Ev.yes (decide_eq_true (show (i : Int) ≥ 0 by omega)) (Ev.yes (in_range hi2) ?_)
    show Ev (fun n => bif okTy ty_si ((l.map nmD)[((i : Nat) : Int).toNat]?.getD D.top) && true && true then some (true, [.agg [.lst 2 ((l.map nmD).set ((i : Nat) : Int).toNat (updD ((l.map nmD)[((i : Nat) : Int).toNat]?.getD D.top) 1 (.int .i64 m)))]]) else none) _
    rw [get_nat hi2, List.getElem_map, Int.toNat_natCast]
    refine Ev.yes rfl (Ev.ret ?_)
    have : updD (nmD l[i]) 1 (.int .i64 m) = nmD (t, m) := by rw [← h1]; rfl
    rw [this, List.map_set]

/-- What a name is. -/
structure Th where
  nm : List UInt8
  kd : Int
  nu : Int
  sn : List UInt8
  sw : Int
  fw : Int
def cellsT (t : Th) : List D := [.str t.nm, .int .i64 t.kd, .int .i64 t.nu, .str t.sn, .int .i64 t.sw, .bool false, .int .i64 0, .lst 4 [], .int .i64 t.fw, .bool false, .int .i64 0, .int .i64 0, .int .i64 0, .int .i64 0, .int .i64 0, .bool false, .int .i64 0, .lst 1 [], .lst 9 []]
def thD (t : Th) : D := .agg (cellsT t)
def th0 : Th := ⟨[], 0, 0, [], 0, 0⟩
def idxT (u : List UInt8) : List Th → Option Nat
  | [] => none
  | x :: r => bif x.nm == u then some 0 else (idxT u r).map (· + 1)
def lookT (u : List UInt8) : List Th → Option Th
  | [] => none
  | x :: r => bif x.nm == u then some x else lookT u r
def outT (u : List UInt8) (ts : List Th) : List Th := ts.filter fun x => !(x.nm == u)
theorem idxT_some {u : List UInt8} : ∀ {l : List Th} {i : Nat}, idxT u l = some i → ∃ h : i < l.length, l[i].nm = u ∧ lookT u l = some l[i] ∧ outT u l = l.take i ++ outT u (l.drop (i + 1))
  | [], i, h => by cases h
  | p :: r, i, h => by
    unfold idxT at h
    unfold lookT outT
    cases hp : p.nm == u with
    | true =>
      rw [hp] at h
      cases h
      exact ⟨by simp, eq_of_beq hp, rfl, by rw [List.filter_cons_of_neg (by simp [hp])]; rfl⟩
    | false =>
      rw [hp] at h
      simp only [cond_false] at h ⊢
      cases hr : idxT u r with
      | none => rw [hr] at h; cases h
      | some k =>
        rw [hr] at h
        cases h
        obtain ⟨h1, h2, h3, h4⟩ := idxT_some hr
        refine ⟨by simp; omega, h2, h3, ?_⟩
        rw [List.filter_cons_of_pos (by simp [hp])]
        show p :: outT u r = p :: (r.take k ++ outT u (r.drop (k + 1)))
        rw [h4]
theorem idxT_none {u : List UInt8} : ∀ {l : List Th}, idxT u l = none → lookT u l = none ∧ outT u l = l
  | [], h => ⟨rfl, rfl⟩
  | p :: r, h => by
    unfold idxT at h
    unfold lookT outT
    cases hp : p.nm == u with
    | true => rw [hp] at h; cases h
    | false =>
      rw [hp] at h
      simp only [cond_false] at h ⊢
      cases hr : idxT u r with
      | none =>
        obtain ⟨h1, h2⟩ := idxT_none hr
        refine ⟨h1, ?_⟩
        rw [List.filter_cons_of_pos (by simp [hp])]
        show p :: outT u r = p :: r
        rw [h2]
      | some k => rw [hr] at h; cases h
theorem find1_is (x : Th) (u : List UInt8) : Ev (fun n => typed_Scope_find_1 n (thD x) (.str u)) fun r => r = (true, [.bool (x.nm == u), .str u]) :=
  Ev.eq (fun n => typed_Scope_find_1_eq n ..) (Ev.ret rfl)
theorem with1_is (x t : Th) : Ev (fun n => typed_Scope_with_1 n (thD x) (.str t.nm) (.int .i64 t.kd) (.int .i64 t.nu) (.str t.sn) (.int .i64 t.sw) (.bool false) (.int .i64 0) (.lst 4 []) (.int .i64 t.fw) (.bool false) (.int .i64 0) (.int .i64 0) (.int .i64 0) (.int .i64 0) (.int .i64 0) (.bool false) (.int .i64 0) (.lst 1 []) (.lst 9 [])) fun r => r = (true, .bool (x.nm == t.nm) :: cellsT t) :=
  Ev.eq (fun n => typed_Scope_with_1_eq n ..) (Ev.ret rfl)
theorem findex_is {l : List Th} (hl : l.length ≤ 1048576) (t : List UInt8) : ∀ (m j : Nat), l.length - j = m → j ≤ l.length →
    Ev (fun n => slices_IndexFunc_thing_L0 n (.lst 19 (l.map thD)) (.int .i64 (l.length : Int)) (.int .i64 (j : Int)) (.str t)) fun r => match idxT t (l.drop j) with
      | some i => r = (true, [.int .i64 ((j + i : Nat) : Int), .str t])
      | none => ∃ j' : Int, r = (false, [.lst 19 (l.map thD), .int .i64 (l.length : Int), .int .i64 j', .str t]) := by
  intro m
  induction m with
  | zero =>
    intro j hm hj
    rw [List.drop_eq_nil_of_le (by omega)]
    exact Ev.eq (fun n => slices_IndexFunc_thing_L0_eq n _ _ _ _) (Ev.no (decide_eq_false (by omega)) (Ev.ret ⟨_, rfl⟩))
  | succ m ih =>
    intro j hm hj
    have hj2 : j < l.length := by omega
    have hj3 : j < (l.map thD).length := by rw [List.length_map]; exact hj2
    have hw : IntKind.i64.wrap ((j : Int) + 1) = ((j + 1 : Nat) : Int) := wrap_succ (by omega)
    refine Ev.eq (fun n => slices_IndexFunc_thing_L0_eq n _ _ _ _) (Ev.yes (decide_eq_true (by omega)) (Ev.yes (in_range hj3) ?_))
    rw [get_nat hj3, List.getElem_map, hw, drop_cons hj2]
    have nx := ih (j + 1) (by omega) hj2
    refine Ev.yes rfl (evCall (find1_is l[j] t) (Ev.yes rfl ?_))
    show Ev (fun n => bif (l[j].nm == t) then _ else _) _
    unfold idxT
    cases hp : l[j].nm == t with
    | true => exact Ev.yes rfl (Ev.ret rfl)
    | false =>
      refine Ev.no rfl (nx.mono fun r hr => ?_)
      simp only [cond_false]
      cases hi : idxT t (l.drop (j + 1)) with
      | none =>
        rw [hi] at hr
        exact hr
      | some i =>
        rw [hi] at hr
        show r = (true, [.int .i64 ((j + (i + 1) : Nat) : Int), .str t])
        rw [show j + (i + 1) = j + 1 + i by omega]
        exact hr
def idxJ (t : List UInt8) (l : List Th) : Int := match idxT t l with
  | some i => (i : Int)
  | none => -1
theorem tindex_is {l : List Th} (hl : l.length ≤ 1048576) (t : List UInt8) : Ev (fun n => slices_IndexFunc_thing n (.lst 19 (l.map thD)) (.str t)) fun r => r = (true, [.int .i64 (idxJ t l), .str t]) := by
  refine Ev.eq (fun n => slices_IndexFunc_thing_eq n _ _) ?_
  rw [List.length_map]
  have hi := findex_is hl t l.length 0 rfl (Nat.zero_le _)
  rw [List.drop_zero] at hi
  unfold idxJ
  cases hf : idxT t l with
  | none =>
    simp only [hf] at hi
    refine Ev.bindL hi (fun ds h => by obtain ⟨_, h⟩ := h; cases h) fun ds h => ?_
    obtain ⟨_, h⟩ := h
    cases h
    exact Ev.yes rfl (Ev.ret rfl)
  | some i =>
    simp only [hf] at hi
    refine Ev.bindL hi (fun ds h => ?_) fun ds h => by cases h
    rw [h, Nat.zero_add]
theorem tfind_is {l : List Th} (hl : l.length ≤ 1048576) (e : List D) (t : List UInt8) : Ev (fun n => typed_Scope_find n (.agg [.lst 19 (l.map thD), .lst 2 e]) (.str t)) fun r => r = (true, [thD ((lookT t l).getD th0)]) := by
  refine Ev.eq (fun n => typed_Scope_find_eq n _ _ _) (evCall (tindex_is hl t) (Ev.yes rfl ?_))
  unfold idxJ
  cases hf : idxT t l with
  | none =>
    rw [(idxT_none hf).1]
    exact Ev.yes rfl (Ev.ret rfl)
  | some i =>
    obtain ⟨hi, h1, h2, _⟩ := idxT_some hf
    have hi2 : i < (l.map thD).length := by rw [List.length_map]; exact hi
    rw [h2]
    have hg : (l.map thD)[((i : Nat) : Int).toNat]?.getD D.top = thD l[i] := by rw [get_nat hi2, List.getElem_map]
    refine Ev.no (decide_eq_false (show ¬ (i : Int) < 0 by omega)) (Ev.yes (in_range hi2) ?_)
    show Ev (fun n => bif notAny ty_siisibil4ibiiiiibil1l9 && okTy ty_siisibil4ibiiiiibil1l9 ((l.map thD)[((i : Nat) : Int).toNat]?.getD D.top) then some (true, [expTy ty_siisibil4ibiiiiibil1l9 ((l.map thD)[((i : Nat) : Int).toNat]?.getD D.top)]) else none) _
    rw [hg]
    exact Ev.yes rfl (Ev.ret rfl)
theorem tFind_is {l : List Th} (hl : l.length ≤ 1048576) (e : List D) (t : List UInt8) : Ev (fun n => typed_Scope_Find n (.agg [.lst 19 (l.map thD), .lst 2 e]) (.str t)) fun r => r = (true, [.int .i64 ((lookT t l).getD th0).kd, .int .i64 ((lookT t l).getD th0).nu, .agg [.str ((lookT t l).getD th0).sn, .int .i64 ((lookT t l).getD th0).sw, .bool false, .int .i64 0]]) :=
  Ev.eq (fun n => typed_Scope_Find_eq n _ _ _) (evCall (tfind_is hl e t) (Ev.yes rfl (Ev.ret rfl)))
end Go.Proofs.YthlhbocobgkdmaaGreat
