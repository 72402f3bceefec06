/- What names are: deleted, one more, the numbers alone. -/
import Derived.Test.YthlhbocobgkdmaaGreatZtA
namespace Go.Proofs.YthlhbocobgkdmaaGreat
open Go.AE
set_option linter.unusedVariables false
set_option linter.unusedSimpArgs false
theorem index2_is {l : List Th} (hl : l.length ≤ 1048576) (t : Th) : ∀ (m j : Nat), l.length - j = m → j ≤ l.length →
    Ev (fun n => slices_IndexFunc_thing_3_L0 n (.int .i64 (l.length : Int)) (.int .i64 (j : Int)) (.lst 19 (l.map thD)) (.str t.nm) (.int .i64 t.kd) (.int .i64 t.nu) (.str t.sn) (.int .i64 t.sw) (.bool false) (.int .i64 0) (.lst 4 []) (.int .i64 t.fw) (.bool false) (.int .i64 0) (.int .i64 0) (.int .i64 0) (.int .i64 0) (.int .i64 0) (.bool false) (.int .i64 0) (.lst 1 []) (.lst 9 [])) fun r => match idxT t.nm (l.drop j) with
      | some i => r = (true, .int .i64 ((j + i : Nat) : Int) :: (.lst 19 (l.map thD)) :: cellsT t)
      | none => ∃ j' : Int, r = (false, .int .i64 (l.length : Int) :: .int .i64 j' :: (.lst 19 (l.map thD)) :: cellsT t) := by
  intro m
  induction m with
  | zero =>
    intro j hm hj
    rw [List.drop_eq_nil_of_le (by omega)]
    exact Ev.eq (fun n => slices_IndexFunc_thing_3_L0_eq n ..) (Ev.no (decide_eq_false (by omega)) (Ev.ret ⟨_, rfl⟩))
  | succ m ih =>
    intro j hm hj
    have hj2 : j < l.length := by omega
    have hj3 : j < (l.map thD).length := by rw [List.length_map]; exact hj2
    have hw : IntKind.i64.wrap ((j : Int) + 1) = ((j + 1 : Nat) : Int) := wrap_succ (by omega)
    refine Ev.eq (fun n => slices_IndexFunc_thing_3_L0_eq n ..) (Ev.yes (decide_eq_true (by omega)) (Ev.yes (in_range hj3) ?_))
    rw [get_nat hj3, List.getElem_map, hw, drop_cons hj2]
    have nx := ih (j + 1) (by omega) hj2
    refine Ev.yes rfl (evCall (with1_is l[j] t) (Ev.yes rfl ?_))
    show Ev (fun n => bif (l[j].nm == t.nm) then _ else _) _
    unfold idxT
    cases hp : l[j].nm == t.nm with
    | true => exact Ev.yes rfl (Ev.ret rfl)
    | false =>
      refine Ev.no rfl (nx.mono fun r hr => ?_)
      simp only [cond_false]
      cases hi : idxT t.nm (l.drop (j + 1)) with
      | none =>
        rw [hi] at hr
        exact hr
      | some i =>
        rw [hi] at hr
        show r = (true, .int .i64 ((j + (i + 1) : Nat) : Int) :: (.lst 19 (l.map thD)) :: cellsT t)
        rw [show j + (i + 1) = j + 1 + i by omega]
        exact hr
theorem tindex2_is {l : List Th} (hl : l.length ≤ 1048576) (t : Th) : Ev (fun n => slices_IndexFunc_thing_3 n (.lst 19 (l.map thD)) (.str t.nm) (.int .i64 t.kd) (.int .i64 t.nu) (.str t.sn) (.int .i64 t.sw) (.bool false) (.int .i64 0) (.lst 4 []) (.int .i64 t.fw) (.bool false) (.int .i64 0) (.int .i64 0) (.int .i64 0) (.int .i64 0) (.int .i64 0) (.bool false) (.int .i64 0) (.lst 1 []) (.lst 9 [])) fun r => r = (true, .int .i64 (idxJ t.nm l) :: (.lst 19 (l.map thD)) :: cellsT t) := by
  refine Ev.eq (fun n => slices_IndexFunc_thing_3_eq n ..) ?_
  rw [List.length_map]
  have hi := index2_is hl t l.length 0 rfl (Nat.zero_le _)
  rw [List.drop_zero] at hi
  unfold idxJ
  cases hf : idxT t.nm l with
  | none =>
    simp only [hf] at hi
    refine Ev.bindL hi (fun ds h => by obtain ⟨_, h⟩ := h; cases h) fun ds h => ?_
    obtain ⟨_, h⟩ := h
    cases h
    exact Ev.yes rfl (Ev.ret rfl)
  | some i =>
    simp only [hf] at hi
    refine Ev.bindL hi (fun ds h => ?_) fun ds h => by cases h
    rw [h, Nat.zero_add]
theorem take_set_succ {α : Type} {l : List α} {i : Nat} {x : α} (h : i < l.length) : (l.set i x).take (i + 1) = l.take i ++ [x] := by
  rw [List.take_succ_eq_append_getElem (by rw [List.length_set]; exact h), List.take_set_of_le (Nat.le_refl _), List.getElem_set_self]
theorem del_loop {t : Th} : ∀ (m j i : Nat) (l : List Th), l.length - j = m → j ≤ l.length → i ≤ j → l.length ≤ 1048576 →
    Ev (fun n => slices_DeleteFunc_thing_2_L0 n (.int .i64 (i : Int)) (.int .i64 (j : Int)) (.str t.nm) (.int .i64 t.kd) (.int .i64 t.nu) (.str t.sn) (.int .i64 t.sw) (.bool false) (.int .i64 0) (.lst 4 []) (.int .i64 t.fw) (.bool false) (.int .i64 0) (.int .i64 0) (.int .i64 0) (.int .i64 0) (.int .i64 0) (.bool false) (.int .i64 0) (.lst 1 []) (.lst 9 []) (.lst 19 (l.map thD))) fun r => ∃ (i' : Nat) (j' : Int) (l' : List Th), r = (false, [.int .i64 (i' : Int), .int .i64 j', .str t.nm, .int .i64 t.kd, .int .i64 t.nu, .str t.sn, .int .i64 t.sw, .bool false, .int .i64 0, .lst 4 [], .int .i64 t.fw, .bool false, .int .i64 0, .int .i64 0, .int .i64 0, .int .i64 0, .int .i64 0, .bool false, .int .i64 0, .lst 1 [], .lst 9 [], .lst 19 (l'.map thD)]) ∧ l'.length = l.length ∧ i' ≤ l.length ∧ l'.take i' = l.take i ++ outT t.nm (l.drop j) := by
  intro m
  induction m with
  | zero =>
    intro j i l hm hj hi hl
    refine Ev.eq (fun n => slices_DeleteFunc_thing_2_L0_eq n ..) (Ev.no (decide_eq_false (by rw [List.length_map]; omega)) (Ev.ret ⟨i, j, l, rfl, rfl, by omega, ?_⟩))
    rw [List.drop_eq_nil_of_le (by omega)]
    exact (List.append_nil _).symm
  | succ m ih =>
    intro j i l hm hj hi hl
    have hj2 : j < l.length := by omega
    have hj3 : j < (l.map thD).length := by rw [List.length_map]; exact hj2
    have hi3 : i < (l.map thD).length := by rw [List.length_map]; omega
    have hw : IntKind.i64.wrap ((j : Int) + 1) = ((j + 1 : Nat) : Int) := wrap_succ (by omega)
    have hw2 : IntKind.i64.wrap ((i : Int) + 1) = ((i + 1 : Nat) : Int) := wrap_succ (by omega)
    refine Ev.eq (fun n => slices_DeleteFunc_thing_2_L0_eq n ..) (Ev.yes (decide_eq_true (by omega)) (Ev.yes (in_range hj3) ?_))
    rw [get_nat hj3, List.getElem_map, hw, hw2, drop_cons hj2]
    refine Ev.yes rfl (evCall (with1_is l[j] t) (Ev.yes rfl ?_))
    show Ev (fun n => bif !(l[j].nm == t.nm) then _ else _) _
    unfold outT
    cases hp : l[j].nm == t.nm with
    | true =>
      rw [List.filter_cons_of_neg (by simp [hp])]
      exact Ev.no rfl (ih (j + 1) i l (by omega) (by omega) (by omega) hl)
    | false =>
      rw [List.filter_cons_of_pos (by simp [hp])]
      refine Ev.yes rfl (Ev.yes (in_range hi3) ?_)
      have e : (l.map thD).set ((i : Nat) : Int).toNat (expTy ty_siisibil4ibiiiiibil1l9 (thD l[j])) = (l.set i l[j]).map thD := by rw [Int.toNat_natCast, List.map_set]; rfl
      rw [e]
      refine (ih (j + 1) (i + 1) (l.set i l[j]) (by rw [List.length_set]; omega) (by rw [List.length_set]; omega) (by omega) (by rw [List.length_set]; exact hl)).mono ?_
      rintro _ ⟨i', j', l', rfl, h1, h2, h3⟩
      rw [List.length_set] at h1 h2
      refine ⟨i', j', l', rfl, h1, h2, ?_⟩
      rw [h3, take_set_succ (by omega), List.drop_set_of_lt (by omega), List.append_assoc]
      rfl
theorem del_is {l : List Th} (hl : l.length ≤ 1048576) (t : Th) : Ev (fun n => slices_DeleteFunc_thing_2 n (.str t.nm) (.int .i64 t.kd) (.int .i64 t.nu) (.str t.sn) (.int .i64 t.sw) (.bool false) (.int .i64 0) (.lst 4 []) (.int .i64 t.fw) (.bool false) (.int .i64 0) (.int .i64 0) (.int .i64 0) (.int .i64 0) (.int .i64 0) (.bool false) (.int .i64 0) (.lst 1 []) (.lst 9 []) (.lst 19 (l.map thD))) fun r => r = (true, [.str t.nm, .int .i64 t.kd, .int .i64 t.nu, .str t.sn, .int .i64 t.sw, .bool false, .int .i64 0, .lst 4 [], .int .i64 t.fw, .bool false, .int .i64 0, .int .i64 0, .int .i64 0, .int .i64 0, .int .i64 0, .bool false, .int .i64 0, .lst 1 [], .lst 9 [], .lst 19 ((outT t.nm l).map thD)]) := by
  refine Ev.eq (fun n => slices_DeleteFunc_thing_2_eq n ..) (evCall (tindex2_is hl t) (Ev.yes rfl ?_))
  unfold idxJ
  cases hf : idxT t.nm l with
  | none =>
    rw [(idxT_none hf).2]
    exact Ev.yes rfl (Ev.ret rfl)
  | some i =>
    obtain ⟨hi, h1, h2, h3⟩ := idxT_some hf
    have hw : IntKind.i64.wrap ((i : Int) + 1) = ((i + 1 : Nat) : Int) := wrap_succ (by omega)
    have hn : ((i : Int) == -1) = false := by
      rw [beq_eq_false_iff_ne]; omega
    refine Ev.no hn ?_
    show Ev (fun n => AE.bindL (slices_DeleteFunc_thing_2_L0 n (.int .i64 (i : Int)) (.int .i64 (IntKind.i64.wrap ((i : Int) + 1))) (.str t.nm) (.int .i64 t.kd) (.int .i64 t.nu) (.str t.sn) (.int .i64 t.sw) (.bool false) (.int .i64 0) (.lst 4 []) (.int .i64 t.fw) (.bool false) (.int .i64 0) (.int .i64 0) (.int .i64 0) (.int .i64 0) (.int .i64 0) (.bool false) (.int .i64 0) (.lst 1 []) (.lst 9 []) (.lst 19 (l.map thD))) _) _
    rw [hw]
    refine Ev.bindL (del_loop _ (i + 1) i l rfl hi (by omega) hl) (fun ds h => by obtain ⟨_, _, _, h, _⟩ := h; cases h) fun ds h => ?_
    obtain ⟨i', j', l', h, k1, k2, k3⟩ := h
    cases h
    rw [h3, ← k3]
    have k4 : (l'.map thD).length = l'.length := List.length_map ..
    have hlen : ((l'.map thD).take i').length = i' := by rw [List.length_take, k4]; omega
    refine Ev.yes rfl (Ev.yes ?_ (Ev.yes ?_ (Ev.yes ?_ (Ev.ret ?_))))
    · show (decide ((0 : Int) ≤ (i' : Int)) && decide ((i' : Int) ≤ ((l'.map thD).length : Int)) && decide (((l'.map thD).length : Int) ≤ ((l'.map thD).length : Int))) = true
      rw [decide_eq_true (by omega), decide_eq_true (by omega), decide_eq_true (by omega)]; rfl
    · show Nat.ble (i' + ((l'.map thD).length - i')) (l'.map thD).length = true
      exact Nat.ble_eq_true_of_le (by omega)
    · show (true && true && true && decide ((0 : Int) ≤ (i' : Int)) && decide ((i' : Int) ≤ (((l'.map thD).take i' ++ List.replicate ((l'.map thD).length - i') (thD th0) ++ (l'.map thD).drop (i' + ((l'.map thD).length - i'))).length : Int))) = true
      rw [decide_eq_true (by omega), decide_eq_true (by simp only [List.length_append, hlen]; omega)]; rfl
    · show (true, [.str t.nm, .int .i64 t.kd, .int .i64 t.nu, .str t.sn, .int .i64 t.sw, .bool false, .int .i64 0, .lst 4 [], .int .i64 t.fw, .bool false, .int .i64 0, .int .i64 0, .int .i64 0, .int .i64 0, .int .i64 0, .bool false, .int .i64 0, .lst 1 [], .lst 9 [], D.lst 19 (((l'.map thD).take i' ++ List.replicate ((l'.map thD).length - i') (thD th0) ++ (l'.map thD).drop (i' + ((l'.map thD).length - i'))).take i')]) = _
      rw [List.append_assoc, List.take_left' hlen, List.map_take]
theorem cloneT_is {l : List D} (hl : l.length ≤ 1048576) : Ev (fun n => slices_Clone_thing n (.lst 19 l)) fun r => r = (true, [.lst 19 l]) := by
  refine Ev.eq (fun n => slices_Clone_thing_eq n l) ?_
  have hb : Nat.ble (0 + l.length) maxLst = true := Nat.ble_eq_true_of_le (by simp only [maxLst]; omega)
  refine Ev.test (fun he => ?_) fun he => Ev.yes hb (Ev.ret rfl)
  have : l = [] := by simpa using he
  subst this
  exact Ev.agree (Ev.ret rfl) (Ev.yes rfl (Ev.ret rfl)) rfl
def nowT (t : Th) (l : List Th) : List Th := outT t.nm l ++ [t]
theorem outT_len (u : List UInt8) (l : List Th) : (outT u l).length ≤ l.length := List.length_filter_le ..
theorem withT_is {l : List Th} (hl : l.length ≤ 1048576) (e : List D) (t : Th) : Ev (fun n => typed_Scope_with n (.agg [.lst 19 (l.map thD), .lst 2 e]) (thD t)) fun r => r = (true, [.agg [.lst 19 ((nowT t l).map thD), .lst 2 e]]) := by
  refine Ev.eq (fun n => typed_Scope_with_eq n ..) (evCall (cloneT_is (by rw [List.length_map]; exact hl)) (Ev.yes rfl (evCall (del_is hl t) (Ev.yes rfl (Ev.yes ?_ (Ev.ret ?_))))))
  · refine Nat.ble_eq_true_of_le ?_
    show ((outT t.nm l).map thD).length + 1 ≤ maxLst
    have := outT_len t.nm l
    rw [List.length_map]; simp only [maxLst]; omega
  · show (true, [D.agg [.lst 19 ((outT t.nm l).map thD ++ [thD t]), .lst 2 e]]) = _
    rw [nowT, List.map_append]; rfl
def plainT (e : Env0) (l : List Th) : Env0 := l.foldl (fun v x => bif x.kd == 1 then withF x.nm x.nu v else v) e
theorem plainT_len : ∀ (l : List Th) (e : Env0), (plainT e l).length ≤ e.length + l.length
  | [], e => Nat.le_refl _
  | x :: l, e => by
    have h := plainT_len l (bif x.kd == 1 then withF x.nm x.nu e else e)
    have h2 := withF_len x.nm x.nu e
    show (plainT (bif x.kd == 1 then withF x.nm x.nu e else e) l).length ≤ _
    have h3 : (bif x.kd == 1 then withF x.nm x.nu e else e).length ≤ e.length + 1 := by
      cases x.kd == 1 with
      | true => exact h2
      | false => exact Nat.le_succ _
    simp only [List.length_cons]
    omega
theorem plain_loop {l : List Th} (X : List D) : ∀ (m j : Nat) (e : Env0), l.length - j = m → j ≤ l.length → e.length + l.length ≤ 1048576 + j →
    l.length ≤ 1048576 → Ev (fun n => typed_Scope_plain_L0 n (.lst 19 (l.map thD)) (.int .i64 (l.length : Int)) (.int .i64 (j : Int)) (.lst 2 X) (.lst 2 (e.map nmD))) fun r => ∃ j' : Int, r = (false, [.lst 19 (l.map thD), .int .i64 (l.length : Int), .int .i64 j', .lst 2 X, .lst 2 ((plainT e (l.drop j)).map nmD)]) := by
  intro m
  induction m with
  | zero =>
    intro j e hm hj he hl
    rw [List.drop_eq_nil_of_le (by omega)]
    exact Ev.eq (fun n => typed_Scope_plain_L0_eq n ..) (Ev.no (decide_eq_false (by omega)) (Ev.ret ⟨_, rfl⟩))
  | succ m ih =>
    intro j e hm hj he hl
    have hj2 : j < l.length := by omega
    have hj3 : j < (l.map thD).length := by rw [List.length_map]; exact hj2
    have hw : IntKind.i64.wrap ((j : Int) + 1) = ((j + 1 : Nat) : Int) := wrap_succ (by omega)
    refine Ev.eq (fun n => typed_Scope_plain_L0_eq n ..) (Ev.yes (decide_eq_true (by omega)) (Ev.yes (in_range hj3) ?_))
    rw [get_nat hj3, List.getElem_map, hw, drop_cons hj2]
    refine Ev.yes rfl ?_
    show Ev (fun n => bif (l[j].kd == 1) then _ else _) _
    show Ev _ fun r => ∃ j' : Int, r = (false, [_, _, .int .i64 j', _, .lst 2 ((plainT (bif l[j].kd == 1 then withF l[j].nm l[j].nu e else e) (l.drop (j + 1))).map nmD)])
    cases hp : l[j].kd == 1 with
    | true =>
      have h2 := withF_len l[j].nm l[j].nu e
      exact Ev.yes rfl (evCall (with_is (by omega) l[j].nm l[j].nu) (Ev.yes rfl (ih (j + 1) (withF l[j].nm l[j].nu e) (by omega) hj2 (by omega) hl)))
    | false => exact Ev.no rfl (ih (j + 1) e (by omega) hj2 (by omega) hl)
theorem tplain_is {l : List Th} (hl : l.length ≤ 1048576) (e : List D) : Ev (fun n => typed_Scope_plain n (.agg [.lst 19 (l.map thD), .lst 2 e])) fun r => r = (true, [.agg [.lst 2 ((plainT [] l).map nmD)]]) := by
  refine Ev.eq (fun n => typed_Scope_plain_eq n ..) ?_
  rw [List.length_map]
  refine Ev.bindL (plain_loop [] _ 0 [] rfl (Nat.zero_le _) (by simpa using hl) hl) (fun ds h => by obtain ⟨_, h⟩ := h; cases h) fun ds h => ?_
  obtain ⟨_, h⟩ := h
  cases h
  rw [List.drop_zero]
  exact Ev.yes rfl (Ev.ret rfl)
def thC (u : List UInt8) (m : Int) : Th := ⟨u, 1, m, [], 0, 0⟩
def thS (u : List UInt8) (m : Int) : Th := ⟨u, 2, m, u, 3, 0⟩
def thF (u : List UInt8) : Th := ⟨u, 3, 0, [], 0, 2⟩
theorem const_is {l : List Th} {e : Env0} (hl : l.length ≤ 1048575) (he : e.length ≤ 1048576) (u : List UInt8) (m : Int) : Ev (fun n => typed_Scope_Const n (.agg [.lst 19 (l.map thD), .lst 2 (e.map nmD)]) (.str u) (.int .i64 m)) fun r => r = (true, [.agg [.lst 19 ((nowT (thC u m) l).map thD), .lst 2 ((withF u m e).map nmD)]]) :=
  Ev.eq (fun n => typed_Scope_Const_eq n ..) (evCall (withT_is (by omega) _ (thC u m)) (Ev.yes rfl (evCall (with_is he u m) (Ev.yes rfl (Ev.ret rfl)))))
theorem nowT_len (t : Th) (l : List Th) : (nowT t l).length ≤ l.length + 1 := by
  have := outT_len t.nm l
  rw [nowT, List.length_append]
  show _ + 1 ≤ _
  omega
theorem sig_is {l : List Th} (hl : l.length ≤ 1048575) (e : List D) (u : List UInt8) (m : Int) : Ev (fun n => typed_Scope_Sig n (.agg [.lst 19 (l.map thD), .lst 2 e]) (.str u) (.int .i64 m) (.agg [.str u, .int .i64 3, .bool false, .int .i64 0])) fun r => r = (true, [.agg [.lst 19 ((nowT (thS u m) l).map thD), .lst 2 ((plainT [] (nowT (thS u m) l)).map nmD)]]) :=
  have := nowT_len (thS u m) l
  Ev.eq (fun n => typed_Scope_Sig_eq n ..) (evCall (withT_is (by omega) _ (thS u m)) (Ev.yes rfl (evCall (tplain_is (by omega) e) (Ev.yes rfl (Ev.ret rfl)))))
theorem func_is {l : List Th} (hl : l.length ≤ 1048575) (e : List D) (u : List UInt8) : Ev (fun n => typed_Scope_Func n (.agg [.lst 19 (l.map thD), .lst 2 e]) (.str u) (.agg [.lst 4 [], .int .i64 2, .bool false, .int .i64 0, .int .i64 0, .int .i64 0, .int .i64 0, .int .i64 0, .bool false, .int .i64 0, .lst 1 [], .lst 9 []])) fun r => r = (true, [.agg [.lst 19 ((nowT (thF u) l).map thD), .lst 2 ((plainT [] (nowT (thF u) l)).map nmD)]]) :=
  have := nowT_len (thF u) l
  Ev.eq (fun n => typed_Scope_Func_eq n ..) (evCall (withT_is (by omega) _ (thF u)) (Ev.yes rfl (evCall (tplain_is (by omega) e) (Ev.yes rfl (Ev.ret rfl)))))
end Go.Proofs.YthlhbocobgkdmaaGreat
