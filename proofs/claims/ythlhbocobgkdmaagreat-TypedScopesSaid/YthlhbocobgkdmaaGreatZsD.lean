/- TypedScopes, plain. -/
import Derived.Test.YthlhbocobgkdmaaGreatZsC
import Derived.Test.YthlhbocobgkdmaaGreatZsW
namespace Go.Proofs.YthlhbocobgkdmaaGreat
open Go.AE
set_option linter.unusedVariables false
set_option linter.unusedSimpArgs false
theorem stampM_is (u : List UInt8) (l : Env0) : stampM (.str u) (l.map nmD) = match idxF u l with | some i => i | none => l.length := by
  unfold stampM
  rw [findM_is, List.length_map]
  cases idxF u l <;> rfl
theorem stamp_lt (u : List UInt8) (g : Int) (l : Env0) : stampM (.str u) (l.map nmD) < (withF u g l).length := by
  rw [stampM_is]
  unfold withF
  cases h : idxF u l with
  | none => simp
  | some i =>
    obtain ⟨hi, _⟩ := idxF_some h
    simpa using hi
theorem stamp_ok (u : List UInt8) (l : Env0) : (decide ((0 : Int) ≤ ((stampM (.str u) (l.map nmD) : Nat) : Int)) && decide (((stampM (.str u) (l.map nmD) : Nat) : Int) < ((putM (.str u) (getM (.int .i64 (0 : Int)) (.str u) (l.map nmD)) (l.map nmD)).length : Int))) = true := by
  rw [mget_is, put_is, List.length_map]
  have := stamp_lt u ((lookF u l).getD 0) l
  exact and_tt (decide_eq_true (by omega)) (decide_eq_true (by omega))
theorem set_is (u : List UInt8) (n : Int) (l : Env0) : setM ((stampM (.str u) (l.map nmD) : Nat) : Int).toNat (.int .i64 n) (putM (.str u) (getM (.int .i64 (0 : Int)) (.str u) (l.map nmD)) (l.map nmD)) = (withF u n l).map nmD := by
  rw [mget_is, put_is, Int.toNat_natCast, stampM_is]
  unfold setM withF
  cases h : idxF u l with
  | none =>
    show ((l ++ [(u, (lookF u l).getD 0)]).map nmD).set l.length (.agg [((((l ++ [(u, (lookF u l).getD 0)]).map nmD)[l.length]?.getD .top).at_ 0), .int .i64 n]) = (l ++ [(u, n)]).map nmD
    simp [nmD, D.at_]
    rfl
  | some i =>
    obtain ⟨hi, h1, _⟩ := idxF_some h
    show ((l.set i (u, (lookF u l).getD 0)).map nmD).set i (.agg [((((l.set i (u, (lookF u l).getD 0)).map nmD)[i]?.getD .top).at_ 0), .int .i64 n]) = (l.set i (u, n)).map nmD
    have hi2 : i < ((l.set i (u, (lookF u l).getD 0)).map nmD).length := by simpa using hi
    rw [List.getElem?_eq_getElem hi2, List.getElem_map, List.getElem_set_self]
    simp [List.map_set, nmD, D.at_]
    rfl
def pkN (p : Int) : Int := max (-2147483648 : Int) (min p (2147483647 : Int))
def pkK (j p : Int) : Int := IntKind.i64.wrap ((1 : Int) + ((IntKind.i64.wrap (j + (IntKind.i64.wrap (BitVec.ofInt (IntKind.i64).bits (max (-2147483648 : Int) (min p (2147483647 : Int))) &&& BitVec.ofInt (IntKind.i64).bits (7 : Int)).toNat))).tmod (3 : Int)))
theorem pkK_is (j : Nat) (hj : j ≤ 20) (p : Int) : pkK (j : Int) p = 1 ∨ pkK (j : Int) p = 2 ∨ pkK (j : Int) p = 3 := by
  unfold pkK
  generalize hz : (BitVec.ofInt (IntKind.i64).bits (max (-2147483648 : Int) (min p (2147483647 : Int))) &&& BitVec.ofInt (IntKind.i64).bits (7 : Int)).toNat = z
  have h7 : z ≤ 7 := by
    rw [← hz, BitVec.toNat_and]
    exact Nat.le_trans Nat.and_le_right (by decide)
  rw [wrap_id (x := (z : Int)) (by omega) (by omega), wrap_id (x := (j : Int) + (z : Int)) (by omega) (by omega)]
  have e : ((j : Int) + (z : Int)).tmod 3 = (((j + z) % 3 : Nat) : Int) := by
    rw [← Int.natCast_add, Int.tmod_eq_emod_of_nonneg (by omega)]; rfl
  rw [e, wrap_id (by omega) (by omega)]
  have : (j + z) % 3 < 3 := Nat.mod_lt _ (by omega)
  omega
section
variable {xs ys : List D} (hx : ∀ x ∈ xs, ∃ s : List UInt8, x = .str s) (hy : ∀ y ∈ ys, ∃ m : Int, y = .int .i64 m)
include hx hy
theorem fill_is : ∀ (m j : Nat) (l : List Th) (e k w : Env0), 20 - j = m → j ≤ 20 → Inv l e k w j →
    Ev (fun n => law12_TypedScopes_L0 n (.lst 1 xs) (.lst 1 ys) (.int .i64 (j : Int)) (.lst 19 ((l).map thD)) (.lst 2 ((e).map nmD)) (.lst 2 ((k).map nmD)) (.lst 2 ((w).map nmD))) fun r => ∃ (j' : Int) (l' : List Th) (e' k' w' : Env0), r = (false, [.lst 1 xs, .lst 1 ys, .int .i64 j', .lst 19 ((l').map thD), .lst 2 ((e').map nmD), .lst 2 ((k').map nmD), .lst 2 ((w').map nmD)]) ∧ Inv l' e' k' w' 20 := by
  intro m
  induction m with
  | zero =>
    intro j l e k w hm hj I
    have : j = 20 := by omega
    subst this
    refine Ev.eq (fun n => law12_TypedScopes_L0_eq n ..) (Ev.test (fun _ => Ev.test (fun _ => ?_) fun _ => ?_) fun _ => ?_)
    · exact Ev.no rfl (Ev.ret ⟨_, l, e, k, w, rfl, I⟩)
    · exact Ev.ret ⟨_, l, e, k, w, rfl, I⟩
    · exact Ev.ret ⟨_, l, e, k, w, rfl, I⟩
  | succ m ih =>
    intro j l e k w hm hj I
    refine Ev.eq (fun n => law12_TypedScopes_L0_eq n ..) (Ev.test (fun h1 => Ev.test (fun h2 => ?_) fun _ => ?_) fun _ => ?_)
    rotate_left
    · exact Ev.ret ⟨_, l, e, k, w, rfl, I.mono hj⟩
    · exact Ev.ret ⟨_, l, e, k, w, rfl, I.mono hj⟩
    have h1 : j < xs.length := by have := of_decide_eq_true h1; omega
    have h2 : j < ys.length := by have := of_decide_eq_true h2; omega
    refine Ev.yes (decide_eq_true (by omega)) (Ev.yes (in_range h2) ?_)
    rw [get_nat h1, get_nat h2]
    obtain ⟨u, hu⟩ := hx _ (List.getElem_mem h1)
    obtain ⟨p, hp⟩ := hy _ (List.getElem_mem h2)
    rw [hu, hp, wrap_succ (j := j) (by omega)]
    have lk : Nat.ble (k.map nmD).length maxLst = true := Nat.ble_eq_true_of_le (by rw [List.length_map]; have := I.kl; simp only [maxLst]; omega)
    have lw : Nat.ble (w.map nmD).length maxLst = true := Nat.ble_eq_true_of_le (by rw [List.length_map]; have := I.wl; simp only [maxLst]; omega)
    have ll := I.ll
    have le := I.el
    have i1 := in_range h1
    refine Ev.yes rfl (Ev.test (fun hk => ?_) fun hk => Ev.test (fun hk2 => ?_) fun hk2 => ?_)
    · have hk : pkK (j : Int) p = 1 := eq_of_beq hk
      refine Ev.yes i1 (Ev.yes rfl (evCall (const_is (by omega) (by omega) u (pkN p)) (Ev.yes rfl (Ev.yes i1 (Ev.yes rfl (Ev.yes i1 (Ev.yes rfl (Ev.yes lk (Ev.yes (by rw [mget_is]; rfl) (Ev.yes (stamp_ok ..) (Ev.yes lw (Ev.yes (by rw [mget_is]; rfl) (Ev.yes (stamp_ok ..) ?_)))))))))))))
      rw [set_is, set_is]
      have nx := ih (j + 1) _ _ _ _ (by omega) (by omega) (I.const u (pkN p))
      rw [← hk] at nx
      exact nx
    · have hk : pkK (j : Int) p = 2 := eq_of_beq hk2
      refine Ev.yes i1 (Ev.yes rfl (Ev.yes i1 (Ev.yes rfl (evCall (sig_is (by omega) _ u (pkN p)) (Ev.yes rfl (Ev.yes i1 (Ev.yes rfl (Ev.yes i1 (Ev.yes rfl (Ev.yes lk (Ev.yes (by rw [mget_is]; rfl) (Ev.yes (stamp_ok ..) (Ev.yes lw (Ev.yes (by rw [mget_is]; rfl) (Ev.yes (stamp_ok ..) ?_)))))))))))))))
      rw [set_is, set_is]
      have nx := ih (j + 1) _ _ _ _ (by omega) (by omega) (I.other (thS u (pkN p)) (pkN p) (.inl rfl) (fun _ => rfl) (fun _ => rfl))
      have nx : Ev (fun n => law12_TypedScopes_L0 n (.lst 1 xs) (.lst 1 ys) (.int .i64 ((j + 1 : Nat) : Int)) (.lst 19 ((nowT (thS u (pkN p)) l).map thD)) (.lst 2 ((plainF [] (nowT (thS u (pkN p)) l)).map nmD)) (.lst 2 ((withF u 2 k).map nmD)) (.lst 2 ((withF u (pkN p) w).map nmD))) _ := nx
      rw [← hk] at nx
      exact nx
    · have hk : pkK (j : Int) p = 3 := by
        have n1 : ¬ pkK (j : Int) p = 1 := by
          intro e; rw [show pkK (j : Int) p = _ from rfl] at e; rw [beq_eq_false_iff_ne] at hk; exact hk e
        have n2 : ¬ pkK (j : Int) p = 2 := by
          intro e; rw [show pkK (j : Int) p = _ from rfl] at e; rw [beq_eq_false_iff_ne] at hk2; exact hk2 e
        have := pkK_is j (by omega) p
        omega
      refine Ev.yes i1 (Ev.yes rfl (evCall (func_is (by omega) _ u) (Ev.yes rfl (Ev.yes i1 (Ev.yes rfl (Ev.yes i1 (Ev.yes rfl (Ev.yes lk (Ev.yes (by rw [mget_is]; rfl) (Ev.yes (stamp_ok ..) (Ev.yes lw (Ev.yes (by rw [mget_is]; rfl) (Ev.yes (stamp_ok ..) ?_)))))))))))))
      rw [set_is, set_is]
      have nx := ih (j + 1) _ _ _ _ (by omega) (by omega) (I.other (thF u) (pkN p) (.inr rfl) (fun h => absurd rfl h) (fun h => by cases h))
      have nx : Ev (fun n => law12_TypedScopes_L0 n (.lst 1 xs) (.lst 1 ys) (.int .i64 ((j + 1 : Nat) : Int)) (.lst 19 ((nowT (thF u) l).map thD)) (.lst 2 ((plainF [] (nowT (thF u) l)).map nmD)) (.lst 2 ((withF u 3 k).map nmD)) (.lst 2 ((withF u (pkN p) w).map nmD))) _ := nx
      rw [← hk] at nx
      exact nx
end
def cntK (k : Env0) (L : List Nat) : Nat := L.countP fun j => match k[j]? with | some p => p.2 == 1 | none => false
theorem cnt_split {f : Nat → Bool} {j : Nat} : ∀ {L : List Nat}, L.Nodup → j ∈ L → L.countP f = (L.filter fun i => !(i == j)).countP f + (bif f j then 1 else 0)
  | [], _, h => absurd h List.not_mem_nil
  | i :: L, hn, h => by
    have hn := List.nodup_cons.1 hn
    cases hij : i == j with
    | true =>
      have e := eq_of_beq hij
      subst e
      have : (i :: L).filter (fun x => !(x == i)) = L := by
        rw [List.filter_cons_of_neg (by simp)]
        exact List.filter_eq_self.2 fun x hx => by
          have : x ≠ i := fun e => hn.1 (e ▸ hx)
          simpa using this
      rw [this, List.countP_cons]
      cases f i <;> rfl
    | false =>
      have hj : j ∈ L := by
        rcases List.mem_cons.1 h with e | h
        · rw [e] at hij; simp at hij
        · exact h
      rw [List.filter_cons_of_pos (by simp [hij]), List.countP_cons, List.countP_cons, cnt_split hn.2 hj]
      omega
theorem cnt_range (k : Env0) : ∀ m, m ≤ k.length → cntK k (List.range m) = ((k.take m).filter fun p => p.2 == 1).length
  | 0, _ => rfl
  | m + 1, h => by
    have hm : m < k.length := h
    unfold cntK
    rw [List.range_succ, List.countP_append, List.take_succ_eq_append_getElem hm, List.filter_append, List.length_append]
    have := cnt_range k m (by omega)
    unfold cntK at this
    rw [this]
    congr 1
    simp only [List.countP_cons, List.countP_nil, List.getElem?_eq_getElem hm, Nat.zero_add]
    cases hh : k[m].2 == 1 with
    | true => rw [List.filter_cons_of_pos (by simp [hh])]; rfl
    | false => rw [List.filter_cons_of_neg (by simp [hh])]; rfl
theorem left_step (n : Nat) (hs : List D) (j : Nat) : leftM n (hs ++ [.int .i64 (j : Int)]) = (leftM n hs).filter fun i => !(i == j) := by
  unfold leftM
  rw [List.filter_filter]
  congr 1
  funext i
  rw [List.any_append]
  have : ([D.int .i64 (j : Int)].any fun x => x.i == (i : Int)) = (i == j) := by
    show ((((j : Nat) : Int) == ((i : Nat) : Int)) || false) = (i == j)
    rw [Bool.or_false, Bool.eq_iff_iff, beq_iff_eq, beq_iff_eq]
    omega
  rw [this]
  cases (hs.any fun x => x.i == (i : Int)) <;> cases i == j <;> rfl
theorem left_nodup (n : Nat) (hs : List D) : (leftM n hs).Nodup := List.nodup_range.sublist (List.filter_sublist ..)
theorem left_lt {n j : Nat} {hs : List D} (h : j ∈ leftM n hs) : j < n := List.mem_range.1 (List.mem_filter.1 h).1
theorem env_is (a : List D) (e : List D) : Ev (fun n => typed_Scope_Env n (.agg [.lst 19 a, .lst 2 e])) fun r => r = (true, [.agg [.lst 2 e]]) :=
  Ev.eq (fun n => typed_Scope_Env_eq n _ _) (Ev.ret rfl)
def finM (m : Nat) : List D := .int .i64 (m : Int) :: .top :: (List.range m).map fun (j : Nat) => .int .i64 (j : Int)
section
variable {l : List Th} {e k w : Env0} (I : Inv l e k w 20)
include I
theorem walk_is : ∀ (N : Nat) (last : D) (hs : List D) (c : Nat), (leftM k.length hs).length ≤ N → c + N ≤ 1000 →
    Ev (fun n => law12_TypedScopes_L3 n (.int .i64 (c : Int)) (.lst 19 ((l).map thD)) (.lst 2 ((e).map nmD)) (.lst 2 ((k).map nmD)) (.lst 2 ((w).map nmD)) (.lst 0 (.int .i64 (k.length : Int) :: last :: hs))) fun r => r = (false, [.int .i64 ((c + cntK k (leftM k.length hs) : Nat) : Int), .lst 19 ((l).map thD), .lst 2 ((e).map nmD), .lst 2 ((k).map nmD), .lst 2 ((w).map nmD), .lst 0 (finM k.length)]) := by
  intro N
  induction N with
  | zero =>
    intro last hs c hN hc
    have h0 : leftM k.length hs = [] := List.eq_nil_of_length_eq_zero (by omega)
    refine Ev.eq (fun n => law12_TypedScopes_L3_eq n ..) (Ev.yes (by rw [List.length_map]; exact beq_self_eq_true _) ?_)
    refine Ev.pick (false, [.int .i64 ((c + cntK k (leftM k.length hs) : Nat) : Int), .lst 19 ((l).map thD), .lst 2 ((e).map nmD), .lst 2 ((k).map nmD), .lst 2 ((w).map nmD), .lst 0 (finM k.length)]) (fun _ => ?_) (fun j hj => ?_) (fun _ => rfl)
    · rw [h0]; exact Ev.ret rfl
    · have hj : j ∈ leftM k.length hs := hj
      rw [h0] at hj
      exact absurd hj List.not_mem_nil
  | succ N ih =>
    intro last hs c hN hc
    refine Ev.eq (fun n => law12_TypedScopes_L3_eq n ..) (Ev.yes (by rw [List.length_map]; exact beq_self_eq_true _) ?_)
    refine Ev.pick (false, [.int .i64 ((c + cntK k (leftM k.length hs) : Nat) : Int), .lst 19 ((l).map thD), .lst 2 ((e).map nmD), .lst 2 ((k).map nmD), .lst 2 ((w).map nmD), .lst 0 (finM k.length)]) (fun h0 => ?_) (fun j hj => ?_) (fun _ => rfl)
    · have h0 : leftM k.length hs = [] := h0
      rw [h0]; exact Ev.ret rfl
    have hj : j ∈ leftM k.length hs := hj
    have hlt := left_lt hj
    have hg : (k.map nmD)[j]?.getD D.top = nmD k[j] := by rw [List.getElem?_map, List.getElem?_eq_getElem hlt]; rfl
    have hcnt : cntK k (leftM k.length hs) = cntK k (leftM k.length (hs ++ [.int .i64 (j : Int)])) + (bif k[j].2 == 1 then 1 else 0) := by
      rw [left_step]
      have := cnt_split (f := fun j => match k[j]? with | some p => p.2 == 1 | none => false) (left_nodup k.length hs) hj
      simp only [List.getElem?_eq_getElem hlt] at this
      exact this
    have hless : (leftM k.length (hs ++ [.int .i64 (j : Int)])).length ≤ N := by
      rw [left_step]
      have : ((leftM k.length hs).filter fun i => !(i == j)).length < (leftM k.length hs).length := List.length_filter_lt_length_iff_exists.2 ⟨j, hj, by simp⟩
      omega
    have nx := fun c' h => ih (.int .i64 (j : Int)) (hs ++ [.int .i64 (j : Int)]) c' hless h
    have hlk : lookF k[j].1 k = some k[j].2 := mem_look I.kd (List.getElem_mem hlt)
    rw [hg, hcnt]
    have ll := I.ll
    have le := I.el
    generalize k[j] = pq at hlk ⊢
    obtain ⟨u, q⟩ := pq
    have hlk : lookF u k = some q := hlk
    rw [I.hk] at hlk
    cases hT : lookT u l with
    | none => rw [hT] at hlk; cases hlk
    | some x =>
      rw [hT] at hlk
      obtain ⟨b1, b2, b3⟩ := I.hx u x hT
      have b4 := I.he u
      rw [hT] at b4
      obtain ⟨xn, xk, xu, xs, xw, xf⟩ := x
      have hq : xk = q := Option.some.inj hlk
      subst hq
      have hF := tFind_is (l := l) (by omega) (e.map nmD) u
      rw [hT] at hF
      have hE := kfind_is (l := e) (by omega) u
      rw [b4] at hE
      have hw1 : IntKind.i64.wrap ((c : Int) + 1) = ((c + 1 : Nat) : Int) := wrap_succ (by omega)
      refine Ev.yes (by rw [List.length_map]; exact beq_self_eq_true _) (Ev.yes rfl (Ev.yes rfl (evCall hF (Ev.yes rfl (evCall (env_is _ _) (Ev.yes rfl (evCall hE (Ev.yes rfl ?_))))))))
      refine Ev.no (show (xk != xk) = false by simp) ?_
      rcases b1 with b1 | b1 | b1
      · have b1 : xk = 1 := b1
        subst b1
        have b5 : lookF u w = some xu := b2 (fun h => absurd (show (1 : Int) = 3 from h) (by decide))
        have hm : getM (.int .i64 (0 : Int)) (.str u) (w.map nmD) = .int .i64 xu := by rw [mget_is, b5]; rfl
        refine Ev.no rfl (Ev.yes rfl ?_)
        show Ev (fun n => bif notAny (.leaf (.int .i64)) && okTy (.leaf (.int .i64)) (getM (.int .i64 (0 : Int)) (.str u) (w.map nmD)) then (bif xu != (getM (.int .i64 (0 : Int)) (.str u) (w.map nmD)).i then _ else bif xu != xu then _ else _) else none) _
        rw [hm]
        refine Ev.yes rfl (Ev.no (show (xu != xu) = false by simp) (Ev.no (show (xu != xu) = false by simp) (Ev.no rfl (Ev.yes rfl ?_))))
        rw [hw1]
        have nx := nx (c + 1) (by omega)
        rw [show c + 1 + cntK k (leftM k.length (hs ++ [.int .i64 (j : Int)])) = c + (cntK k (leftM k.length (hs ++ [.int .i64 (j : Int)])) + 1) by omega] at nx
        exact nx
      · have b1 : xk = 2 := b1
        subst b1
        have b5 : lookF u w = some xu := b2 (fun h => absurd (show (2 : Int) = 3 from h) (by decide))
        have b3 : xw = 3 := b3 rfl
        subst b3
        have hm : getM (.int .i64 (0 : Int)) (.str u) (w.map nmD) = .int .i64 xu := by rw [mget_is, b5]; rfl
        refine Ev.no rfl (Ev.no rfl (Ev.yes rfl ?_))
        show Ev (fun n => bif notAny (.leaf (.int .i64)) && okTy (.leaf (.int .i64)) (getM (.int .i64 (0 : Int)) (.str u) (w.map nmD)) then (bif xu != (getM (.int .i64 (0 : Int)) (.str u) (w.map nmD)).i then _ else _) else none) _
        rw [hm]
        exact Ev.yes rfl (Ev.no (show (xu != xu) = false by simp) (Ev.no rfl (Ev.no rfl (nx c (by omega)))))
      · have b1 : xk = 3 := b1
        subst b1
        exact Ev.no rfl (Ev.no rfl (Ev.no rfl (Ev.no rfl (nx c (by omega)))))
theorem end_is : Ev (fun n => law12_TypedScopes_L3 n (.int .i64 0) (.lst 19 ((l).map thD)) (.lst 2 ((e).map nmD)) (.lst 2 ((k).map nmD)) (.lst 2 ((w).map nmD)) (.lst 0 [.int .i64 ((k.map nmD).length : Int), .top])) fun r => r = (false, [.int .i64 (e.length : Int), .lst 19 ((l).map thD), .lst 2 ((e).map nmD), .lst 2 ((k).map nmD), .lst 2 ((w).map nmD), .lst 0 (finM k.length)]) := by
  have h0 : leftM k.length [] = List.range k.length := List.filter_eq_self.2 fun _ _ => rfl
  have h := walk_is I k.length .top [] 0 (by rw [h0, List.length_range]; exact Nat.le_refl _) (by have := I.kl; omega)
  rw [h0, cnt_range k k.length (Nat.le_refl _), List.take_length, ← I.count, Nat.zero_add] at h
  rw [List.length_map]
  exact h
end
set_option maxRecDepth 100000 in
theorem awake12 : Ev (fun n => law12_awake n) fun r => r = (true, [.bool true]) :=
  ⟨_, rfl, 24, fun n hn => by
    obtain ⟨m, rfl⟩ : ∃ m, n = m + 24 := ⟨n - 24, by omega⟩
    exact awake12_run m⟩
theorem typedScopes_plain {xs ys : List D} (hx : ∀ x ∈ xs, ∃ s : List UInt8, x = .str s) (hy : ∀ y ∈ ys, ∃ m : Int, y = .int .i64 m) : Ev (fun n => law12_TypedScopes n (.lst 1 xs) (.lst 1 ys)) fun r => r = (true, [.bool true]) := by
  refine Ev.eq (fun n => law12_TypedScopes_eq n _ _) (evCall awake12 (Ev.yes rfl (Ev.no rfl ?_)))
  refine Ev.bindL (fill_is hx hy _ 0 [] [] [] [] rfl (by omega) Inv.nil) (fun ds h => by obtain ⟨_, _, _, _, _, h, _⟩ := h; cases h) fun ds h => ?_
  obtain ⟨j', l, e, k, w, h, I⟩ := h
  cases h
  have ll := I.ll
  refine Ev.yes rfl (evLoop (end_is I) (Ev.yes rfl (evCall (tFind_is (by omega) _ _) (Ev.yes rfl ?_))))
  generalize hz : ([110, 111, 32, 115, 117, 99, 104, 32, 110, 97, 109, 101] : List UInt8) = z
  have hm := mget_is z k
  show Ev (fun n => bif notAny (.leaf (.int .i64)) && okTy (.leaf (.int .i64)) (getM (.int .i64 (0 : Int)) (.str z) (k.map nmD)) then (bif ((((lookT z l).getD th0).kd == 0) == ((getM (.int .i64 (0 : Int)) (.str z) (k.map nmD)).i == 0)) then _ else _) else none) _
  rw [hm, I.hk z]
  refine Ev.yes rfl (Ev.yes ?_ (evCall (env_is _ _) (Ev.yes rfl (evCall (Ev.eq (fun n => konst_Env_Len_eq n _) (Ev.ret rfl)) (Ev.yes rfl (Ev.ret ?_))))))
  · cases lookT z l with
    | none => rfl
    | some x => exact beq_self_eq_true _
  · show (true, [D.bool (((e.map nmD).length : Int) == (e.length : Int))]) = _
    rw [List.length_map, beq_self_eq_true]
end Go.Proofs.YthlhbocobgkdmaaGreat
