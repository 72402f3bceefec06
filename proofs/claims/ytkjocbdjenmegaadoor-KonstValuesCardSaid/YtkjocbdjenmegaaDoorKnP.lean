/- Konst: a map of names; the law KonstValues, plain. -/
import Derived.Test.YtkjocbdjenmegaaDoorKnO
namespace Go.Proofs.YtkjocbdjenmegaaDoor
open Go.AE
set_option linter.unusedVariables false
theorem findM_is (t : List UInt8) : ∀ l : Env0, findM (.str t) (l.map nmD) = idxF t l
  | [] => rfl
  | p :: r => by
    show (bif (t == p.1) then some 0 else (match findM (.str t) (r.map nmD) with | some i => some (i + 1) | none => none)) = bif p.1 == t then some 0 else (idxF t r).map (· + 1)
    rw [findM_is t r, BEq.comm (a := t)]
    cases idxF t r <;> rfl
theorem put_is (t : List UInt8) (m : Int) (l : Env0) : putM (.str t) (.int .i64 m) (l.map nmD) = (withF t m l).map nmD := by
  unfold putM withF
  rw [findM_is]
  cases idxF t l with
  | none => simp [nmD]
  | some i => simp [nmD, List.map_set]
theorem mget_is (t : List UInt8) (l : Env0) : getM (.int .i64 0) (.str t) (l.map nmD) = .int .i64 ((lookF t l).getD 0) := by
  unfold getM
  rw [findM_is]
  cases h : idxF t l with
  | none => rw [idxF_none h]; rfl
  | some i =>
    obtain ⟨hi, h1, h2⟩ := idxF_some h
    rw [h2]
    simp only [List.getElem?_map, List.getElem?_eq_getElem hi, Option.map_some, Option.getD_some]
    rfl
theorem mhas_is (t : List UInt8) (l : Env0) : hasM (.str t) (l.map nmD) = (lookF t l).isSome := by
  unfold hasM
  rw [findM_is]
  cases h : idxF t l with
  | none => rw [idxF_none h]; rfl
  | some i =>
    obtain ⟨hi, h1, h2⟩ := idxF_some h
    rw [h2]; rfl
def foldF (l : Env0) : Env0 := l.foldl (fun a q => withF q.1 q.2 a) []
theorem foldF_snoc (l : Env0) (q : List UInt8 × Int) : foldF (l ++ [q]) = withF q.1 q.2 (foldF l) := by
  unfold foldF
  rw [List.foldl_append]; rfl
theorem foldF_len (l : Env0) : (foldF l).length ≤ l.length := by
  have h : ∀ (l a : Env0), (l.foldl (fun a q => withF q.1 q.2 a) a).length ≤ a.length + l.length := by
    intro l
    induction l with
    | nil => intro a; simp
    | cons q l ih =>
      intro a
      have h1 := ih (withF q.1 q.2 a)
      have h2 := withF_len q.1 q.2 a
      simp only [List.foldl_cons, List.length_cons]
      omega
  have h1 := h l []
  have h2 : (foldF l).length = (l.foldl (fun a q => withF q.1 q.2 a) ([] : Env0)).length := rfl
  rw [h2]
  simpa using h1
theorem env2_is {xs : List D} (hx : ∀ y ∈ xs, IsNm y) : Ev (fun n => law11_Env n (.lst 2 xs)) fun r => ∃ lr : Env0, r = (true, [.agg [.lst 2 ((foldF lr).map nmD)], .lst 2 (lr.map nmD)]) ∧ lr.length ≤ 12 := by
  have stop : ∀ (j : Nat) (lr : Env0), lr.length ≤ 12 → Ev (fun n => law11_Env_L0_j1 n false (j : Int) xs ((foldF lr).map nmD) (lr.map nmD) []) fun r => ∃ (j' : Int) (lr : Env0), r = (false, [.lst 2 xs, .int .i64 j', .lst 2 (lr.map nmD), .lst 2 [], .lst 2 ((foldF lr).map nmD)]) ∧ lr.length ≤ 12 :=
    fun j lr h => evDfn (fun n => law11_Env_L0_j1_def n _ _ _ _ _ _) (Ev.no rfl (Ev.ret ⟨_, lr, rfl, h⟩))
  have loop : ∀ (m j : Nat) (lr : Env0), 12 - j = m → j ≤ 12 → lr.length ≤ j →
      Ev (fun n => law11_Env_L0 n (.lst 2 xs) (.int .i64 (j : Int)) (.lst 2 (lr.map nmD)) (.lst 2 []) (.lst 2 ((foldF lr).map nmD))) fun r => ∃ (j' : Int) (lr : Env0), r = (false, [.lst 2 xs, .int .i64 j', .lst 2 (lr.map nmD), .lst 2 [], .lst 2 ((foldF lr).map nmD)]) ∧ lr.length ≤ 12 := by
    intro m
    induction m with
    | zero =>
      intro j lr hm hj h2
      have e : decide ((j : Int) < 12) = false := decide_eq_false (by omega)
      refine Ev.eq (fun n => law11_Env_L0_eq n _ _ _ _ _) ?_
      rw [e]
      exact Ev.test (fun _ => stop j lr (by omega)) fun _ => stop j lr (by omega)
    | succ m ih =>
      intro j lr hm hj h2
      have e : decide ((j : Int) < 12) = true := decide_eq_true (by omega)
      refine Ev.eq (fun n => law11_Env_L0_eq n _ _ _ _ _) ?_
      rw [e]
      refine Ev.test (fun hjl => ?_) fun _ => stop j lr (by omega)
      have hj2 : j < xs.length := by have := of_decide_eq_true hjl; omega
      have hw : IntKind.i64.wrap ((j : Int) + 1) = ((j + 1 : Nat) : Int) := wrap_succ (by omega)
      obtain ⟨t, v, hx2⟩ := hx xs[j] (List.getElem_mem hj2)
      have hfl := foldF_len lr
      have hwith := with_is (l := foldF lr) (by omega) t (clampI v)
      refine evDfn (fun n => law11_Env_L0_j1_def n _ _ _ _ _ _) (Ev.yes rfl (Ev.yes (in_range hj2) ?_))
      rw [get_nat hj2, hx2, hw]
      have nx := ih (j + 1) (lr ++ [(t, clampI v)]) (by omega) (by omega) (by rw [List.length_append, List.length_singleton]; omega)
      rw [foldF_snoc, List.map_append] at nx
      have hp : plainDs konst_Env_With.osk [.lst 2 ((withF t (clampI v) (foldF lr)).map nmD)] = true := by
        show (((withF t (clampI v) (foldF lr)).map nmD).all plainD && true) = true
        rw [nm_plain]; rfl
      exact Ev.yes rfl (evCall hwith (Ev.yes (and_tt rfl hp) (Ev.yes (Nat.ble_eq_true_of_le (by rw [List.length_map]; simp only [maxLst]; omega)) nx)))
  refine Ev.eq (fun n => law11_Env_eq n _) (Ev.bindL (loop 12 0 [] rfl (Nat.zero_le _) (Nat.zero_le _)) (fun ds h => by obtain ⟨_, _, h, _⟩ := h; cases h) fun ds h => ?_)
  obtain ⟨j', lr, h, he⟩ := h
  cases h
  exact Ev.yes rfl (Ev.ret ⟨lr, rfl, he⟩)
theorem names_is (t : List UInt8) (k : Int) (L : List D) {lr : Env0} (hl : lr.length ≤ 12) : ∀ (m j : Nat), lr.length - j = m → j ≤ lr.length →
    Ev (fun n => law11_KonstValues_L0 n (.str t) (.int .i64 k) (.int .i64 ((lr.map nmD).length : Int)) (.int .i64 (j : Int)) (.lst 2 L) (.lst 2 ((foldF (lr.take j)).map nmD)) (.lst 2 (lr.map nmD))) fun r =>
      ∃ a b : Int, r = (false, [.str t, .int .i64 k, .int .i64 a, .int .i64 b, .lst 2 L, .lst 2 ((foldF lr).map nmD), .lst 2 (lr.map nmD)]) := by
  intro m
  induction m with
  | zero =>
    intro j hm hj
    have : j = lr.length := by omega
    subst this
    refine Ev.eq (fun n => law11_KonstValues_L0_eq n _ _ _ _ _ _ _) (Ev.no (decide_eq_false (by rw [List.length_map]; omega)) ?_)
    rw [List.take_length]
    exact Ev.ret ⟨_, _, rfl⟩
  | succ m ih =>
    intro j hm hj
    have hj2 : j < lr.length := by omega
    have hj3 : j < (lr.map nmD).length := by rw [List.length_map]; exact hj2
    have hw : IntKind.i64.wrap ((j : Int) + 1) = ((j + 1 : Nat) : Int) := wrap_succ (by omega)
    have hfl := foldF_len (lr.take j)
    rw [List.length_take] at hfl
    refine Ev.eq (fun n => law11_KonstValues_L0_eq n _ _ _ _ _ _ _) (Ev.yes (decide_eq_true (by omega)) (Ev.yes (in_range hj3) ?_))
    rw [get_nat hj3, List.getElem_map, hw]
    have nx := ih (j + 1) (by omega) hj2
    have e : lr.take (j + 1) = lr.take j ++ [lr[j]] := by rw [List.take_add_one, List.getElem?_eq_getElem hj2]; rfl
    rw [e, foldF_snoc, ← put_is] at nx
    exact Ev.yes rfl (Ev.yes (Nat.ble_eq_true_of_le (by rw [List.length_map]; simp only [maxLst]; omega)) nx)
theorem withF_len2 (t : List UInt8) (n : Int) (l : Env0) : ((withF t n l).length : Int) = bif (lookF t l).isSome then (l.length : Int) else (l.length : Int) + 1 := by
  unfold withF
  cases h : idxF t l with
  | none => rw [idxF_none h]; simp
  | some i =>
    obtain ⟨hi, h1, h2⟩ := idxF_some h
    rw [h2]; simp
theorem len_is (l : List D) : Ev (fun n => konst_Env_Len n (.agg [.lst 2 l])) fun r => r = (true, [.int .i64 (l.length : Int)]) := Ev.eq (fun n => konst_Env_Len_eq n _) (Ev.ret rfl)
theorem values_j2 {lo : Env0} (hl : lo.length ≤ 12) (t : List UInt8) (k a b : Int) (X : List D) {g : Int} (hg : g = ((withF t k lo).length : Int)) :
    Ev (fun n => law11_KonstValues_j2 n ((lookF t lo).getD 0) g [.int .i64 ((lookF t lo).getD 0), .bool (lookF t lo).isSome] [.str t, .int .i64 k, .int .i64 a, .int .i64 b, .lst 2 (lo.map nmD), .lst 2 (lo.map nmD), .lst 2 X]
      [.int .i64 ((lookF t (withF t k lo)).getD 0), .bool (lookF t (withF t k lo)).isSome] [.int .i64 ((lookF t lo).getD 0), .bool (lookF t lo).isSome] [.lst 2 ((withF t k lo).map nmD)]) fun r => r = (true, [.bool true]) := by
  have e : lookF t (withF t k lo) = some k := by rw [lookF_with]; simp
  have hh := mhas_is t lo
  refine evDfn (fun n => law11_KonstValues_j2_def n _ _ _ _ _ _ _) ?_
  simp only [nth, D.s, D.l, D.b, D.i, e, hh]
  refine Ev.yes (by simp) (Ev.yes (by simp) (Ev.yes rfl (Ev.yes (by simp) (Ev.yes (by simp) (Ev.yes (by simp) (evCall (len_is _) (Ev.yes rfl (Ev.yes (by simp [nth, D.i]) (evCall (len_is _) (Ev.yes rfl (Ev.ret ?_)))))))))))
  rw [hg]
  simp [nth, D.i]
/-! A number's expression, the program's own side alone. -/
def OwnIs (x : D) (v : Int) : Prop := IsE x ∧ ∀ L : List D, Ev (fun n => konst_evaler_expr n x (.lst 2 L) (.int .i64 0) (.int .i64 0) (.int .i64 0) (.int .i64 0)) fun r => r = (true, st0 v L)
theorem odec_val {u : Nat} (h : u < 2147483648) : OwnIs (exD 1 0 0 0 (itoaS (u : Int)) []) (u : Int) := by
  obtain ⟨p1, p2⟩ := dec_parse h
  have hl := itoa_len (u : Int)
  exact ⟨⟨_, _, _, _, _, _, rfl⟩, fun L => onum_is 0 0 0 [] L (by omega) p1 p2 ⟨by omega, by omega⟩⟩
theorem oval_pos {m : Int} (h0 : 0 ≤ m) (h1 : m ≤ 2147483647) : Ev (fun n => konst_Value n (.int .i64 m)) fun r => ∃ x, r = (true, [x]) ∧ OwnIs x m := by
  obtain ⟨u, rfl⟩ : ∃ u : Nat, m = (u : Int) := ⟨m.toNat, by omega⟩
  have e : max (-2147483648 : Int) (min (u : Int) 2147483647) = (u : Int) := by omega
  refine Ev.eq (fun n => konst_Value_eq n _) ?_
  rw [e]
  exact Ev.no (by simp) (Ev.no (decide_eq_false (by omega)) (evCall (itoa_is (n := (u : Int)) (by omega) (by omega)) (Ev.yes rfl (Ev.ret ⟨exD 1 0 0 0 (itoaS (u : Int)) [], rfl, odec_val (by omega)⟩))))
theorem oval_is (a : Int) : Ev (fun n => konst_Value n (.int .i64 a)) fun r => ∃ x, r = (true, [x]) ∧ OwnIs x (clampI a) := by
  obtain ⟨c1, c2⟩ := clamp_in a
  refine Ev.eq (fun n => konst_Value_eq n _) ?_
  show Ev (fun n => bif (clampI a == -2147483648) then _ else bif (decide (clampI a < 0)) then AE.bindC (konst_Value n (.int .i64 (IntKind.i64.wrap (0 - clampI a)))) _ else AE.bindC (strconv_Itoa n (.int .i64 (clampI a))) _) _
  generalize clampI a = m at c1 c2 ⊢
  cases hm : (m == -2147483648) with
  | true =>
    have hm : m = -2147483648 := by simpa using hm
    subst hm
    exact Ev.yes rfl (Ev.ret ⟨exD 1 0 0 0 leastT [], rfl, ⟨_, _, _, _, _, _, rfl⟩, fun L => onum_is 0 0 0 [] L (by decide) least_parse least_int ⟨by omega, by omega⟩⟩)
  | false =>
    have hm : m ≠ -2147483648 := by simpa using hm
    refine Ev.no rfl ?_
    cases hn : decide (m < 0) with
    | true =>
      have hn := of_decide_eq_true hn
      have ew : IntKind.i64.wrap (0 - m) = -m := by rw [wrap_id (by omega) (by omega)]; omega
      rw [ew]
      refine Ev.yes rfl (Ev.bindC (oval_pos (m := -m) (by omega) (by omega)) ?_)
      rintro _ _ ⟨x, h, hx, hv⟩
      cases h
      obtain ⟨k, a', b, c, t, xs, rfl⟩ := hx
      have hx : IsE (exD k a' b c t xs) := ⟨_, _, _, _, _, _, rfl⟩
      refine ⟨rfl, Ev.yes rfl (Ev.ret ⟨exD 3 0 0 0 [45] [exD k a' b c t xs], rfl, ⟨_, _, _, _, _, _, rfl⟩, fun L => ?_⟩)⟩
      have ho := oneg_is 0 0 0 hx (v := -m) ⟨by omega, by omega⟩ ⟨by omega, by omega⟩ (hv L)
      rw [Int.neg_neg] at ho
      exact ho
    | false =>
      have hn := of_decide_eq_false hn
      obtain ⟨u, rfl⟩ : ∃ u : Nat, m = (u : Int) := ⟨m.toNat, by omega⟩
      exact Ev.no rfl (evCall (itoa_is (n := (u : Int)) (by omega) (by omega)) (Ev.yes rfl (Ev.ret ⟨exD 1 0 0 0 (itoaS (u : Int)) [], rfl, odec_val (by omega)⟩)))
theorem konstValues_plain {xs : List D} (hx : ∀ y ∈ xs, IsNm y) (a0 : Int) (t : List UInt8) : Ev (fun n => law11_KonstValues n (.int .i64 a0) (.lst 2 xs) (.str t)) fun r => r = (true, [.bool true]) := by
  refine Ev.eq (fun n => law11_KonstValues_eq n _ _ _) (evCall awake11 (Ev.yes rfl (Ev.no rfl (Ev.bindC (env2_is hx) ?_))))
  rintro _ _ ⟨lr, h, hl⟩; cases h
  refine ⟨rfl, Ev.yes rfl (Ev.bindC (oval_is a0) ?_)⟩
  rintro _ _ ⟨x, h, hv⟩; cases h
  obtain ⟨kk, p, q, c, tt, ys, rfl⟩ := hv.1
  have h1 : Ev (fun n => konst_Eval n (exD kk p q c tt ys) (.agg [.lst 2 ((foldF lr).map nmD)])) fun r => r = (true, [.int .i64 (clampI a0), posD 0 0 0, .int .i64 0]) :=
    Ev.eq (fun n => konst_Eval_eq n _ _ _ _ _ _ _) (evCall (hv.2 _) (Ev.yes rfl (Ev.no rfl (Ev.ret rfl))))
  refine ⟨rfl, Ev.yes rfl (evCall h1 (Ev.yes rfl (Ev.no rfl ?_)))⟩
  have hfl := foldF_len lr
  have hlo : (foldF lr).length ≤ 12 := by omega
  have e0 : (clampI a0 != max (-2147483648 : Int) (min a0 2147483647)) = false := by simp [clampI]
  show Ev (fun n => law11_KonstValues_j1 n (clampI a0 != max (-2147483648 : Int) (min a0 2147483647)) t a0 _) _
  rw [e0]
  refine evDfn (fun n => law11_KonstValues_j1_def n _ _ _ _) (Ev.no rfl (Ev.bindL (names_is t (clampI a0) ((foldF lr).map nmD) hl lr.length 0 (by omega) (Nat.zero_le _)) (fun ds h => by obtain ⟨_, _, h⟩ := h; cases h) fun ds h => ?_))
  obtain ⟨a, b, h⟩ := h
  cases h
  have hg := mget_is t (foldF lr)
  have hh := mhas_is t (foldF lr)
  refine Ev.yes rfl (evCall (kfind_is (by omega) t) (Ev.yes rfl ?_))
  refine Ev.yes (by exact congrArg (fun x => notAny (.leaf (.int .i64)) && okTy (.leaf (.int .i64)) x) hg) (evCall (with_is (by omega) t (clampI a0)) (Ev.yes rfl (evCall (kfind_is (by have := withF_len t (clampI a0) (foldF lr); omega) t) (Ev.yes rfl (evCall (kfind_is (by omega) t) (Ev.yes rfl ?_))))))
  have hw : IntKind.i64.wrap (((foldF lr).map nmD).length + 1 : Int) = ((foldF lr).length : Int) + 1 := by rw [List.length_map]; exact wrap_id (by omega) (by omega)
  have hlen := withF_len2 t (clampI a0) (foldF lr)
  refine Ev.test (fun hc => ?_) fun hc => ?_
  · have hc : (!(hasM (.str t) ((foldF lr).map nmD))) = true := hc
    rw [hh] at hc
    have hc : (lookF t (foldF lr)).isSome = false := by simpa using hc
    have := values_j2 hlo t (clampI a0) a b (lr.map nmD) (g := IntKind.i64.wrap (((foldF lr).map nmD).length + 1 : Int)) (by rw [hw, hlen, hc]; rfl)
    show Ev (fun n => law11_KonstValues_j2 n (getM (.int .i64 0) (.str t) ((foldF lr).map nmD)).i _ _ _ _ _ _) _
    rw [hg]
    exact this
  · have hc : (!(hasM (.str t) ((foldF lr).map nmD))) = false := hc
    rw [hh] at hc
    have hc : (lookF t (foldF lr)).isSome = true := by simpa using hc
    have := values_j2 hlo t (clampI a0) a b (lr.map nmD) (g := (((foldF lr).map nmD).length : Int)) (by rw [hlen, hc, List.length_map]; rfl)
    show Ev (fun n => law11_KonstValues_j2 n (getM (.int .i64 0) (.str t) ((foldF lr).map nmD)).i _ _ _ _ _ _) _
    rw [hg]
    exact this
end Go.Proofs.YtkjocbdjenmegaaDoor
