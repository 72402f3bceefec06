/- Konst: names with numbers, the first error. -/
import Derived.Test.YtkjocbdjenmegaaDoorLitE
import Derived.Test.YtkjocbdjenmegaaDoorRefD
namespace Go.Proofs.YtkjocbdjenmegaaDoor
open Go.AE
set_option linter.unusedVariables false
abbrev Env0 := List (List UInt8 × Int)
def nmD (p : List UInt8 × Int) : D := .agg [.str p.1, .int .i64 p.2]
def lookF (t : List UInt8) : Env0 → Option Int
  | [] => none
  | p :: r => bif p.1 == t then some p.2 else lookF t r
def idxF (t : List UInt8) : Env0 → Option Nat
  | [] => none
  | p :: r => bif p.1 == t then some 0 else (idxF t r).map (· + 1)
def idxI (t : List UInt8) (l : Env0) : Int := match idxF t l with
  | some i => (i : Int)
  | none => -1
def withF (t : List UInt8) (n : Int) (l : Env0) : Env0 := match idxF t l with
  | some i => l.set i (t, n)
  | none => l ++ [(t, n)]
theorem idxF_some {t : List UInt8} : ∀ {l : Env0} {i : Nat}, idxF t l = some i → ∃ h : i < l.length, l[i].1 = t ∧ lookF t l = some l[i].2
  | [], i, h => by cases h
  | p :: r, i, h => by
    unfold idxF at h
    unfold lookF
    cases hp : p.1 == t with
    | true =>
      rw [hp] at h
      cases h
      exact ⟨by simp, eq_of_beq hp, rfl⟩
    | false =>
      rw [hp] at h
      simp only [cond_false] at h ⊢
      cases hr : idxF t r with
      | none => rw [hr] at h; cases h
      | some k =>
        rw [hr] at h
        cases h
        obtain ⟨h1, h2, h3⟩ := idxF_some hr
        exact ⟨by simp; omega, h2, h3⟩
theorem idxF_none {t : List UInt8} : ∀ {l : Env0}, idxF t l = none → lookF t l = none
  | [], h => rfl
  | p :: r, h => by
    unfold idxF at h
    unfold lookF
    cases hp : p.1 == t with
    | true => rw [hp] at h; cases h
    | false =>
      rw [hp] at h
      simp only [cond_false] at h ⊢
      cases hr : idxF t r with
      | none => exact idxF_none hr
      | some k => rw [hr] at h; cases h
theorem lookF_set {t u : List UInt8} {n : Int} : ∀ {l : Env0} {i : Nat}, idxF t l = some i → lookF u (l.set i (t, n)) = bif t == u then some n else lookF u l
  | [], i, h => by cases h
  | p :: r, i, h => by
    unfold idxF at h
    cases hp : p.1 == t with
    | true =>
      rw [hp] at h
      cases h
      have e := eq_of_beq hp
      show (bif t == u then some n else lookF u r) = bif t == u then some n else bif p.1 == u then some p.2 else lookF u r
      rw [e]
      cases t == u <;> rfl
    | false =>
      rw [hp] at h
      simp only [cond_false] at h
      cases hr : idxF t r with
      | none => rw [hr] at h; cases h
      | some k =>
        rw [hr] at h
        cases h
        show (bif p.1 == u then some p.2 else lookF u (r.set k (t, n))) = bif t == u then some n else bif p.1 == u then some p.2 else lookF u r
        rw [lookF_set hr]
        cases hu : p.1 == u with
        | false => rfl
        | true =>
          have e := eq_of_beq hu
          have : (t == u) = false := by
            cases ht : t == u with
            | false => rfl
            | true =>
              have e2 := eq_of_beq ht
              rw [e, ← e2] at hp
              simp at hp
          rw [this]; rfl
theorem lookF_app {t u : List UInt8} {n : Int} : ∀ {l : Env0}, idxF t l = none → lookF u (l ++ [(t, n)]) = bif t == u then some n else lookF u l
  | [], h => rfl
  | p :: r, h => by
    unfold idxF at h
    cases hp : p.1 == t with
    | true => rw [hp] at h; cases h
    | false =>
      rw [hp] at h
      simp only [cond_false] at h
      have hr : idxF t r = none := by
        cases hr : idxF t r with
        | none => rfl
        | some k => rw [hr] at h; cases h
      show (bif p.1 == u then some p.2 else lookF u (r ++ [(t, n)])) = bif t == u then some n else bif p.1 == u then some p.2 else lookF u r
      rw [lookF_app hr]
      cases hu : p.1 == u with
      | false => rfl
      | true =>
        have e := eq_of_beq hu
        have : (t == u) = false := by
          cases ht : t == u with
          | false => rfl
          | true =>
            have e2 := eq_of_beq ht
            rw [e, ← e2] at hp
            simp at hp
        rw [this]; rfl
theorem lookF_with (t u : List UInt8) (n : Int) (l : Env0) : lookF u (withF t n l) = bif t == u then some n else lookF u l := by
  unfold withF
  cases h : idxF t l with
  | none => exact lookF_app h
  | some i => exact lookF_set h
theorem withF_len (t : List UInt8) (n : Int) (l : Env0) : (withF t n l).length ≤ l.length + 1 := by
  unfold withF
  cases idxF t l with
  | none => simp
  | some i => simp
theorem place1_is (s t : List UInt8) (m : Int) : Ev (fun n => konst_Env_place_1 n (.agg [.str s, .int .i64 m]) (.str t)) fun r => r = (true, [.bool (s == t), .str t]) :=
  Ev.eq (fun n => konst_Env_place_1_eq n _ _ _) (Ev.ret rfl)
theorem index_is {l : Env0} (hl : l.length ≤ 1048576) (t : List UInt8) : ∀ (m j : Nat), l.length - j = m → j ≤ l.length →
    Ev (fun n => slices_IndexFunc_named_L0 n (.lst 2 (l.map nmD)) (.int .i64 (l.length : Int)) (.int .i64 (j : Int)) (.str t)) fun r => match idxF t (l.drop j) with
      | some i => r = (true, [.int .i64 ((j + i : Nat) : Int), .str t])
      | none => ∃ j' : Int, r = (false, [.lst 2 (l.map nmD), .int .i64 (l.length : Int), .int .i64 j', .str t]) := by
  intro m
  induction m with
  | zero =>
    intro j hm hj
    rw [List.drop_eq_nil_of_le (by omega)]
    exact Ev.eq (fun n => slices_IndexFunc_named_L0_eq n _ _ _ _) (Ev.no (decide_eq_false (by omega)) (Ev.ret ⟨_, rfl⟩))
  | succ m ih =>
    intro j hm hj
    have hj2 : j < l.length := by omega
    have hj3 : j < (l.map nmD).length := by rw [List.length_map]; exact hj2
    have hw : IntKind.i64.wrap ((j : Int) + 1) = ((j + 1 : Nat) : Int) := wrap_succ (by omega)
    refine Ev.eq (fun n => slices_IndexFunc_named_L0_eq n _ _ _ _) (Ev.yes (decide_eq_true (by omega)) (Ev.yes (in_range hj3) ?_))
    rw [get_nat hj3, List.getElem_map, hw, drop_cons hj2]
    have nx := ih (j + 1) (by omega) hj2
    refine Ev.yes rfl (evCall (place1_is _ t _) (Ev.yes rfl ?_))
    show Ev (fun n => bif (l[j].1 == t) then _ else _) _
    unfold idxF
    cases hp : l[j].1 == t with
    | true => exact Ev.yes rfl (Ev.ret rfl)
    | false =>
      refine Ev.no rfl (nx.mono fun r hr => ?_)
      simp only [cond_false]
      cases hi : idxF t (l.drop (j + 1)) with
      | none =>
        rw [hi] at hr
        exact hr
      | some i =>
        rw [hi] at hr
        show r = (true, [.int .i64 ((j + (i + 1) : Nat) : Int), .str t])
        rw [show j + (i + 1) = j + 1 + i by omega]
        exact hr
theorem place_is {l : Env0} (hl : l.length ≤ 1048576) (t : List UInt8) : Ev (fun n => konst_Env_place n (.agg [.lst 2 (l.map nmD)]) (.str t)) fun r => r = (true, [.int .i64 (idxI t l)]) := by
  have hx : Ev (fun n => slices_IndexFunc_named n (.lst 2 (l.map nmD)) (.str t)) fun r => r = (true, [.int .i64 (idxI t l), .str t]) := by
    refine Ev.eq (fun n => slices_IndexFunc_named_eq n _ _) ?_
    rw [List.length_map]
    have hi := index_is hl t l.length 0 rfl (Nat.zero_le _)
    rw [List.drop_zero] at hi
    unfold idxI
    cases hf : idxF t l with
    | none =>
      simp only [hf] at hi
      refine Ev.bindL hi (fun ds h => by obtain ⟨_, h⟩ := h; cases h) fun ds h => ?_
      obtain ⟨_, h⟩ := h
      cases h
      exact Ev.yes rfl (Ev.ret rfl)
    | some i =>
      simp only [hf] at hi
      refine Ev.bindL hi (fun ds h => ?_) fun ds h => by cases h
      rw [h, Nat.zero_add]
  exact Ev.eq (fun n => konst_Env_place_eq n _ _) (evCall hx (Ev.yes rfl (Ev.ret rfl)))
theorem kfind_is {l : Env0} (hl : l.length ≤ 1048576) (t : List UInt8) : Ev (fun n => konst_Env_Find n (.agg [.lst 2 (l.map nmD)]) (.str t)) fun r => r = (true, [.int .i64 ((lookF t l).getD 0), .bool (lookF t l).isSome]) := by
  refine Ev.eq (fun n => konst_Env_Find_eq n _ _) (evCall (place_is hl t) (Ev.yes rfl ?_))
  unfold idxI
  cases hf : idxF t l with
  | none =>
    rw [idxF_none hf]
    exact Ev.no rfl (Ev.ret rfl)
  | some i =>
    obtain ⟨hi, h1, h2⟩ := idxF_some hf
    have hi2 : i < (l.map nmD).length := by rw [List.length_map]; exact hi
    refine Ev.yes (decide_eq_true (show (i : Int) ≥ 0 by omega)) (Ev.yes (in_range hi2) ?_)
    have hg : (l.map nmD)[((i : Nat) : Int).toNat]?.getD D.top = nmD l[i] := by rw [get_nat hi2, List.getElem_map]
    rw [h2]
    refine Ev.yes (show aggD ((l.map nmD)[((i : Nat) : Int).toNat]?.getD D.top) = true by rw [hg]; rfl) (Ev.yes (show (notAny (.leaf (.int .i64)) && okTy (.leaf (.int .i64)) (((l.map nmD)[((i : Nat) : Int).toNat]?.getD D.top).at_ 1)) = true by rw [hg]; rfl) (Ev.ret ?_))
    show (true, [D.int .i64 (((l.map nmD)[((i : Nat) : Int).toNat]?.getD D.top).at_ 1).i, D.bool true]) = _
    rw [hg]; rfl
theorem clone_is {l : List D} (hl : l.length ≤ 1048576) : Ev (fun n => slices_Clone_named n (.lst 2 l)) fun r => r = (true, [.lst 2 l]) := by
  refine Ev.eq (fun n => slices_Clone_named_eq n l) ?_
  have hb : Nat.ble (0 + l.length) maxLst = true := Nat.ble_eq_true_of_le (by simp only [maxLst]; omega)
  refine Ev.test (fun he => ?_) fun he => Ev.yes hb (Ev.ret rfl)
  have : l = [] := by simpa using he
  subst this
  exact Ev.agree (Ev.ret rfl) (Ev.yes rfl (Ev.ret rfl)) rfl
theorem with_is {l : Env0} (hl : l.length ≤ 1048576) (t : List UInt8) (m : Int) : Ev (fun n => konst_Env_With n (.agg [.lst 2 (l.map nmD)]) (.str t) (.int .i64 m)) fun r => r = (true, [.lst 2 ((withF t m l).map nmD)]) := by
  refine Ev.eq (fun n => konst_Env_With_eq n _ _ _) (evCall (clone_is (by rw [List.length_map]; exact hl)) (Ev.yes rfl (evCall (place_is hl t) (Ev.yes rfl ?_))))
  unfold idxI withF
  cases hf : idxF t l with
  | none =>
    refine Ev.no rfl (Ev.yes (Nat.ble_eq_true_of_le (by show (l.map nmD).length + 1 ≤ maxLst; rw [List.length_map]; simp only [maxLst]; omega)) (Ev.ret ?_))
    rw [List.map_append]; rfl
  | some i =>
    obtain ⟨hi, h1, h2⟩ := idxF_some hf
    have hi2 : i < (l.map nmD).length := by rw [List.length_map]; exact hi
    refine Ev.yes (decide_eq_true (show (i : Int) ≥ 0 by omega)) (Ev.yes (in_range hi2) ?_)
    show Ev (fun n => bif okTy ty_si ((l.map nmD)[((i : Nat) : Int).toNat]?.getD D.top) && true && true then some (true, [.lst 2 ((l.map nmD).set ((i : Nat) : Int).toNat (updD ((l.map nmD)[((i : Nat) : Int).toNat]?.getD D.top) 1 (.int .i64 m)))]) else none) _
    rw [get_nat hi2, List.getElem_map, Int.toNat_natCast]
    refine Ev.yes rfl (Ev.ret ?_)
    have : updD (nmD l[i]) 1 (.int .i64 m) = nmD (t, m) := by rw [← h1]; rfl
    rw [this, List.map_set]
def posD (a b c : Int) : D := .agg [.int .i64 a, .int .i64 b, .int .i64 c]
/-- The first error stays. -/
theorem fail_new (a b c e : Int) (L : List D) (p q r : Int) : Ev (fun n => konst_evaler_fail n (posD a b c) (.int .i64 e) (.lst 2 L) (.int .i64 p) (.int .i64 q) (.int .i64 r) (.int .i64 0)) fun x => x = (true, [.int .i64 0, .lst 2 L, .int .i64 a, .int .i64 b, .int .i64 c, .int .i64 e]) :=
  Ev.eq (fun n => konst_evaler_fail_eq n _ _ _ _ _ _ _ _ _) (Ev.yes rfl (Ev.ret rfl))
theorem fail_old (a b c e : Int) (L : List D) (p q r : Int) {f : Int} (hf : f ≠ 0) : Ev (fun n => konst_evaler_fail n (posD a b c) (.int .i64 e) (.lst 2 L) (.int .i64 p) (.int .i64 q) (.int .i64 r) (.int .i64 f)) fun x => x = (true, [.int .i64 0, .lst 2 L, .int .i64 p, .int .i64 q, .int .i64 r, .int .i64 f]) :=
  Ev.eq (fun n => konst_evaler_fail_eq n _ _ _ _ _ _ _ _ _) (Ev.no (by simp [hf]) (Ev.ret rfl))
def trI (b : Bool) : Int := bif b then 1 else 0
theorem truth_is (b : Bool) : Ev (fun n => konst_truth n (.bool b)) fun r => r = (true, [.int .i64 (trI b)]) := by
  refine Ev.eq (fun n => konst_truth_eq n _) ?_
  cases b
  · exact Ev.no rfl (Ev.ret rfl)
  · exact Ev.yes rfl (Ev.ret rfl)
def outD (n a b c e : Int) : D := .agg [.int .i64 n, .int .i64 a, .int .i64 b, .int .i64 c, .int .i64 e]
def exD (k a b c : Int) (t : List UInt8) (xs : List D) : D := .agg [.int .i64 k, .int .i64 a, .int .i64 b, .int .i64 c, .str t, .lst 6 xs]
def inB (n : Int) : Bool := decide (-2147483648 ≤ n) && decide (n ≤ 2147483647)
end Go.Proofs.YtkjocbdjenmegaaDoor
