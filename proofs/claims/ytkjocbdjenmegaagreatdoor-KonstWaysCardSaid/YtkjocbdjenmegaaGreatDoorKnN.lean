/- Konst: Env of both; the law KonstEvals, plain. -/
import Derived.Test.YtkjocbdjenmegaaGreatDoorKnM
namespace Go.Proofs.YtkjocbdjenmegaaGreatDoor
open Go.AE
set_option linter.unusedVariables false
theorem rev_app (l : Env0) (t : List UInt8) (m : Int) (u : List UInt8) : lookB u (l ++ [(t, m)]) = bif t == u then some m else lookB u l := by
  unfold lookB
  rw [List.reverse_append]; rfl
theorem envOk_nil : EnvOk [] [] := ⟨by simp, by simp, fun q h => by simp at h, fun t => rfl⟩
theorem envOk_with {lo lr : Env0} (h : EnvOk lo lr) (h1 : lo.length ≤ 1000) (h2 : lr.length ≤ 1000) (t : List UInt8) {m : Int} (hm : InR m) : EnvOk (withF t m lo) (lr ++ [(t, m)]) := by
  refine ⟨by have := withF_len t m lo; omega, by rw [List.length_append, List.length_singleton]; omega, fun q hq => ?_, fun u => ?_⟩
  · rcases List.mem_append.1 hq with hq | hq
    · exact h.rng q hq
    · rw [List.mem_singleton.1 hq]; exact hm
  · rw [lookF_with, rev_app, h.look]
def IsNm (y : D) : Prop := ∃ (t : List UInt8) (v : Int), y = nmD (t, v)
theorem nm_plain (l : Env0) : (l.map nmD).all plainD = true := List.all_eq_true.2 fun y hy => by
  obtain ⟨q, _, rfl⟩ := List.mem_map.1 hy
  rfl
theorem env_is {xs : List D} (hx : ∀ y ∈ xs, IsNm y) : Ev (fun n => law11_Env n (.lst 2 xs)) fun r => ∃ lo lr : Env0, r = (true, [.agg [.lst 2 (lo.map nmD)], .lst 2 (lr.map nmD)]) ∧ EnvOk lo lr := by
  have stop : ∀ (j : Nat) (lo lr : Env0), EnvOk lo lr → Ev (fun n => law11_Env_L0_j1 n false (j : Int) xs (lo.map nmD) (lr.map nmD) []) fun r => ∃ (j' : Int) (lo lr : Env0), r = (false, [.lst 2 xs, .int .i64 j', .lst 2 (lr.map nmD), .lst 2 [], .lst 2 (lo.map nmD)]) ∧ EnvOk lo lr :=
    fun j lo lr h => evDfn (fun n => law11_Env_L0_j1_def n _ _ _ _ _ _) (Ev.no rfl (Ev.ret ⟨_, lo, lr, rfl, h⟩))
  have loop : ∀ (m j : Nat) (lo lr : Env0), 12 - j = m → j ≤ 12 → lo.length ≤ j → lr.length ≤ j → EnvOk lo lr →
      Ev (fun n => law11_Env_L0 n (.lst 2 xs) (.int .i64 (j : Int)) (.lst 2 (lr.map nmD)) (.lst 2 []) (.lst 2 (lo.map nmD))) fun r => ∃ (j' : Int) (lo lr : Env0), r = (false, [.lst 2 xs, .int .i64 j', .lst 2 (lr.map nmD), .lst 2 [], .lst 2 (lo.map nmD)]) ∧ EnvOk lo lr := by
    intro m
    induction m with
    | zero =>
      intro j lo lr hm hj h1 h2 he
      have e : decide ((j : Int) < 12) = false := decide_eq_false (by omega)
      refine Ev.eq (fun n => law11_Env_L0_eq n _ _ _ _ _) ?_
      rw [e]
      exact Ev.test (fun _ => stop j lo lr he) fun _ => stop j lo lr he
    | succ m ih =>
      intro j lo lr hm hj h1 h2 he
      have e : decide ((j : Int) < 12) = true := decide_eq_true (by omega)
      refine Ev.eq (fun n => law11_Env_L0_eq n _ _ _ _ _) ?_
      rw [e]
      refine Ev.test (fun hjl => ?_) fun _ => stop j lo lr he
      have hj2 : j < xs.length := by have := of_decide_eq_true hjl; omega
      have hw : IntKind.i64.wrap ((j : Int) + 1) = ((j + 1 : Nat) : Int) := wrap_succ (by omega)
      obtain ⟨t, v, hx2⟩ := hx xs[j] (List.getElem_mem hj2)
      have hc := clamp_in v
      have hwith := with_is (l := lo) (by omega) t (clampI v)
      have hwl := withF_len t (clampI v) lo
      refine evDfn (fun n => law11_Env_L0_j1_def n _ _ _ _ _ _) (Ev.yes rfl (Ev.yes (in_range hj2) ?_))
      rw [get_nat hj2, hx2, hw]
      have nx := ih (j + 1) (withF t (clampI v) lo) (lr ++ [(t, clampI v)]) (by omega) (by omega) (by omega) (by rw [List.length_append, List.length_singleton]; omega) (envOk_with he (by omega) (by omega) t hc)
      rw [List.map_append] at nx
      have hp : plainDs konst_Env_With.osk [.lst 2 ((withF t (clampI v) lo).map nmD)] = true := by
        show (((withF t (clampI v) lo).map nmD).all plainD && true) = true
        rw [nm_plain]; rfl
      exact Ev.yes rfl (evCall hwith (Ev.yes (and_tt rfl hp) (Ev.yes (Nat.ble_eq_true_of_le (by rw [List.length_map]; simp only [maxLst]; omega)) nx)))
  refine Ev.eq (fun n => law11_Env_eq n _) (Ev.bindL (loop 12 0 [] [] rfl (Nat.zero_le _) (Nat.zero_le _) (Nat.zero_le _) envOk_nil) (fun ds h => by obtain ⟨_, _, _, h, _⟩ := h; cases h) fun ds h => ?_)
  obtain ⟨j', lo, lr, h, he⟩ := h
  cases h
  exact Ev.yes rfl (Ev.ret ⟨lo, lr, rfl, he⟩)
theorem kshort_ev {b : List D} (hb : Bytes b) : Ev (fun n => law09_Short n (.lst 1 b)) fun r => ∃ b', r = (true, [.lst 1 b']) ∧ Bytes b' ∧ b'.length ≤ 300 := by
  refine Ev.eq (fun n => law09_Short_eq n b) (Ev.test (fun h => ?_) fun h => ?_)
  · have h := of_decide_eq_true h
    refine Ev.yes (and_tt rfl (decide_eq_true (by omega))) (Ev.ret ⟨_, rfl, fun y hy => ?_, by simp; omega⟩)
    exact hb y (List.mem_of_mem_drop (List.mem_of_mem_take hy))
  · have h := of_decide_eq_false h
    exact Ev.ret ⟨b, rfl, hb, by omega⟩
/-- What Eval hands back. -/
def Rz.out : Rz → List D
  | .ok v => [.int .i64 v, posD 0 0 0, .int .i64 0]
  | .bad a b c e => [.int .i64 0, posD a b c, .int .i64 e]
theorem evalR_is {x : D} (hx : IsE x) {L E : List D} {R : Rz} (h : EvalIs x L E R) : Ev (fun n => konst_Eval n x (.agg [.lst 2 L])) fun r => r = (true, R.out) := by
  obtain ⟨g, o, _, _⟩ := h
  obtain ⟨k, a, b, c, t, xs, rfl⟩ := hx
  cases R with
  | ok v => exact Ev.eq (fun n => konst_Eval_eq n _ _ _ _ _ _ _) (evCall (own_ok o) (Ev.yes rfl (Ev.no rfl (Ev.ret rfl))))
  | bad a' b' c' e => exact Ev.eq (fun n => konst_Eval_eq n _ _ _ _ _ _ _) (evCallE (f := fun n => stE n L a' b' c' e) (own_bad o) fun n => Ev.yes rfl (Ev.yes (ne_0' g).1 (Ev.ret rfl)))
theorem konstEvals_plain {b xs : List D} (hb : Bytes b) (hx : ∀ y ∈ xs, IsNm y) : Ev (fun n => law11_KonstEvals n (.lst 1 b) (.lst 2 xs)) fun r => r = (true, [.bool true]) := by
  refine Ev.eq (fun n => law11_KonstEvals_eq n _ _) (evCall awake11 (Ev.yes rfl (Ev.no rfl (Ev.bindC (kshort_ev hb) ?_))))
  rintro _ _ ⟨b', h, hb', hl⟩; cases h
  refine ⟨rfl, Ev.yes rfl (Ev.bindC (makeExpr_ev 4 5 (by decide) (by decide) (by decide) b' 0 ⟨hb', hl, by decide, by omega⟩) ?_)⟩
  rintro _ _ ⟨x, a', h, hw, hm⟩; cases h
  have hk := wfK_of hw
  obtain ⟨k, p, q, c, t, ys, rfl⟩ := wfK_isE hk
  refine ⟨rfl, Ev.yes rfl (Ev.bindC (placed_is 5 _ 1 hk) ?_)⟩
  rintro _ _ ⟨z, m', h, hz⟩; cases h
  obtain ⟨k, p, q, c, t, ys, rfl⟩ := wfK_isE hz
  refine ⟨rfl, Ev.yes rfl (Ev.bindC (env_is hx) ?_)⟩
  rintro _ _ ⟨lo, lr, h, he⟩; cases h
  obtain ⟨R, hR⟩ := eval_all he 5 _ hz
  have h1 := evalR_is (wfK_isE hz) hR
  obtain ⟨g, _, _, h2⟩ := hR
  refine ⟨rfl, Ev.yes rfl (evCall (kown_is 5 _ (wfX_of hz)) (Ev.yes rfl (evCall h1 ?_)))⟩
  cases R with
  | ok v => exact Ev.yes rfl (evCall h2 (Ev.yes rfl (Ev.yes (beq_self_eq_true v) (Ev.yes rfl (Ev.ret rfl)))))
  | bad a b c e =>
    refine Ev.yes rfl (evCall h2 (Ev.yes rfl (Ev.yes rfl (Ev.yes ?_ (Ev.ret ?_)))))
    · show ((a == a) && ((b == b) && ((c == c) && true))) = true
      simp
    · show (true, [D.bool (e == e)]) = _
      simp
end Go.Proofs.YtkjocbdjenmegaaGreatDoor
