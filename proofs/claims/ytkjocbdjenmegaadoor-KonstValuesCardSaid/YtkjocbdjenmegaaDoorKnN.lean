/- Konst: Env of both; the law KonstEvals, plain. -/
import Derived.Test.YtkjocbdjenmegaaDoorKnM
namespace Go.Proofs.YtkjocbdjenmegaaDoor
open Go.AE
set_option linter.unusedVariables false
theorem rev_app (l : Env0) (t : List UInt8) (m : Int) (u : List UInt8) : lookB u (l ++ [(t, m)]) = bif t == u then some m else lookB u l := by
  unfold lookB
  rw [List.reverse_append]; rfl
theorem envOk_nil : EnvOk [] [] := ⟨by simp, by simp, fun q h => by simp at h, fun t => rfl⟩
theorem envOk_with {lo lr : Env0} (h : EnvOk lo lr) (h1 : lo.length ≤ 1000) (h2 : lr.length ≤ 1000) (t : List UInt8) {m : Int} (hm : InR m) : EnvOk (withF t m lo) (lr ++ [(t, m)]) := by
  refine ⟨by have := withF_len t m lo; omega, by rw [List.length_append, List.length_singleton]; omega, fun q hq => ?_, fun u => ?_⟩
  · rcases List.mem_append.1 hq with hq | hq
    · exact h.rng q hq
    · rw [List.mem_singleton.1 hq]; exact hm
  · rw [lookF_with, rev_app, h.look]
def IsNm (y : D) : Prop := ∃ (t : List UInt8) (v : Int), y = nmD (t, v)
theorem nm_plain (l : Env0) : (l.map nmD).all plainD = true := List.all_eq_true.2 fun y hy => by
  obtain ⟨q, _, rfl⟩ := List.mem_map.1 hy
  rfl
theorem env_is {xs : List D} (hx : ∀ y ∈ xs, IsNm y) : Ev (fun n => law11_Env n (.lst 2 xs)) fun r => ∃ lo lr : Env0, r = (true, [.agg [.lst 2 (lo.map nmD)], .lst 2 (lr.map nmD)]) ∧ EnvOk lo lr := by
  have stop : ∀ (j : Nat) (lo lr : Env0), EnvOk lo lr → Ev (fun n => law11_Env_L0_j1 n false (j : Int) xs (lo.map nmD) (lr.map nmD) []) fun r => ∃ (j' : Int) (lo lr : Env0), r = (false, [.lst 2 xs, .int .i64 j', .lst 2 (lr.map nmD), .lst 2 [], .lst 2 (lo.map nmD)]) ∧ EnvOk lo lr :=
    fun j lo lr h => evDfn (fun n => law11_Env_L0_j1_def n _ _ _ _ _ _) (Ev.no rfl (Ev.ret ⟨_, lo, lr, rfl, h⟩))
  have loop : ∀ (m j : Nat) (lo lr : Env0), 12 - j = m → j ≤ 12 → lo.length ≤ j → lr.length ≤ j → EnvOk lo lr →
      Ev (fun n => law11_Env_L0 n (.lst 2 xs) (.int .i64 (j : Int)) (.lst 2 (lr.map nmD)) (.lst 2 []) (.lst 2 (lo.map nmD))) fun r => ∃ (j' : Int) (lo lr : Env0), r = (false, [.lst 2 xs, .int .i64 j', .lst 2 (lr.map nmD), .lst 2 [], .lst 2 (lo.map nmD)]) ∧ EnvOk lo lr := by
    intro m
    induction m with
    | zero =>
      intro j lo lr hm hj h1 h2 he
      have e : decide ((j : Int) < 12) = false := decide_eq_false (by omega)
      refine Ev.eq (fun n => law11_Env_L0_eq n _ _ _ _ _) ?_
      rw [e]
      exact Ev.test (fun _ => stop j lo lr he) fun _ => stop j lo lr he
    | succ m ih =>
      intro j lo lr hm hj h1 h2 he
      have e : decide ((j : Int) < 12) = true := decide_eq_true (by omega)
      refine Ev.eq (fun n => law11_Env_L0_eq n _ _ _ _ _) ?_
      rw [e]
      refine Ev.test (fun hjl => ?_) fun _ => stop j lo lr he
      have hj2 : j < xs.length := by have := of_decide_eq_true hjl; omega
      have hw : IntKind.i64.wrap ((j : Int) + 1) = ((j + 1 : Nat) : Int) := wrap_succ (by omega)
      obtain ⟨t, v, hx2⟩ := hx xs[j] (List.getElem_mem hj2)
      have hc := clamp_in v
      have hwith := with_is (l := lo) (by omega) t (clampI v)
      have hwl := withF_len t (clampI v) lo
      refine evDfn (fun n => law11_Env_L0_j1_def n _ _ _ _ _ _) (Ev.yes rfl (Ev.yes (in_range hj2) ?_))
      rw [get_nat hj2, hx2, hw]
      have nx := ih (j + 1) (withF t (clampI v) lo) (lr ++ [(t, clampI v)]) (by omega) (by omega) (by omega) (by rw [List.length_append, List.length_singleton]; omega) (envOk_with he (by omega) (by omega) t hc)
      rw [List.map_append] at nx
      have hp : plainDs konst_Env_With.osk [.lst 2 ((withF t (clampI v) lo).map nmD)] = true := by
        show (((withF t (clampI v) lo).map nmD).all plainD && true) = true
        rw [nm_plain]; rfl
      exact Ev.yes rfl (evCall hwith (Ev.yes (and_tt rfl hp) (Ev.yes (Nat.ble_eq_true_of_le (by rw [List.length_map]; simp only [maxLst]; omega)) nx)))
  refine Ev.eq (fun n => law11_Env_eq n _) (Ev.bindL (loop 12 0 [] [] rfl (Nat.zero_le _) (Nat.zero_le _) (Nat.zero_le _) envOk_nil) (fun ds h => by obtain ⟨_, _, _, h, _⟩ := h; cases h) fun ds h => ?_)
  obtain ⟨j', lo, lr, h, he⟩ := h
  cases h
  exact Ev.yes rfl (Ev.ret ⟨lo, lr, rfl, he⟩)
/-- What Eval hands back. -/
def Rz.out : Rz → List D
  | .ok v => [.int .i64 v, posD 0 0 0, .int .i64 0]
  | .bad a b c e => [.int .i64 0, posD a b c, .int .i64 e]
end Go.Proofs.YtkjocbdjenmegaaDoor
