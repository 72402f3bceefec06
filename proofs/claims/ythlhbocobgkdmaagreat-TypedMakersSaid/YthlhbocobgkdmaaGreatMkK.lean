/- The names of the law's own scope: three, then without the signal, then without the number. -/
import Derived.Test.YthlhbocobgkdmaaGreatZtB
namespace Go.Proofs.YthlhbocobgkdmaaGreat
open Go.AE
set_option linter.unusedVariables false
set_option linter.unusedSimpArgs false
def cT : Th := ⟨[99], 1, 1, [], 0, 0⟩
def sT (w : Nat) : Th := ⟨[115], 2, 4, [115], (w : Int), 0⟩
def fT : Th := ⟨[102], 3, 0, [], 0, 0⟩
def eC : List D := [nmD ([99], 1)]
theorem s1_is : Ev (fun n => typed_Scope_Const n (.agg [.lst 19 [], .lst 2 []]) (.str [99]) (.int .i64 1)) fun r => r = (true, [.agg [.lst 19 (([cT]).map thD), .lst 2 eC]]) :=
  const_is (l := []) (e := []) (by simp) (by simp) [99] 1
theorem s2_is (w : Nat) : Ev (fun n => typed_Scope_Sig n (.agg [.lst 19 (([cT]).map thD), .lst 2 eC]) (.str [115]) (.int .i64 4) (.agg [.str [115], .int .i64 (w : Int), .bool false, .int .i64 0])) fun r => r = (true, [.agg [.lst 19 (([cT, sT w]).map thD), .lst 2 eC]]) :=
  Ev.eq (fun n => typed_Scope_Sig_eq n ..) (evCall (withT_is (l := [cT]) (by simp) eC (sT w)) (Ev.yes rfl (evCall (tplain_is (l := [cT, sT w]) (by simp) eC) (Ev.yes rfl (Ev.ret rfl)))))
theorem s3_is (w : Nat) : Ev (fun n => typed_Scope_Func n (.agg [.lst 19 (([cT, sT w]).map thD), .lst 2 eC]) (.str [102]) (.agg [.lst 4 [], .int .i64 0, .bool false, .int .i64 0, .int .i64 0, .int .i64 0, .int .i64 0, .int .i64 0, .bool false, .int .i64 0, .lst 1 [], .lst 9 []])) fun r => r = (true, [.agg [.lst 19 (([cT, sT w, fT]).map thD), .lst 2 eC]]) :=
  Ev.eq (fun n => typed_Scope_Func_eq n ..) (evCall (withT_is (l := [cT, sT w]) (by simp) eC fT) (Ev.yes rfl (evCall (tplain_is (l := [cT, sT w, fT]) (by simp) eC) (Ev.yes rfl (Ev.ret rfl)))))
theorem kd1_is (x : Th) (q : Int) : Ev (fun n => typed_Scope_Without_1 n (thD x) (.int .i64 q)) fun r => r = (true, [.bool (x.kd == q), .int .i64 q]) :=
  Ev.eq (fun n => typed_Scope_Without_1_eq n ..) (Ev.ret rfl)
theorem ix2_is (w : Nat) : Ev (fun n => slices_IndexFunc_thing_2 n (.lst 19 (([cT, sT w, fT]).map thD)) (.int .i64 2)) fun r => r = (true, [.int .i64 1, (.lst 19 (([cT, sT w, fT]).map thD)), .int .i64 2]) := by
  refine Ev.eq (fun n => slices_IndexFunc_thing_2_eq n ..) (Ev.bindL (Q := fun r => r = (true, [.int .i64 1, (.lst 19 (([cT, sT w, fT]).map thD)), .int .i64 2])) ?_ (fun ds h => h) fun ds h => by cases h)
  refine Ev.eq (fun n => slices_IndexFunc_thing_2_L0_eq n ..) (Ev.yes rfl (Ev.yes rfl (Ev.yes rfl (evCall (kd1_is cT 2) (Ev.yes rfl (Ev.no rfl ?_))))))
  exact Ev.eq (fun n => slices_IndexFunc_thing_2_L0_eq n ..) (Ev.yes rfl (Ev.yes rfl (Ev.yes rfl (evCall (kd1_is (sT w) 2) (Ev.yes rfl (Ev.yes rfl (Ev.ret rfl)))))))
theorem ix1_is (w : Nat) : Ev (fun n => slices_IndexFunc_thing_2 n (.lst 19 (([cT, sT w, fT]).map thD)) (.int .i64 1)) fun r => r = (true, [.int .i64 0, (.lst 19 (([cT, sT w, fT]).map thD)), .int .i64 1]) := by
  refine Ev.eq (fun n => slices_IndexFunc_thing_2_eq n ..) (Ev.bindL (Q := fun r => r = (true, [.int .i64 0, (.lst 19 (([cT, sT w, fT]).map thD)), .int .i64 1])) ?_ (fun ds h => h) fun ds h => by cases h)
  exact Ev.eq (fun n => slices_IndexFunc_thing_2_L0_eq n ..) (Ev.yes rfl (Ev.yes rfl (Ev.yes rfl (evCall (kd1_is cT 1) (Ev.yes rfl (Ev.yes rfl (Ev.ret rfl)))))))
theorem del2_is (w : Nat) : Ev (fun n => slices_DeleteFunc_thing n (.int .i64 2) (.lst 19 (([cT, sT w, fT]).map thD))) fun r => r = (true, [.int .i64 2, .lst 19 (([cT, fT]).map thD)]) := by
  refine Ev.eq (fun n => slices_DeleteFunc_thing_eq n ..) (evCall (ix2_is w) (Ev.yes rfl (Ev.no rfl ?_)))
  refine evLoop (ds := [.int .i64 2, .int .i64 3, .int .i64 2, .lst 19 (([cT, fT, fT]).map thD)]) ?_ (Ev.yes rfl (Ev.yes rfl (Ev.yes rfl (Ev.yes rfl (Ev.ret rfl)))))
  refine Ev.eq (fun n => slices_DeleteFunc_thing_L0_eq n ..) (Ev.yes rfl (Ev.yes rfl (Ev.yes rfl (evCall (kd1_is fT 2) (Ev.yes rfl (Ev.yes rfl (Ev.yes rfl ?_)))))))
  exact Ev.eq (fun n => slices_DeleteFunc_thing_L0_eq n ..) (Ev.no rfl (Ev.ret rfl))
theorem del1_is (w : Nat) : Ev (fun n => slices_DeleteFunc_thing n (.int .i64 1) (.lst 19 (([cT, sT w, fT]).map thD))) fun r => r = (true, [.int .i64 1, .lst 19 (([sT w, fT]).map thD)]) := by
  refine Ev.eq (fun n => slices_DeleteFunc_thing_eq n ..) (evCall (ix1_is w) (Ev.yes rfl (Ev.no rfl ?_)))
  refine evLoop (ds := [.int .i64 2, .int .i64 3, .int .i64 1, .lst 19 (([sT w, fT, fT]).map thD)]) ?_ (Ev.yes rfl (Ev.yes rfl (Ev.yes rfl (Ev.yes rfl (Ev.ret rfl)))))
  refine Ev.eq (fun n => slices_DeleteFunc_thing_L0_eq n ..) (Ev.yes rfl (Ev.yes rfl (Ev.yes rfl (evCall (kd1_is (sT w) 1) (Ev.yes rfl (Ev.yes rfl (Ev.yes rfl ?_)))))))
  refine Ev.eq (fun n => slices_DeleteFunc_thing_L0_eq n ..) (Ev.yes rfl (Ev.yes rfl (Ev.yes rfl (evCall (kd1_is fT 1) (Ev.yes rfl (Ev.yes rfl (Ev.yes rfl ?_)))))))
  exact Ev.eq (fun n => slices_DeleteFunc_thing_L0_eq n ..) (Ev.no rfl (Ev.ret rfl))
theorem w2_is (w : Nat) : Ev (fun n => typed_Scope_Without n (.agg [(.lst 19 (([cT, sT w, fT]).map thD)), .lst 2 eC]) (.int .i64 2)) fun r => r = (true, [.agg [.lst 19 (([cT, fT]).map thD), .lst 2 eC]]) :=
  Ev.eq (fun n => typed_Scope_Without_eq n ..) (evCall (cloneT_is (by simp)) (Ev.yes rfl (evCall (del2_is w) (Ev.yes rfl (evCall (tplain_is (l := [cT, fT]) (by simp) []) (Ev.yes rfl (Ev.ret rfl)))))))
theorem w1_is (w : Nat) : Ev (fun n => typed_Scope_Without n (.agg [(.lst 19 (([cT, sT w, fT]).map thD)), .lst 2 eC]) (.int .i64 1)) fun r => r = (true, [.agg [.lst 19 (([sT w, fT]).map thD), .lst 2 []]]) :=
  Ev.eq (fun n => typed_Scope_Without_eq n ..) (evCall (cloneT_is (by simp)) (Ev.yes rfl (evCall (del1_is w) (Ev.yes rfl (evCall (tplain_is (l := [sT w, fT]) (by simp) []) (Ev.yes rfl (Ev.ret rfl)))))))
theorem envK_is (a : List D) (e : List D) : Ev (fun n => typed_Scope_Env n (.agg [.lst 19 a, .lst 2 e])) fun r => r = (true, [.agg [.lst 2 e]]) :=
  Ev.eq (fun n => typed_Scope_Env_eq n _ _) (Ev.ret rfl)
theorem lenK_is (e : List D) : Ev (fun n => konst_Env_Len n (.agg [.lst 2 e])) fun r => r = (true, [.int .i64 (e.length : Int)]) :=
  Ev.eq (fun n => konst_Env_Len_eq n _) (Ev.ret rfl)
end Go.Proofs.YthlhbocobgkdmaaGreat
