/- Konst: Eval of an operator; the law KonstArith, plain. -/
import Derived.Test.YtkjocbdjenmegaaGreatDoorKnG
namespace Go.Proofs.YtkjocbdjenmegaaGreatDoor
open Go.AE
set_option linter.unusedVariables false
theorem awake11_run (n : Nat) : law11_awake (n + 80) = some (true, [.bool true]) := by kernel_rfl
theorem awake11 : Ev (fun n => law11_awake n) fun r => r = (true, [.bool true]) := by
  refine ⟨_, rfl, 80, fun n hn => ?_⟩
  obtain ⟨k, rfl⟩ : ∃ k, n = k + 80 := ⟨n - 80, by omega⟩
  exact awake11_run k
def binR (p0 p1 p2 : Int) (L : List D) (t : List UInt8) (a b : Int) : List D := bif offB t b then stE 0 L p0 p1 p2 3 else bif inB (valT t a b) then st0 (valT t a b) L else stE 0 L p0 p1 p2 3
theorem obin_is {t : List UInt8} (ht : t ∈ opT) (p0 p1 p2 : Int) {x y : D} (hx : IsE x) (hy : IsE y) {L : List D} {a b : Int} (ha : InR a) (hb : InR b)
    (h1 : Ev (fun n => konst_evaler_expr n x (.lst 2 L) (.int .i64 0) (.int .i64 0) (.int .i64 0) (.int .i64 0)) fun r => r = (true, st0 a L))
    (h2 : Ev (fun n => konst_evaler_expr n y (.lst 2 L) (.int .i64 0) (.int .i64 0) (.int .i64 0) (.int .i64 0)) fun r => r = (true, st0 b L)) :
    Ev (fun n => konst_evaler_expr n (exD 4 p0 p1 p2 t [x, y]) (.lst 2 L) (.int .i64 0) (.int .i64 0) (.int .i64 0) (.int .i64 0)) fun r => r = (true, binR p0 p1 p2 L t a b) := by
  have h := otwo_is ht p0 p1 p2 hx hy ha hb h1 h2
  unfold binR
  refine Ev.eq (fun n => konst_evaler_expr_eq n _ _ _ _ _ _ _ _ _ _ _) (Ev.no rfl (Ev.no rfl (Ev.no rfl (Ev.yes rfl ?_))))
  cases ho : offB t b with
  | true =>
    rw [ho] at h
    refine evCall h (Ev.yes rfl ?_)
    exact evDfn (fun n => konst_evaler_expr_j1_def n _ _ _ _ _ _ _ _ _) (Ev.no rfl (evDfn (fun n => konst_evaler_expr_j2_def n _ _ _ _ _ _ _ _ _ _) (Ev.no rfl (Ev.ret rfl))))
  | false =>
    rw [ho] at h
    refine evCall h (Ev.yes rfl ?_)
    cases hi : inB (valT t a b) with
    | true =>
      have q : InR (valT t a b) := by
        unfold inB at hi
        rw [Bool.and_eq_true] at hi
        exact ⟨of_decide_eq_true hi.1, of_decide_eq_true hi.2⟩
      exact j1_ok q p0 p1 p2 L
    | false => exact j1_off hi p0 p1 p2 L
def evR (p0 p1 p2 : Int) (t : List UInt8) (a b : Int) : List D := bif offB t b then [.int .i64 0, posD p0 p1 p2, .int .i64 3] else bif inB (valT t a b) then [.int .i64 (valT t a b), posD 0 0 0, .int .i64 0] else [.int .i64 0, posD p0 p1 p2, .int .i64 3]
theorem eval_is {t : List UInt8} (ht : t ∈ opT) (p0 p1 p2 : Int) {x y : D} (hx : IsE x) (hy : IsE y) {L : List D} {a b : Int} (ha : InR a) (hb : InR b)
    (h1 : Ev (fun n => konst_evaler_expr n x (.lst 2 L) (.int .i64 0) (.int .i64 0) (.int .i64 0) (.int .i64 0)) fun r => r = (true, st0 a L))
    (h2 : Ev (fun n => konst_evaler_expr n y (.lst 2 L) (.int .i64 0) (.int .i64 0) (.int .i64 0) (.int .i64 0)) fun r => r = (true, st0 b L)) :
    Ev (fun n => konst_Eval n (exD 4 p0 p1 p2 t [x, y]) (.agg [.lst 2 L])) fun r => r = (true, evR p0 p1 p2 t a b) := by
  have h := obin_is ht p0 p1 p2 hx hy ha hb h1 h2
  unfold binR at h
  unfold evR
  refine Ev.eq (fun n => konst_Eval_eq n _ _ _ _ _ _ _) ?_
  cases ho : offB t b with
  | true => rw [ho] at h; exact evCall h (Ev.yes rfl (Ev.yes rfl (Ev.ret rfl)))
  | false =>
    rw [ho] at h
    cases hi : inB (valT t a b) with
    | true => rw [hi] at h; exact evCall h (Ev.yes rfl (Ev.no rfl (Ev.ret rfl)))
    | false => rw [hi] at h; exact evCall h (Ev.yes rfl (Ev.yes rfl (Ev.ret rfl)))
theorem rname1_is (t : List UInt8) {v : Int} (hv : InR v) : Ev (fun n => ref11_Eval n (exD 2 0 0 0 t []) (.lst 2 [nmD (t, v)])) fun r => r = (true, [outD v 0 0 0 0]) := by
  have hg := good_step 2 0 0 0 t [] (m := v) rfl
  unfold gd at hg
  rw [show inB v = true from and_tt (decide_eq_true hv.1) (decide_eq_true hv.2)] at hg
  have hl : Ev (fun n => ref11_Eval_L1 n (.lst 2 [nmD (t, v)]) (.int .i64 0) (.int .i64 2) (.int .i64 0) (.int .i64 0) (.int .i64 0) (.str t) (.lst 6 []) (.int .i64 0) (.int .i64 0) (.int .i64 0) (.int .i64 0) (.int .i64 0)) fun r => r = (true, [outD v 0 0 0 0]) :=
    Ev.eq (fun n => ref11_Eval_L1_eq n _ _ _ _ _ _ _ _ _ _ _ _ _) (Ev.yes rfl (Ev.yes rfl (Ev.yes rfl (Ev.yes rfl (Ev.yes (beq_self_eq_true t) (Ev.yes rfl (Ev.yes rfl (Ev.yes rfl hg))))))))
  exact Ev.eq (fun n => ref11_Eval_eq n _ _ _ _ _ _ _) (Ev.no rfl (Ev.yes rfl (evOut hl rfl)))
theorem op_in {v : Int} (h0 : 0 ≤ v) (h1 : v < 21) : ∃ t, t ∈ opT ∧ ([(.str ([43] : List UInt8)), (.str ([45] : List UInt8)), (.str ([42] : List UInt8)), (.str ([47] : List UInt8)), (.str ([37] : List UInt8)), (.str ([38] : List UInt8)), (.str ([124] : List UInt8)), (.str ([94] : List UInt8)), (.str ([126, 94] : List UInt8)), (.str ([60, 60] : List UInt8)), (.str ([62, 62] : List UInt8)), (.str ([60, 60, 60] : List UInt8)), (.str ([62, 62, 62] : List UInt8)), (.str ([60] : List UInt8)), (.str ([60, 61] : List UInt8)), (.str ([62] : List UInt8)), (.str ([62, 61] : List UInt8)), (.str ([61, 61] : List UInt8)), (.str ([33, 61] : List UInt8)), (.str ([38, 38] : List UInt8)), (.str ([124, 124] : List UInt8))] : List D)[v.toNat]?.getD D.top = .str t := by
  have := get_in (P := fun y => ∃ s, s ∈ opT ∧ y = D.str s) (xs := opT.map D.str) (fun x hx => by obtain ⟨s, hs, rfl⟩ := List.mem_map.1 hx; exact ⟨s, hs, rfl⟩) h0 (show v < ((opT.map D.str).length : Int) from h1)
  exact this
theorem konstArith_plain (a0 a1 a2 : Int) : Ev (fun n => law11_KonstArith n (.int .i64 a0) (.int .i64 a1) (.int .i64 a2)) fun r => r = (true, [.bool true]) := by
  refine Ev.eq (fun n => law11_KonstArith_eq n _ _ _) (evCall awake11 (Ev.yes rfl (Ev.no rfl ?_)))
  have hv : 0 ≤ (IntKind.i64.wrap ((a0.tmod (21 : Int)) + (21 : Int))).tmod (21 : Int) ∧ (IntKind.i64.wrap ((a0.tmod (21 : Int)) + (21 : Int))).tmod (21 : Int) < 21 := by
    have q1 : -21 < a0.tmod 21 ∧ a0.tmod 21 < 21 := by
      refine ⟨?_, Int.tmod_lt_of_pos a0 (by decide)⟩
      rcases Int.lt_or_le a0 0 with h | h
      · have := Int.tmod_lt_of_pos (-a0) (b := 21) (by decide)
        rw [Int.neg_tmod] at this
        omega
      · have := Int.tmod_nonneg 21 h
        omega
    rw [wrap_id (by omega) (by omega)]
    exact ⟨Int.tmod_nonneg 21 (by omega), Int.tmod_lt_of_pos _ (by decide)⟩
  generalize (IntKind.i64.wrap ((a0.tmod (21 : Int)) + (21 : Int))).tmod (21 : Int) = v at hv ⊢
  obtain ⟨t, ht, hs⟩ := op_in hv.1 hv.2
  refine Ev.yes (and_tt (decide_eq_true hv.1) (decide_eq_true hv.2)) ?_
  rw [hs]
  refine Ev.yes rfl (Ev.bindC (kvalue_is _) ?_)
  rintro _ _ ⟨x, h, ⟨hx, ho, hr⟩, hw⟩
  cases h
  have ha := clamp_in (max (-2147483648 : Int) (min a1 (2147483647 : Int)))
  generalize clampI (max (-2147483648 : Int) (min a1 (2147483647 : Int))) = a at ha ho hr
  have hb := clamp_in a2
  have hwith : Ev (fun n => konst_Env_With n (.agg [.lst 2 []]) (.str [98]) (.int .i64 (clampI a2))) fun r => r = (true, [.lst 2 [nmD ([98], clampI a2)]]) := with_is (l := []) (by simp) [98] (clampI a2)
  have hname : Ev (fun n => konst_evaler_expr n (exD 2 0 0 0 [98] []) (.lst 2 [nmD ([98], clampI a2)]) (.int .i64 0) (.int .i64 0) (.int .i64 0) (.int .i64 0)) fun r => r = (true, st0 (clampI a2) [nmD ([98], clampI a2)]) := oname_is 0 0 0 [] (l := [([98], clampI a2)]) (by simp) rfl hb
  have hwb : wfX 2 (exD 2 0 0 0 [98] []) := ⟨_, _, _, _, _, _, rfl, by simp, fun y hy => by simp at hy⟩
  have hey : IsE (exD 2 0 0 0 [98] []) := ⟨_, _, _, _, _, _, rfl⟩
  have hev := eval_is ht 0 0 0 hx hey ha hb (ho _) hname
  have htold := told_is 3 (exD 4 0 0 0 t [x, exD 2 0 0 0 [98] []]) ⟨_, _, _, _, _, _, rfl, by simp, fun y hy => by
    rcases List.mem_cons.1 hy with rfl | hy
    · exact hw
    · rw [List.mem_singleton.1 hy]; exact hwb⟩
  have href := rtwo_is ht 0 0 0 hx hey ha hb (hr _) (rname1_is [98] hb)
  obtain ⟨k, p, q, c, tt, xs, rfl⟩ := hx
  unfold evR at hev
  unfold rtwoV gd at href
  refine ⟨rfl, Ev.yes rfl (evCall hwith (Ev.yes rfl ?_))⟩
  cases hof : offB t (clampI a2) with
  | true =>
    rw [hof] at hev href
    exact evCall hev (Ev.yes rfl (evCall htold (Ev.yes rfl (evCall href (Ev.yes rfl (Ev.yes rfl (Ev.yes rfl (Ev.no rfl (Ev.ret rfl)))))))))
  | false =>
    rw [hof] at hev href
    cases hin : inB (valT t a (clampI a2)) with
    | true =>
      rw [hin] at hev href
      exact evCall hev (Ev.yes rfl (evCall htold (Ev.yes rfl (evCall href (Ev.yes rfl (Ev.yes (beq_self_eq_true _) (Ev.yes rfl (Ev.yes rfl (Ev.ret rfl)))))))))
    | false =>
      rw [hin] at hev href
      exact evCall hev (Ev.yes rfl (evCall htold (Ev.yes rfl (evCall href (Ev.yes rfl (Ev.yes rfl (Ev.yes rfl (Ev.no rfl (Ev.ret rfl)))))))))
end Go.Proofs.YtkjocbdjenmegaaGreatDoor
