/- Konst: Eval of an operator; the law KonstArith, plain. -/
import Derived.Test.YtkjocbdjenmegaaDoorKnG
namespace Go.Proofs.YtkjocbdjenmegaaDoor
open Go.AE
set_option linter.unusedVariables false
theorem awake11_run (n : Nat) : law11_awake (n + 80) = some (true, [.bool true]) := by kernel_rfl
theorem awake11 : Ev (fun n => law11_awake n) fun r => r = (true, [.bool true]) := by
  refine ⟨_, rfl, 80, fun n hn => ?_⟩
  obtain ⟨k, rfl⟩ : ∃ k, n = k + 80 := ⟨n - 80, by omega⟩
  exact awake11_run k
def binR (p0 p1 p2 : Int) (L : List D) (t : List UInt8) (a b : Int) : List D := bif offB t b then stE 0 L p0 p1 p2 3 else bif inB (valT t a b) then st0 (valT t a b) L else stE 0 L p0 p1 p2 3
theorem obin_is {t : List UInt8} (ht : t ∈ opT) (p0 p1 p2 : Int) {x y : D} (hx : IsE x) (hy : IsE y) {L : List D} {a b : Int} (ha : InR a) (hb : InR b)
    (h1 : Ev (fun n => konst_evaler_expr n x (.lst 2 L) (.int .i64 0) (.int .i64 0) (.int .i64 0) (.int .i64 0)) fun r => r = (true, st0 a L))
    (h2 : Ev (fun n => konst_evaler_expr n y (.lst 2 L) (.int .i64 0) (.int .i64 0) (.int .i64 0) (.int .i64 0)) fun r => r = (true, st0 b L)) :
    Ev (fun n => konst_evaler_expr n (exD 4 p0 p1 p2 t [x, y]) (.lst 2 L) (.int .i64 0) (.int .i64 0) (.int .i64 0) (.int .i64 0)) fun r => r = (true, binR p0 p1 p2 L t a b) := by
  have h := otwo_is ht p0 p1 p2 hx hy ha hb h1 h2
  unfold binR
  refine Ev.eq (fun n => konst_evaler_expr_eq n _ _ _ _ _ _ _ _ _ _ _) (Ev.no rfl (Ev.no rfl (Ev.no rfl (Ev.yes rfl ?_))))
  cases ho : offB t b with
  | true =>
    rw [ho] at h
    refine evCall h (Ev.yes rfl ?_)
    exact evDfn (fun n => konst_evaler_expr_j1_def n _ _ _ _ _ _ _ _ _) (Ev.no rfl (evDfn (fun n => konst_evaler_expr_j2_def n _ _ _ _ _ _ _ _ _ _) (Ev.no rfl (Ev.ret rfl))))
  | false =>
    rw [ho] at h
    refine evCall h (Ev.yes rfl ?_)
    cases hi : inB (valT t a b) with
    | true =>
      have q : InR (valT t a b) := by
        unfold inB at hi
        rw [Bool.and_eq_true] at hi
        exact ⟨of_decide_eq_true hi.1, of_decide_eq_true hi.2⟩
      exact j1_ok q p0 p1 p2 L
    | false => exact j1_off hi p0 p1 p2 L
def evR (p0 p1 p2 : Int) (t : List UInt8) (a b : Int) : List D := bif offB t b then [.int .i64 0, posD p0 p1 p2, .int .i64 3] else bif inB (valT t a b) then [.int .i64 (valT t a b), posD 0 0 0, .int .i64 0] else [.int .i64 0, posD p0 p1 p2, .int .i64 3]
theorem eval_is {t : List UInt8} (ht : t ∈ opT) (p0 p1 p2 : Int) {x y : D} (hx : IsE x) (hy : IsE y) {L : List D} {a b : Int} (ha : InR a) (hb : InR b)
    (h1 : Ev (fun n => konst_evaler_expr n x (.lst 2 L) (.int .i64 0) (.int .i64 0) (.int .i64 0) (.int .i64 0)) fun r => r = (true, st0 a L))
    (h2 : Ev (fun n => konst_evaler_expr n y (.lst 2 L) (.int .i64 0) (.int .i64 0) (.int .i64 0) (.int .i64 0)) fun r => r = (true, st0 b L)) :
    Ev (fun n => konst_Eval n (exD 4 p0 p1 p2 t [x, y]) (.agg [.lst 2 L])) fun r => r = (true, evR p0 p1 p2 t a b) := by
  have h := obin_is ht p0 p1 p2 hx hy ha hb h1 h2
  unfold binR at h
  unfold evR
  refine Ev.eq (fun n => konst_Eval_eq n _ _ _ _ _ _ _) ?_
  cases ho : offB t b with
  | true => rw [ho] at h; exact evCall h (Ev.yes rfl (Ev.yes rfl (Ev.ret rfl)))
  | false =>
    rw [ho] at h
    cases hi : inB (valT t a b) with
    | true => rw [hi] at h; exact evCall h (Ev.yes rfl (Ev.no rfl (Ev.ret rfl)))
    | false => rw [hi] at h; exact evCall h (Ev.yes rfl (Ev.yes rfl (Ev.ret rfl)))
theorem op_in {v : Int} (h0 : 0 ≤ v) (h1 : v < 21) : ∃ t, t ∈ opT ∧ ([(.str ([43] : List UInt8)), (.str ([45] : List UInt8)), (.str ([42] : List UInt8)), (.str ([47] : List UInt8)), (.str ([37] : List UInt8)), (.str ([38] : List UInt8)), (.str ([124] : List UInt8)), (.str ([94] : List UInt8)), (.str ([126, 94] : List UInt8)), (.str ([60, 60] : List UInt8)), (.str ([62, 62] : List UInt8)), (.str ([60, 60, 60] : List UInt8)), (.str ([62, 62, 62] : List UInt8)), (.str ([60] : List UInt8)), (.str ([60, 61] : List UInt8)), (.str ([62] : List UInt8)), (.str ([62, 61] : List UInt8)), (.str ([61, 61] : List UInt8)), (.str ([33, 61] : List UInt8)), (.str ([38, 38] : List UInt8)), (.str ([124, 124] : List UInt8))] : List D)[v.toNat]?.getD D.top = .str t := by
  have := get_in (P := fun y => ∃ s, s ∈ opT ∧ y = D.str s) (xs := opT.map D.str) (fun x hx => by obtain ⟨s, hs, rfl⟩ := List.mem_map.1 hx; exact ⟨s, hs, rfl⟩) h0 (show v < ((opT.map D.str).length : Int) from h1)
  exact this
end Go.Proofs.YtkjocbdjenmegaaDoor
