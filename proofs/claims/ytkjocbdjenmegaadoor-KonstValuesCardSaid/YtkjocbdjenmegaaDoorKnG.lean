/- Konst: numbers, names, minus; Value; the law of the operators. -/
import Derived.Test.YtkjocbdjenmegaaDoorKnF
import Derived.Test.YtkjocbdjenmegaaDoorLitE
import Derived.Test.YtkjocbdjenmegaaDoorRefD
namespace Go.Proofs.YtkjocbdjenmegaaDoor
open Go.AE
set_option linter.unusedVariables false
theorem num_parts {t : List UInt8} {w n : Nat} {sg sz : Bool} (hp : parseF t = .ok w n sg sz) : 1 ≤ w ∧ w ≤ 128 ∧ n < 2 ^ w := by
  have := parseF_ok t
  rw [hp] at this
  exact ⟨this.1, this.2.1, this.2.2.1⟩
/-- The range test behind every kind. -/
theorem j1_ok {v : Int} (hv : InR v) (a b c : Int) (L : List D) : Ev (fun n => konst_evaler_expr_j1 n v L 0 0 0 0 a b c) fun r => r = (true, st0 v L) := by
  obtain ⟨h1, h2⟩ := hv
  refine evDfn (fun n => konst_evaler_expr_j1_def n _ _ _ _ _ _ _ _ _) (Ev.yes rfl (Ev.no (decide_eq_false (by omega)) ?_))
  rw [decide_eq_false (show ¬ v > 2147483647 by omega)]
  exact evDfn (fun n => konst_evaler_expr_j2_def n _ _ _ _ _ _ _ _ _ _) (Ev.no rfl (Ev.ret rfl))
theorem j1_off {v : Int} (hv : inB v = false) (a b c : Int) (L : List D) : Ev (fun n => konst_evaler_expr_j1 n v L 0 0 0 0 a b c) fun r => r = (true, stE 0 L a b c 3) := by
  have hf := fail_new a b c 3 L 0 0 0
  refine evDfn (fun n => konst_evaler_expr_j1_def n _ _ _ _ _ _ _ _ _) (Ev.yes rfl ?_)
  unfold inB at hv
  cases h : decide (v < -2147483648) with
  | true => exact Ev.yes rfl (evDfn (fun n => konst_evaler_expr_j2_def n _ _ _ _ _ _ _ _ _ _) (Ev.yes rfl (evCall hf (Ev.yes rfl (Ev.ret rfl)))))
  | false =>
    have h := of_decide_eq_false h
    rw [decide_eq_true (show -2147483648 ≤ v by omega), Bool.true_and] at hv
    have hv := of_decide_eq_false hv
    rw [decide_eq_true (show v > 2147483647 by omega)]
    exact Ev.no rfl (evDfn (fun n => konst_evaler_expr_j2_def n _ _ _ _ _ _ _ _ _ _) (Ev.yes rfl (evCall hf (Ev.yes rfl (Ev.ret rfl)))))
theorem onum_is (p0 p1 p2 : Int) {t : List UInt8} (xs L : List D) (ht : t.length ≤ 100000) {w n : Nat} {sg sz : Bool} (hp : parseF t = .ok w n sg sz) {v : Int} (hi : intF w n sg = (v, 0)) (hv : InR v) :
    Ev (fun n => konst_evaler_expr n (exD 1 p0 p1 p2 t xs) (.lst 2 L) (.int .i64 0) (.int .i64 0) (.int .i64 0) (.int .i64 0)) fun r => r = (true, st0 v L) := by
  obtain ⟨h1, h2, h3⟩ := num_parts hp
  have hpa := parse_is (s := t) (by omega)
  rw [hp] at hpa
  have hin := Int_is h1 h2 h3 sg sz
  rw [hi] at hin
  have hn : Ev (fun n => konst_evaler_number n (exD 1 p0 p1 p2 t xs) (.lst 2 L) (.int .i64 0) (.int .i64 0) (.int .i64 0) (.int .i64 0)) fun r => r = (true, st0 v L) := by
    refine Ev.eq (fun n => konst_evaler_number_eq n _ _ _ _ _ _ _ _ _ _ _) (evCall hpa (Ev.yes rfl (Ev.no rfl (evDfn (fun n => konst_evaler_number_j1_def n _ _ _ _ _ _ _ _ _ _) (Ev.no rfl (evCall hin (Ev.yes rfl (Ev.no rfl (evDfn (fun n => konst_evaler_number_j2_def n _ _ _ _ _ _ _ _ _ _) (Ev.no rfl (Ev.ret rfl)))))))))))
  exact Ev.eq (fun n => konst_evaler_expr_eq n _ _ _ _ _ _ _ _ _ _ _) (Ev.yes rfl (evCall hn (Ev.yes rfl (j1_ok hv p0 p1 p2 L))))
theorem oname_is (p0 p1 p2 : Int) {t : List UInt8} (xs : List D) {l : Env0} (hl : l.length ≤ 1048576) {v : Int} (hf : lookF t l = some v) (hv : InR v) :
    Ev (fun n => konst_evaler_expr n (exD 2 p0 p1 p2 t xs) (.lst 2 (l.map nmD)) (.int .i64 0) (.int .i64 0) (.int .i64 0) (.int .i64 0)) fun r => r = (true, st0 v (l.map nmD)) := by
  have h := kfind_is hl t
  rw [hf] at h
  exact Ev.eq (fun n => konst_evaler_expr_eq n _ _ _ _ _ _ _ _ _ _ _) (Ev.no rfl (Ev.yes rfl (evCall h (Ev.yes rfl (Ev.no rfl (j1_ok hv p0 p1 p2 (l.map nmD)))))))
theorem oneg_is (p0 p1 p2 : Int) {x : D} (hx : IsE x) {L : List D} {v : Int} (hv : InR v) (hv2 : InR (-v))
    (h1 : Ev (fun n => konst_evaler_expr n x (.lst 2 L) (.int .i64 0) (.int .i64 0) (.int .i64 0) (.int .i64 0)) fun r => r = (true, st0 v L)) :
    Ev (fun n => konst_evaler_expr n (exD 3 p0 p1 p2 [45] [x]) (.lst 2 L) (.int .i64 0) (.int .i64 0) (.int .i64 0) (.int .i64 0)) fun r => r = (true, st0 (-v) L) := by
  obtain ⟨k, a, b, c, t, xs, rfl⟩ := hx
  obtain ⟨v1, v2⟩ := hv
  have ho : Ev (fun n => konst_evaler_one n (exD 3 p0 p1 p2 [45] [exD k a b c t xs]) (.lst 2 L) (.int .i64 0) (.int .i64 0) (.int .i64 0) (.int .i64 0)) fun r => r = (true, st0 (-v) L) := by
    refine Ev.eq (fun n => konst_evaler_one_eq n _ _ _ _ _ _ _ _ _ _ _) (Ev.yes rfl (Ev.yes rfl (Ev.yes rfl (evCall h1 (Ev.yes rfl (Ev.ret ?_))))))
    show (true, st0 (IntKind.i64.wrap (0 - v)) L) = _
    rw [wrap_id (by omega) (by omega), Int.zero_sub]
  exact Ev.eq (fun n => konst_evaler_expr_eq n _ _ _ _ _ _ _ _ _ _ _) (Ev.no rfl (Ev.no rfl (Ev.yes rfl (evCall ho (Ev.yes rfl (j1_ok hv2 p0 p1 p2 L))))))
def leastT : List UInt8 := [51, 50, 39, 115, 104, 56, 48, 48, 48, 48, 48, 48, 48]
theorem least_parse : parseF leastT = .ok 32 2147483648 true true := by kernel_rfl
theorem least_int : intF 32 2147483648 true = (-2147483648, 0) := by decide +kernel
theorem dec_parse {u : Nat} (h31 : u < 2147483648) : parseF (itoaS (u : Int)) = .ok 32 u true false ∧ intF 32 u true = ((u : Int), 0) := by
  have hn : u < 2 ^ 32 := by have : (2 : Nat) ^ 32 = 4294967296 := rfl; omega
  have hbit : u.testBit 31 = false := Nat.testBit_lt_two_pow (by have : (2 : Nat) ^ 31 = 2147483648 := rfl; omega)
  have hround := round (w := 32) (by decide) (by decide) hn true false (.inr rfl)
  have htext : textF 32 u true false = itoaS (u : Int) := by
    unfold textF plainT
    rw [hbit]
    show itoaS ((min u 2147483648 : Nat) : Int) = _
    rw [Nat.min_eq_left (by omega)]
  rw [htext] at hround
  refine ⟨hround, ?_⟩
  unfold intF
  rw [show (true && u.testBit (32 - 1)) = false from by rw [show 32 - 1 = 31 from rfl, hbit]; rfl, decide_eq_false (show ¬ u ≥ 2147483648 by omega)]; rfl
def wfX : Nat → D → Prop
  | 0, _ => False
  | n + 1, x => ∃ (k a b c : Int) (t : List UInt8) (xs : List D), x = exD k a b c t xs ∧ xs.length ≤ 100 ∧ ∀ y ∈ xs, wfX n y
theorem wfX_ok : ∀ {d : Nat} {x : D}, wfX d x → (notAny ty_iiiisl6 && okTy ty_iiiisl6 x) = true ∧ expTy ty_iiiisl6 x = x
  | d + 1, x, h => by
    obtain ⟨k, a, b, c, t, xs, rfl, _⟩ := h
    exact ⟨rfl, rfl⟩
def clampI (a : Int) : Int := max (-2147483648) (min a 2147483647)
theorem clamp_in (a : Int) : InR (clampI a) := by unfold InR clampI; omega
end Go.Proofs.YtkjocbdjenmegaaDoor
