/- Konst: numbers, names, minus; Value; the law of the operators. -/
import Derived.Test.YtkjocbdjenmegaaGreatDoorKnF
import Derived.Test.YtkjocbdjenmegaaGreatDoorLitE
import Derived.Test.YtkjocbdjenmegaaGreatDoorRefD
namespace Go.Proofs.YtkjocbdjenmegaaGreatDoor
open Go.AE
set_option linter.unusedVariables false
theorem num_parts {t : List UInt8} {w n : Nat} {sg sz : Bool} (hp : parseF t = .ok w n sg sz) : 1 ≤ w ∧ w ≤ 128 ∧ n < 2 ^ w := by
  have := parseF_ok t
  rw [hp] at this
  exact ⟨this.1, this.2.1, this.2.2.1⟩
/-- The range test behind every kind. -/
theorem j1_ok {v : Int} (hv : InR v) (a b c : Int) (L : List D) : Ev (fun n => konst_evaler_expr_j1 n v L 0 0 0 0 a b c) fun r => r = (true, st0 v L) := by
  obtain ⟨h1, h2⟩ := hv
  refine evDfn (fun n => konst_evaler_expr_j1_def n _ _ _ _ _ _ _ _ _) (Ev.yes rfl (Ev.no (decide_eq_false (by omega)) ?_))
  rw [decide_eq_false (show ¬ v > 2147483647 by omega)]
  exact evDfn (fun n => konst_evaler_expr_j2_def n _ _ _ _ _ _ _ _ _ _) (Ev.no rfl (Ev.ret rfl))
theorem j1_off {v : Int} (hv : inB v = false) (a b c : Int) (L : List D) : Ev (fun n => konst_evaler_expr_j1 n v L 0 0 0 0 a b c) fun r => r = (true, stE 0 L a b c 3) := by
  have hf := fail_new a b c 3 L 0 0 0
  refine evDfn (fun n => konst_evaler_expr_j1_def n _ _ _ _ _ _ _ _ _) (Ev.yes rfl ?_)
  unfold inB at hv
  cases h : decide (v < -2147483648) with
  | true => exact Ev.yes rfl (evDfn (fun n => konst_evaler_expr_j2_def n _ _ _ _ _ _ _ _ _ _) (Ev.yes rfl (evCall hf (Ev.yes rfl (Ev.ret rfl)))))
  | false =>
    have h := of_decide_eq_false h
    rw [decide_eq_true (show -2147483648 ≤ v by omega), Bool.true_and] at hv
    have hv := of_decide_eq_false hv
    rw [decide_eq_true (show v > 2147483647 by omega)]
    exact Ev.no rfl (evDfn (fun n => konst_evaler_expr_j2_def n _ _ _ _ _ _ _ _ _ _) (Ev.yes rfl (evCall hf (Ev.yes rfl (Ev.ret rfl)))))
theorem onum_is (p0 p1 p2 : Int) {t : List UInt8} (xs L : List D) (ht : t.length ≤ 100000) {w n : Nat} {sg sz : Bool} (hp : parseF t = .ok w n sg sz) {v : Int} (hi : intF w n sg = (v, 0)) (hv : InR v) :
    Ev (fun n => konst_evaler_expr n (exD 1 p0 p1 p2 t xs) (.lst 2 L) (.int .i64 0) (.int .i64 0) (.int .i64 0) (.int .i64 0)) fun r => r = (true, st0 v L) := by
  obtain ⟨h1, h2, h3⟩ := num_parts hp
  have hpa := parse_is (s := t) (by omega)
  rw [hp] at hpa
  have hin := Int_is h1 h2 h3 sg sz
  rw [hi] at hin
  have hn : Ev (fun n => konst_evaler_number n (exD 1 p0 p1 p2 t xs) (.lst 2 L) (.int .i64 0) (.int .i64 0) (.int .i64 0) (.int .i64 0)) fun r => r = (true, st0 v L) := by
    refine Ev.eq (fun n => konst_evaler_number_eq n _ _ _ _ _ _ _ _ _ _ _) (evCall hpa (Ev.yes rfl (Ev.no rfl (evDfn (fun n => konst_evaler_number_j1_def n _ _ _ _ _ _ _ _ _ _) (Ev.no rfl (evCall hin (Ev.yes rfl (Ev.no rfl (evDfn (fun n => konst_evaler_number_j2_def n _ _ _ _ _ _ _ _ _ _) (Ev.no rfl (Ev.ret rfl)))))))))))
  exact Ev.eq (fun n => konst_evaler_expr_eq n _ _ _ _ _ _ _ _ _ _ _) (Ev.yes rfl (evCall hn (Ev.yes rfl (j1_ok hv p0 p1 p2 L))))
theorem rnum_is (p0 p1 p2 : Int) {t : List UInt8} (xs E : List D) (ht : t.length ≤ 100000) {w n : Nat} {sg sz : Bool} (hp : parseF t = .ok w n sg sz) {v : Int} (hi : intF w n sg = (v, 0)) :
    Ev (fun n => ref11_Eval n (exD 1 p0 p1 p2 t xs) (.lst 2 E)) fun r => r = (true, [outD v 0 0 0 0]) := by
  obtain ⟨h1, h2, h3⟩ := num_parts hp
  have hpa := rparse_is (s := t) ht
  rw [hp] at hpa
  have hin := rInt_is h1 (by omega) h3 sg sz
  rw [hi] at hin
  exact Ev.eq (fun n => ref11_Eval_eq n _ _ _ _ _ _ _) (Ev.yes rfl (evCall hpa (Ev.yes rfl (Ev.no rfl (Ev.no rfl (evCall hin (Ev.yes rfl (Ev.no rfl (Ev.ret rfl)))))))))
theorem oname_is (p0 p1 p2 : Int) {t : List UInt8} (xs : List D) {l : Env0} (hl : l.length ≤ 1048576) {v : Int} (hf : lookF t l = some v) (hv : InR v) :
    Ev (fun n => konst_evaler_expr n (exD 2 p0 p1 p2 t xs) (.lst 2 (l.map nmD)) (.int .i64 0) (.int .i64 0) (.int .i64 0) (.int .i64 0)) fun r => r = (true, st0 v (l.map nmD)) := by
  have h := kfind_is hl t
  rw [hf] at h
  exact Ev.eq (fun n => konst_evaler_expr_eq n _ _ _ _ _ _ _ _ _ _ _) (Ev.no rfl (Ev.yes rfl (evCall h (Ev.yes rfl (Ev.no rfl (j1_ok hv p0 p1 p2 (l.map nmD)))))))
theorem oneg_is (p0 p1 p2 : Int) {x : D} (hx : IsE x) {L : List D} {v : Int} (hv : InR v) (hv2 : InR (-v))
    (h1 : Ev (fun n => konst_evaler_expr n x (.lst 2 L) (.int .i64 0) (.int .i64 0) (.int .i64 0) (.int .i64 0)) fun r => r = (true, st0 v L)) :
    Ev (fun n => konst_evaler_expr n (exD 3 p0 p1 p2 [45] [x]) (.lst 2 L) (.int .i64 0) (.int .i64 0) (.int .i64 0) (.int .i64 0)) fun r => r = (true, st0 (-v) L) := by
  obtain ⟨k, a, b, c, t, xs, rfl⟩ := hx
  obtain ⟨v1, v2⟩ := hv
  have ho : Ev (fun n => konst_evaler_one n (exD 3 p0 p1 p2 [45] [exD k a b c t xs]) (.lst 2 L) (.int .i64 0) (.int .i64 0) (.int .i64 0) (.int .i64 0)) fun r => r = (true, st0 (-v) L) := by
    refine Ev.eq (fun n => konst_evaler_one_eq n _ _ _ _ _ _ _ _ _ _ _) (Ev.yes rfl (Ev.yes rfl (Ev.yes rfl (evCall h1 (Ev.yes rfl (Ev.ret ?_))))))
    show (true, st0 (IntKind.i64.wrap (0 - v)) L) = _
    rw [wrap_id (by omega) (by omega), Int.zero_sub]
  exact Ev.eq (fun n => konst_evaler_expr_eq n _ _ _ _ _ _ _ _ _ _ _) (Ev.no rfl (Ev.no rfl (Ev.yes rfl (evCall ho (Ev.yes rfl (j1_ok hv2 p0 p1 p2 L))))))
theorem rneg_is (p0 p1 p2 : Int) {x : D} (hx : IsE x) {E : List D} {v : Int} (hv : InR v) (hv2 : InR (-v))
    (h1 : Ev (fun n => ref11_Eval n x (.lst 2 E)) fun r => r = (true, [outD v 0 0 0 0])) :
    Ev (fun n => ref11_Eval n (exD 3 p0 p1 p2 [45] [x]) (.lst 2 E)) fun r => r = (true, [outD (-v) 0 0 0 0]) := by
  obtain ⟨k, a, b, c, t, xs, rfl⟩ := hx
  obtain ⟨v1, v2⟩ := hv
  have hb : inB (-v) = true := and_tt (decide_eq_true hv2.1) (decide_eq_true hv2.2)
  have hg := good_step 3 p0 p1 p2 [45] [exD k a b c t xs] (m := IntKind.i64.wrap (0 - v)) (m' := -v) (by rw [wrap_id (by omega) (by omega), Int.zero_sub])
  unfold gd at hg
  rw [hb] at hg
  exact Ev.eq (fun n => ref11_Eval_eq n _ _ _ _ _ _ _) (Ev.no rfl (Ev.no rfl (Ev.yes rfl (Ev.no rfl (evDfn (fun n => ref11_Eval_j1_def n _ _ _ _ _ _ _ _) (Ev.no rfl (Ev.yes rfl (Ev.yes rfl (evCall h1 (Ev.yes rfl (Ev.no rfl (Ev.yes rfl hg)))))))))))) 
def leastT : List UInt8 := [51, 50, 39, 115, 104, 56, 48, 48, 48, 48, 48, 48, 48]
theorem least_parse : parseF leastT = .ok 32 2147483648 true true := by kernel_rfl
theorem least_int : intF 32 2147483648 true = (-2147483648, 0) := by decide +kernel
theorem dec_parse {u : Nat} (h31 : u < 2147483648) : parseF (itoaS (u : Int)) = .ok 32 u true false ∧ intF 32 u true = ((u : Int), 0) := by
  have hn : u < 2 ^ 32 := by have : (2 : Nat) ^ 32 = 4294967296 := rfl; omega
  have hbit : u.testBit 31 = false := Nat.testBit_lt_two_pow (by have : (2 : Nat) ^ 31 = 2147483648 := rfl; omega)
  have hround := round (w := 32) (by decide) (by decide) hn true false (.inr rfl)
  have htext : textF 32 u true false = itoaS (u : Int) := by
    unfold textF plainT
    rw [hbit]
    show itoaS ((min u 2147483648 : Nat) : Int) = _
    rw [Nat.min_eq_left (by omega)]
  rw [htext] at hround
  refine ⟨hround, ?_⟩
  unfold intF
  rw [show (true && u.testBit (32 - 1)) = false from by rw [show 32 - 1 = 31 from rfl, hbit]; rfl, decide_eq_false (show ¬ u ≥ 2147483648 by omega)]; rfl
/-- An expression that is a number. -/
def NumIs (x : D) (v : Int) : Prop := IsE x ∧ (∀ L, Ev (fun n => konst_evaler_expr n x (.lst 2 L) (.int .i64 0) (.int .i64 0) (.int .i64 0) (.int .i64 0)) fun r => r = (true, st0 v L)) ∧ (∀ E, Ev (fun n => ref11_Eval n x (.lst 2 E)) fun r => r = (true, [outD v 0 0 0 0]))
def wfX : Nat → D → Prop
  | 0, _ => False
  | n + 1, x => ∃ (k a b c : Int) (t : List UInt8) (xs : List D), x = exD k a b c t xs ∧ xs.length ≤ 100 ∧ ∀ y ∈ xs, wfX n y
theorem wfX_ok : ∀ {d : Nat} {x : D}, wfX d x → (notAny ty_iiiisl6 && okTy ty_iiiisl6 x) = true ∧ expTy ty_iiiisl6 x = x
  | d + 1, x, h => by
    obtain ⟨k, a, b, c, t, xs, rfl, _⟩ := h
    exact ⟨rfl, rfl⟩
theorem told_is : ∀ (d : Nat) (x : D), wfX d x → Ev (fun n => law09_ToldExpr n x) fun r => r = (true, [x])
  | d + 1, x, h => by
    obtain ⟨k, a, b, c, t, xs, rfl, hl, hy⟩ := h
    have loop : ∀ (m j : Nat), xs.length - j = m → j ≤ xs.length →
        Ev (fun n => law09_ToldExpr_L0 n (.lst 6 xs) (.int .i64 (xs.length : Int)) (.int .i64 (j : Int)) (.int .i64 0) (.int .i64 0) (.int .i64 0) (.int .i64 0) (.str []) (.int .i64 k) (.int .i64 a) (.int .i64 b) (.int .i64 c) (.str t) (.lst 6 []) (.lst 6 (xs.take j))) fun r => ∃ j' : Int, r = (false, [.lst 6 xs, .int .i64 (xs.length : Int), .int .i64 j', .int .i64 0, .int .i64 0, .int .i64 0, .int .i64 0, .str [], .int .i64 k, .int .i64 a, .int .i64 b, .int .i64 c, .str t, .lst 6 [], .lst 6 xs]) := by
      intro m
      induction m with
      | zero =>
        intro j hm hj
        rw [List.take_of_length_le (by omega)]
        exact Ev.eq (fun n => law09_ToldExpr_L0_eq n _ _ _ _ _ _ _ _ _ _ _ _ _ _ _) (Ev.no (decide_eq_false (by omega)) (Ev.ret ⟨_, rfl⟩))
      | succ m ih =>
        intro j hm hj
        have hj2 : j < xs.length := by omega
        have hw : IntKind.i64.wrap ((j : Int) + 1) = ((j + 1 : Nat) : Int) := wrap_succ (by omega)
        have hyj := hy xs[j] (List.getElem_mem hj2)
        obtain ⟨o1, o2⟩ := wfX_ok hyj
        have ht := told_is d xs[j] hyj
        have nx := ih (j + 1) (by omega) hj2
        rw [List.take_succ_eq_append_getElem hj2] at nx
        refine Ev.eq (fun n => law09_ToldExpr_L0_eq n _ _ _ _ _ _ _ _ _ _ _ _ _ _ _) (Ev.yes (decide_eq_true (by omega)) (Ev.yes (in_range hj2) ?_))
        rw [get_nat hj2, hw, o2]
        have hc : chk law09_ToldExpr.osk [xs[j]] = true := by
          have q := hyj
          obtain ⟨d', rfl⟩ : ∃ d', d = d' + 1 := by cases d with | zero => exact q.elim | succ d' => exact ⟨d', rfl⟩
          obtain ⟨k', a', b', c', t', xs', e, _⟩ := q
          rw [e]; rfl
        refine Ev.yes o1 (evCall ht (Ev.yes hc (Ev.yes (Nat.ble_eq_true_of_le (by rw [List.length_take]; simp only [maxLst]; omega)) ?_)))
        show Ev (fun n => law09_ToldExpr_L0 n _ _ _ _ _ _ _ _ _ _ _ _ _ _ (.lst 6 (xs.take j ++ [expTy ty_iiiisl6 xs[j]]))) _
        rw [o2]
        exact nx
    have h0 := loop xs.length 0 rfl (Nat.zero_le _)
    rw [List.take_zero] at h0
    refine Ev.eq (fun n => law09_ToldExpr_eq n _ _ _ _ _ _) (Ev.bindL h0 (fun ds h => by obtain ⟨_, h⟩ := h; cases h) fun ds h => ?_)
    obtain ⟨_, h⟩ := h
    cases h
    exact Ev.yes rfl (Ev.ret rfl)
def clampI (a : Int) : Int := max (-2147483648) (min a 2147483647)
theorem clamp_in (a : Int) : InR (clampI a) := by unfold InR clampI; omega
theorem kvalue_pos {m : Int} (h0 : 0 ≤ m) (h1 : m ≤ 2147483647) : Ev (fun n => konst_Value n (.int .i64 m)) fun r => ∃ x, r = (true, [x]) ∧ NumIs x m ∧ wfX 1 x := by
  obtain ⟨u, rfl⟩ : ∃ u : Nat, m = (u : Int) := ⟨m.toNat, by omega⟩
  have e : max (-2147483648 : Int) (min (u : Int) 2147483647) = (u : Int) := by omega
  obtain ⟨p1, p2⟩ := dec_parse (u := u) (by omega)
  have hl := itoa_len (u : Int)
  refine Ev.eq (fun n => konst_Value_eq n _) ?_
  rw [e]
  refine Ev.no (by simp) (Ev.no (decide_eq_false (by omega)) (evCall (itoa_is (n := (u : Int)) (by omega) (by omega)) (Ev.yes rfl (Ev.ret ⟨exD 1 0 0 0 (itoaS (u : Int)) [], rfl, ⟨⟨_, _, _, _, _, _, rfl⟩, fun L => onum_is 0 0 0 [] L (by omega) p1 p2 ⟨by omega, by omega⟩, fun E => rnum_is 0 0 0 [] E (by omega) p1 p2⟩, ⟨_, _, _, _, _, _, rfl, by simp, fun y hy => by simp at hy⟩⟩))))
theorem kvalue_is (a : Int) : Ev (fun n => konst_Value n (.int .i64 a)) fun r => ∃ x, r = (true, [x]) ∧ NumIs x (clampI a) ∧ wfX 2 x := by
  obtain ⟨c1, c2⟩ := clamp_in a
  refine Ev.eq (fun n => konst_Value_eq n _) ?_
  show Ev (fun n => bif (clampI a == -2147483648) then _ else bif (decide (clampI a < 0)) then AE.bindC (konst_Value n (.int .i64 (IntKind.i64.wrap (0 - clampI a)))) _ else AE.bindC (strconv_Itoa n (.int .i64 (clampI a))) _) _
  generalize clampI a = m at c1 c2 ⊢
  cases hm : (m == -2147483648) with
  | true =>
    have hm : m = -2147483648 := by simpa using hm
    subst hm
    exact Ev.yes rfl (Ev.ret ⟨exD 1 0 0 0 leastT [], rfl, ⟨⟨_, _, _, _, _, _, rfl⟩, fun L => onum_is 0 0 0 [] L (by decide) least_parse least_int ⟨by omega, by omega⟩, fun E => rnum_is 0 0 0 [] E (by decide) least_parse least_int⟩, ⟨_, _, _, _, _, _, rfl, by simp, fun y hy => by simp at hy⟩⟩)
  | false =>
    have hm : m ≠ -2147483648 := by simpa using hm
    refine Ev.no rfl ?_
    cases hn : decide (m < 0) with
    | true =>
      have hn := of_decide_eq_true hn
      have ew : IntKind.i64.wrap (0 - m) = -m := by rw [wrap_id (by omega) (by omega)]; omega
      rw [ew]
      refine Ev.yes rfl (Ev.bindC (kvalue_pos (m := -m) (by omega) (by omega)) ?_)
      rintro _ _ ⟨x, h, ⟨hx, ho, hr⟩, hw⟩
      cases h
      obtain ⟨k, a', b, c, t, xs, rfl, _, _⟩ := hw
      refine ⟨rfl, Ev.yes rfl (Ev.ret ⟨exD 3 0 0 0 [45] [exD k a' b c t xs], rfl, ⟨⟨_, _, _, _, _, _, rfl⟩, fun L => ?_, fun E => ?_⟩, ⟨_, _, _, _, _, _, rfl, by simp, fun y hy => ?_⟩⟩)⟩
      · have := oneg_is 0 0 0 hx (v := -m) ⟨by omega, by omega⟩ ⟨by omega, by omega⟩ (ho L)
        rw [Int.neg_neg] at this
        exact this
      · have := rneg_is 0 0 0 hx (v := -m) ⟨by omega, by omega⟩ ⟨by omega, by omega⟩ (hr E)
        rw [Int.neg_neg] at this
        exact this
      · have := List.mem_singleton.1 hy
        subst this
        exact ⟨_, _, _, _, _, _, rfl, by assumption, by assumption⟩
    | false =>
      have hn := of_decide_eq_false hn
      obtain ⟨u, rfl⟩ : ∃ u : Nat, m = (u : Int) := ⟨m.toNat, by omega⟩
      obtain ⟨p1, p2⟩ := dec_parse (u := u) (by omega)
      have hl := itoa_len (u : Int)
      exact Ev.no rfl (evCall (itoa_is (n := (u : Int)) (by omega) (by omega)) (Ev.yes rfl (Ev.ret ⟨exD 1 0 0 0 (itoaS (u : Int)) [], rfl, ⟨⟨_, _, _, _, _, _, rfl⟩, fun L => onum_is 0 0 0 [] L (by omega) p1 p2 ⟨by omega, by omega⟩, fun E => rnum_is 0 0 0 [] E (by omega) p1 p2⟩, ⟨_, _, _, _, _, _, rfl, by simp, fun y hy => by simp at hy⟩⟩)))
end Go.Proofs.YtkjocbdjenmegaaGreatDoor
