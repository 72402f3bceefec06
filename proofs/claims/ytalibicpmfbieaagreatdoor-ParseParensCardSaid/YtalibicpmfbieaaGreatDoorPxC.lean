/- The parser on the words of an expression: operators of one, parentheses, lists, names, calls. -/
import Derived.Test.YtalibicpmfbieaaGreatDoorPxB
namespace Go.Proofs.YtalibicpmfbieaaGreatDoor
open Go.AE
set_option linter.unusedVariables false
set_option linter.unusedSimpArgs false
theorem unT2_dec : decide (unT2.length ≤ 4294967280) = true := by kernel_rfl
theorem unT2_len : unT2.length ≤ 4294967280 := of_decide_eq_true unT2_dec
theorem un_tab : (([43] :: unT).all fun t => decide (t.length ≤ 3) && decide (0 ≤ idxStr (([32] ++ t) ++ [32]) unT2 0) && !(t == [94, 126])) = true := by kernel_rfl
theorem un_no : ([[40], [123]].all fun t => !decide (0 ≤ idxStr (([32] ++ t) ++ [32]) unT2 0)) = true := by kernel_rfl
theorem un_sub : (unT.all fun t => !(t == [43])) = true := by kernel_rfl
noncomputable def unF : PF := fun n => parse_parser_unary n
noncomputable def oneF : PF := fun n => parse_parser_one n
noncomputable def expF : PF := fun n => parse_parser_expr n
section
variable {l : List D} (hl : l.length ≤ 1000000)
theorem unary_of_one {i m : Nat} {R : D → Prop} {h : Nat} (hR : ∀ y, R y → IsE y) (hx : ∃ k t a b e, l[i]? = some (tk k t a b e) ∧ (k ≠ 3 ∨ t = [40] ∨ t = [123])) (H : Ph oneF l i m R h) : Ph unF l i m R h := by
  intro d c p0 p1 p2 hd hd2
  obtain ⟨k, t, a, b, e, ht, hk⟩ := hx
  have J : Ev (fun n => parse_parser_unary_j1 n true [tk k t a b e, .lst 5 l, .int .i64 (i : Int), .int .i64 d, .int .i64 c, .int .i64 p0, .int .i64 p1, .int .i64 p2, .int .i64 0]) fun r => ∃ y, R y ∧ r = (true, [y, .lst 5 l, .int .i64 ((i + m : Nat) : Int), .int .i64 d, .int .i64 c, .int .i64 p0, .int .i64 p1, .int .i64 p2, .int .i64 0]) := by
    refine evDf (fun n => parse_parser_unary_j1_def n _ _) (Ev.yes rfl (Ev.bindC (H d c p0 p1 p2 hd hd2) ?_))
    rintro _ ds ⟨y, hy, h0⟩
    cases h0
    obtain ⟨v0, v1, v2, v3, vt, vs, rfl⟩ := hR y hy
    exact ⟨rfl, Ev.yes rfl (Ev.ret ⟨_, hy, rfl⟩)⟩
  unfold unF
  refine Ev.eq (fun n => parse_parser_unary_eq n l i d c p0 p1 p2 0) (Ev.bindC (now_ev (d := d) (c := c) (p0 := p0) (p1 := p1) (p2 := p2) ht) ?_)
  (intro _ ds h0; cases h0; refine ⟨rfl, Ev.yes rfl ?_⟩)
  refine Ev.test (fun _ => J) fun hk3 => ?_
  have hk3 : (k != 3) = false := hk3
  have hk3 : k = 3 := by simpa using hk3
  have ht2 : t = [40] ∨ t = [123] := by rcases hk with h | h; exact absurd hk3 h; exact h
  have hno : decide (0 ≤ idxStr (([32] ++ t) ++ [32]) unT2 0) = false := by
    have := List.all_eq_true.1 un_no t (by rcases ht2 with rfl | rfl <;> simp)
    simpa using this
  have hlen : t.length ≤ 3 := by rcases ht2 with rfl | rfl <;> simp
  refine Ev.yes (decide_eq_true (by show 1 + t.length ≤ maxStr; simp only [maxStr]; omega)) (Ev.yes (decide_eq_true (by show ([32] ++ t).length + 1 ≤ maxStr; simp only [maxStr, List.length_append, List.length_singleton]; omega)) (Ev.bindC (contains_ev (s := unT2) unT2_len (([32] ++ t) ++ [32])) ?_))
  (intro _ ds h0; cases h0; refine ⟨rfl, Ev.yes rfl ?_⟩)
  show Ev (fun n => parse_parser_unary_j1 n (!decide (0 ≤ idxStr (([32] ++ t) ++ [32]) unT2 0)) _) _
  rw [hno]
  exact J
include hl
/-- An operator of one, and what it is of. -/
theorem unary_sign {i m : Nat} {R : D → Prop} {h : Nat} (hR : ∀ y, R y → IsE y) {t : List UInt8} (ht : t ∈ [43] :: unT) (hx : ∃ a b e, l[i]? = some (tk 3 t a b e)) (H : Ph unF l (i + 1) m R h) :
    Ph unF l i (1 + m) (fun y => bif t == [43] then R y else ∃ a b e u, y = PE 3 a b e t [u] ∧ R u) (h + 1) := by
  intro d c p0 p1 p2 hd hd2
  obtain ⟨a, b, e, hx⟩ := hx
  have htab := List.all_eq_true.1 un_tab t ht
  simp only [Bool.and_eq_true, decide_eq_true_eq, Bool.not_eq_true'] at htab
  obtain ⟨⟨hlen, hyes⟩, hpl⟩ := htab
  have hil := lt_of hx
  have I := H (d + 1) c p0 p1 p2 (by omega) (by omega)
  rw [show i + 1 + m = i + (1 + m) from by omega, ← wrap_succ (j := i) (by omega)] at I
  unfold unF at I ⊢
  refine Ev.eq (fun n => parse_parser_unary_eq n l i d c p0 p1 p2 0) (Ev.bindC (now_ev (d := d) (c := c) (p0 := p0) (p1 := p1) (p2 := p2) hx) ?_)
  (intro _ ds h0; cases h0; refine ⟨rfl, Ev.yes rfl ?_⟩)
  refine Ev.no rfl (Ev.yes (decide_eq_true (by show 1 + t.length ≤ maxStr; simp only [maxStr]; omega)) (Ev.yes (decide_eq_true (by show ([32] ++ t).length + 1 ≤ maxStr; simp only [maxStr, List.length_append, List.length_singleton]; omega)) (Ev.bindC (contains_ev (s := unT2) unT2_len (([32] ++ t) ++ [32])) ?_)))
  (intro _ ds h0; cases h0; refine ⟨rfl, Ev.yes rfl ?_⟩)
  show Ev (fun n => parse_parser_unary_j1 n (!decide (0 ≤ idxStr (([32] ++ t) ++ [32]) unT2 0)) _) _
  rw [decide_eq_true hyes]
  refine evDf (fun n => parse_parser_unary_j1_def n _ _) (Ev.no rfl (Ev.bindC (in_ev (l := l) (d := d) (c := c) (p0 := p0) (p1 := p1) (p2 := p2) (i : Int) (by omega) hd) ?_))
  (intro _ ds h0; cases h0; refine ⟨rfl, Ev.yes rfl ?_⟩)
  refine Ev.no rfl (Ev.bindC I ?_)
  (rintro _ ds ⟨y, hy, h0⟩; cases h0; obtain ⟨v0, v1, v2, v3, vt, vs, rfl⟩ := hR y hy; refine ⟨rfl, Ev.yes rfl ?_⟩)
  refine Ev.test (fun h => ?_) fun h => ?_
  · have h : (t == [43]) = true := h
    refine Ev.bindC (out_ev (l := l) (d := d) (c := c) (p0 := p0) (p1 := p1) (p2 := p2) _ (by omega) hd) ?_
    (intro _ ds h0; cases h0; refine ⟨rfl, Ev.yes rfl ?_⟩)
    exact Ev.ret ⟨_, by rw [h]; exact hy, rfl⟩
  · have h : (t == [43]) = false := h
    refine Ev.bindC (Ev.eq (fun n => parse_plain_eq n t) (Ev.no hpl (Ev.ret (P := fun r => r = (true, [.str t])) rfl))) ?_
    (intro _ ds h0; cases h0; refine ⟨rfl, Ev.yes rfl ?_⟩)
    refine Ev.bindC (out_ev (l := l) (d := d) (c := c) (p0 := p0) (p1 := p1) (p2 := p2) _ (by omega) hd) ?_
    (intro _ ds h0; cases h0; refine ⟨rfl, Ev.yes rfl ?_⟩)
    exact Ev.ret ⟨_, by rw [h]; exact ⟨a, b, e, _, rfl, hy⟩, rfl⟩
omit hl in
theorem cl_ne {t w : List UInt8} (h : cl t = true) (hw : clT.contains w = false) (k : Int) : (t == w && k != 2) = false := by
  cases hb : t == w with
  | false => rfl
  | true => rw [eq_of_beq hb] at h; unfold cl at h; rw [hw] at h; cases h
/-- An expression without a question. -/
theorem expr_of {i m : Nat} {R : D → Prop} {h : Nat} (hR : ∀ y, R y → IsE y) (hx : ∃ k t a b e, l[i]? = some (tk k t a b e)) (hn : Nx l (i + m) cl) (H : Ph (lvF 0) l i m R h) : Ph expF l i m R (h + 1) := by
  have _ := hl
  intro d c p0 p1 p2 hd hd2
  obtain ⟨k, t, a, b, e, hx⟩ := hx
  obtain ⟨t2, a2, b2, e2, h2, hc⟩ := hn
  have I := H (d + 1) c p0 p1 p2 (by omega) (by omega)
  unfold expF
  unfold lvF at I
  refine Ev.eq (fun n => parse_parser_expr_eq n l i d c p0 p1 p2 0) (Ev.bindC (now_ev (d := d) (c := c) (p0 := p0) (p1 := p1) (p2 := p2) hx) ?_)
  (intro _ ds h0; cases h0; refine ⟨rfl, Ev.yes rfl ?_⟩)
  refine Ev.bindC (in_ev (l := l) (d := d) (c := c) (p0 := p0) (p1 := p1) (p2 := p2) (i : Int) (by omega) hd) ?_
  (intro _ ds h0; cases h0; refine ⟨rfl, Ev.yes rfl ?_⟩)
  refine Ev.no rfl (Ev.bindC I ?_)
  (rintro _ ds ⟨y, hy, h0⟩; cases h0; obtain ⟨v0, v1, v2, v3, vt, vs, rfl⟩ := hR y hy; refine ⟨rfl, Ev.yes rfl ?_⟩)
  refine Ev.bindC (take_no (d := (d + 1)) (c := c) (p0 := p0) (p1 := p1) (p2 := p2) (w := [63]) h2 (cl_ne hc rfl 3)) ?_
  (intro _ ds h0; cases h0; refine ⟨rfl, Ev.yes rfl ?_⟩)
  refine Ev.yes rfl (Ev.bindC (out_ev (l := l) (d := d) (c := c) (p0 := p0) (p1 := p1) (p2 := p2) _ (by omega) hd) ?_)
  (intro _ ds h0; cases h0; refine ⟨rfl, Ev.yes rfl ?_⟩)
  exact Ev.ret ⟨_, hy, rfl⟩
/-- A choice. -/
theorem expr_cond {i m1 m2 m3 : Nat} {R1 R2 R3 : D → Prop} {h : Nat} (hR1 : ∀ y, R1 y → IsE y) (hR2 : ∀ y, R2 y → IsE y) (hR3 : ∀ y, R3 y → IsE y) (hx : ∃ k t a b e, l[i]? = some (tk k t a b e)) (H1 : Ph (lvF 0) l i m1 R1 h)
    (hq : ∃ a b e, l[i + m1]? = some (tk 3 [63] a b e)) (H2 : Ph expF l (i + m1 + 1) m2 R2 h) (hc : ∃ a b e, l[i + m1 + 1 + m2]? = some (tk 3 [58] a b e)) (H3 : Ph expF l (i + m1 + 1 + m2 + 1) m3 R3 h) :
    Ph expF l i (m1 + 1 + m2 + 1 + m3) (fun y => ∃ a b e u v w, y = PE 5 a b e [] [u, v, w] ∧ R1 u ∧ R2 v ∧ R3 w) (h + 1) := by
  intro d c p0 p1 p2 hd hd2
  obtain ⟨k, t, a, b, e, hx⟩ := hx
  obtain ⟨a2, b2, e2, hq⟩ := hq
  obtain ⟨a3, b3, e3, hc⟩ := hc
  have hil := lt_of hc
  have I1 := H1 (d + 1) c p0 p1 p2 (by omega) (by omega)
  have I2 := H2 (d + 1) c p0 p1 p2 (by omega) (by omega)
  have I3 := H3 (d + 1) c p0 p1 p2 (by omega) (by omega)
  rw [show i + m1 + 1 + m2 + 1 + m3 = i + (m1 + 1 + m2 + 1 + m3) from by omega] at I3
  unfold expF at I2 I3 ⊢
  unfold lvF at I1
  refine Ev.eq (fun n => parse_parser_expr_eq n l i d c p0 p1 p2 0) (Ev.bindC (now_ev (d := d) (c := c) (p0 := p0) (p1 := p1) (p2 := p2) hx) ?_)
  (intro _ ds h0; cases h0; refine ⟨rfl, Ev.yes rfl ?_⟩)
  refine Ev.bindC (in_ev (l := l) (d := d) (c := c) (p0 := p0) (p1 := p1) (p2 := p2) (i : Int) (by omega) hd) ?_
  (intro _ ds h0; cases h0; refine ⟨rfl, Ev.yes rfl ?_⟩)
  refine Ev.no rfl (Ev.bindC I1 ?_)
  (rintro _ ds ⟨y1, hy1, h0⟩; cases h0; obtain ⟨v0, v1, v2, v3, vt, vs, rfl⟩ := hR1 y1 hy1; refine ⟨rfl, Ev.yes rfl ?_⟩)
  refine Ev.bindC (take_yes (d := (d + 1)) (c := c) (p0 := p0) (p1 := p1) (p2 := p2) (w := [63]) hl hq rfl) ?_
  (intro _ ds h0; cases h0; refine ⟨rfl, Ev.yes rfl ?_⟩)
  refine Ev.no rfl (Ev.bindC I2 ?_)
  (rintro _ ds ⟨y2, hy2, h0⟩; cases h0; obtain ⟨v0, v1, v2, v3, vt, vs, rfl⟩ := hR2 y2 hy2; refine ⟨rfl, Ev.yes rfl ?_⟩)
  refine Ev.bindC (want_ev (d := (d + 1)) (c := c) (p0 := p0) (p1 := p1) (p2 := p2) hl [[58]] (by decide) (word_at hc rfl)) ?_
  (intro _ ds h0; cases h0; refine ⟨rfl, Ev.yes rfl ?_⟩)
  refine Ev.bindC I3 ?_
  (rintro _ ds ⟨y3, hy3, h0⟩; cases h0; obtain ⟨v0, v1, v2, v3, vt, vs, rfl⟩ := hR3 y3 hy3; refine ⟨rfl, Ev.yes rfl ?_⟩)
  refine Ev.bindC (out_ev (l := l) (d := d) (c := c) (p0 := p0) (p1 := p1) (p2 := p2) _ (by omega) hd) ?_
  (intro _ ds h0; cases h0; refine ⟨rfl, Ev.yes rfl ?_⟩)
  exact Ev.ret ⟨_, ⟨a, b, e, _, _, _, rfl, hy1, hy2, hy3⟩, rfl⟩
/-- Within parentheses. -/
theorem one_paren {i m : Nat} {R : D → Prop} {h : Nat} (hR : ∀ y, R y → IsE y) (ho : ∃ a b e, l[i]? = some (tk 3 [40] a b e)) (H : Ph expF l (i + 1) m R h) (hs : ∃ a b e, l[i + 1 + m]? = some (tk 3 [41] a b e)) : Ph oneF l i (1 + m + 1) R h := by
  intro d c p0 p1 p2 hd hd2
  obtain ⟨a, b, e, ho⟩ := ho
  obtain ⟨a2, b2, e2, hs⟩ := hs
  have I := H d c p0 p1 p2 hd hd2
  unfold expF at I
  unfold oneF
  rw [show i + (1 + m + 1) = i + 1 + m + 1 from by omega]
  refine Ev.eq (fun n => parse_parser_one_eq n l i d c p0 p1 p2 0) (Ev.bindC (now_ev (d := d) (c := c) (p0 := p0) (p1 := p1) (p2 := p2) ho) ?_)
  (intro _ ds h0; cases h0; refine ⟨rfl, Ev.yes rfl ?_⟩)
  refine Ev.no rfl (Ev.bindC (take_yes (d := d) (c := c) (p0 := p0) (p1 := p1) (p2 := p2) (w := [40]) hl ho rfl) ?_)
  (intro _ ds h0; cases h0; refine ⟨rfl, Ev.yes rfl ?_⟩)
  refine Ev.yes rfl (Ev.bindC I ?_)
  (rintro _ ds ⟨y, hy, h0⟩; cases h0; obtain ⟨v0, v1, v2, v3, vt, vs, rfl⟩ := hR y hy; refine ⟨rfl, Ev.yes rfl ?_⟩)
  refine Ev.bindC (want_ev (d := d) (c := c) (p0 := p0) (p1 := p1) (p2 := p2) hl [[41]] (by decide) (word_at hs rfl)) ?_
  (intro _ ds h0; cases h0; refine ⟨rfl, Ev.yes rfl ?_⟩)
  exact Ev.ret ⟨_, hy, rfl⟩
/-- A number. -/
theorem one_num {i : Nat} {t : List UInt8} (hx : ∃ a b e, l[i]? = some (tk 2 t a b e)) : Ph oneF l i 1 (fun y => ∃ a b e, y = PE 1 a b e t []) 0 := by
  intro d c p0 p1 p2 hd hd2
  obtain ⟨a, b, e, hx⟩ := hx
  have hil := lt_of hx
  unfold oneF
  refine Ev.eq (fun n => parse_parser_one_eq n l i d c p0 p1 p2 0) (Ev.bindC (now_ev (d := d) (c := c) (p0 := p0) (p1 := p1) (p2 := p2) hx) ?_)
  (intro _ ds h0; cases h0; refine ⟨rfl, Ev.yes rfl ?_⟩)
  refine Ev.yes rfl (Ev.ret ⟨_, ⟨a, b, e, rfl⟩, ?_⟩)
  rw [← wrap_succ (by omega)]; rfl
/-- A name. -/
theorem one_name {i : Nat} {t : List UInt8} (hg : okN t = true) (hx : ∃ a b e, l[i]? = some (tk 1 t a b e)) {p : List UInt8 → Bool} (hn : Nx l (i + 1) p) (hp : ∀ t, p t = true → (t == [91]) = false ∧ (t == [40]) = false) : Ph oneF l i 1 (fun y => ∃ a b e, y = PE 2 a b e t []) 0 := by
  intro d c p0 p1 p2 hd hd2
  obtain ⟨a, b, e, hx⟩ := hx
  obtain ⟨t2, a2, b2, e2, h2, hq⟩ := hn
  refine (one_ev (d := d) (c := c) (p0 := p0) (p1 := p1) (p2 := p2) hl hx hg h2 (hp t2 hq).1 (hp t2 hq).2).mono fun r hr => ?_
  exact ⟨_, ⟨a, b, e, rfl⟩, hr⟩
/-- More of a list: so many, each behind a comma. -/
def Els (l : List D) (h : Nat) : Nat → List (Nat × (D → Prop)) → Nat → Prop
  | i, [], e => i = e
  | i, p :: r, e => (∃ a b c, l[i]? = some (tk 3 [44] a b c)) ∧ Ph expF l (i + 1) p.1 p.2 h ∧ (∀ y, p.2 y → IsE y) ∧ Els l h (i + 1 + p.1) r e
theorem els_ev {h : Nat} {e : Nat} (hn : ∃ t a b c, l[e]? = some (tk 3 t a b c) ∧ (t == [44]) = false) : ∀ (es : List (Nat × (D → Prop))) (i : Nat) (acc : List D), Els l h i es e → acc.length + es.length ≤ 1000 → ∀ d c p0 p1 p2 : Int, 0 ≤ d → d + h ≤ 40 →
    Ev (fun n => parse_parser_exprs_L0 n (.lst 5 l) (.int .i64 (i : Int)) (.int .i64 d) (.int .i64 c) (.int .i64 p0) (.int .i64 p1) (.int .i64 p2) (.int .i64 0) (.lst 6 acc)) fun r => ∃ ys, F2 (fun p y => p.2 y) es ys ∧ r = (false, [.lst 5 l, .int .i64 (e : Int), .int .i64 d, .int .i64 c, .int .i64 p0, .int .i64 p1, .int .i64 p2, .int .i64 0, .lst 6 (acc ++ ys)])
  | [], i, acc, h0, _, d, c, p0, p1, p2, hd, hd2 => by
    obtain ⟨t, a, b, e', ht, hne⟩ := hn
    have h0 : i = e := h0
    subst h0
    refine Ev.eq (fun n => parse_parser_exprs_L0_eq n l i d c p0 p1 p2 0 acc) (Ev.bindC (take_no (d := d) (c := c) (p0 := p0) (p1 := p1) (p2 := p2) (w := [44]) ht (by rw [hne]; rfl)) ?_)
    (intro _ ds h0; cases h0; refine ⟨rfl, Ev.yes rfl ?_⟩)
    exact Ev.no rfl (Ev.ret ⟨[], .nil, by rw [List.append_nil]; rfl⟩)
  | (m, R) :: es, i, acc, h0, hb, d, c, p0, p1, p2, hd, hd2 => by
    obtain ⟨⟨a, b, e', hc⟩, H, hR, hr⟩ := h0
    have I := H d c p0 p1 p2 hd hd2
    unfold expF at I
    refine Ev.eq (fun n => parse_parser_exprs_L0_eq n l i d c p0 p1 p2 0 acc) (Ev.bindC (take_yes (d := d) (c := c) (p0 := p0) (p1 := p1) (p2 := p2) (w := [44]) hl hc rfl) ?_)
    (intro _ ds h0; cases h0; refine ⟨rfl, Ev.yes rfl ?_⟩)
    refine Ev.yes rfl (Ev.bindC I ?_)
    (rintro _ ds ⟨y, hy, h0⟩; cases h0; obtain ⟨v0, v1, v2, v3, vt, vs, rfl⟩ := hR y hy; refine ⟨rfl, Ev.yes rfl ?_⟩)
    have K := els_ev hn es (i + 1 + m) (acc ++ [.agg [.int .i64 v0, .int .i64 v1, .int .i64 v2, .int .i64 v3, .str vt, .lst 6 vs]]) hr (by simp only [List.length_append, List.length_cons, List.length_nil] at hb ⊢; omega) d c p0 p1 p2 hd hd2
    refine Ev.yes (Nat.ble_eq_true_of_le (by simp only [List.length_cons] at hb; simp only [maxLst]; omega)) (K.mono fun r hr => ?_)
    obtain ⟨ys, h1, h2⟩ := hr
    exact ⟨_ :: ys, .cons hy h1, by rw [h2, List.append_assoc]; rfl⟩
def PhL (l : List D) (i m : Nat) (R : List D → Prop) (h : Nat) : Prop :=
  ∀ d c p0 p1 p2 : Int, 0 ≤ d → d + h ≤ 40 → Ev (fun n => parse_parser_exprs n (.lst 5 l) (.int .i64 (i : Int)) (.int .i64 d) (.int .i64 c) (.int .i64 p0) (.int .i64 p1) (.int .i64 p2) (.int .i64 0)) fun r => ∃ ys, R ys ∧ r = (true, [.lst 5 l, .int .i64 ((i + m : Nat) : Int), .int .i64 d, .int .i64 c, .int .i64 p0, .int .i64 p1, .int .i64 p2, .int .i64 0, .lst 6 ys])
theorem exprs_of {i m e : Nat} {R : D → Prop} {h : Nat} {es : List (Nat × (D → Prop))} (hR : ∀ y, R y → IsE y) (H : Ph expF l i m R h) (hE : Els l h (i + m) es e) (hel : es.length ≤ 900) (hn : ∃ t a b c, l[e]? = some (tk 3 t a b c) ∧ (t == [44]) = false) {q : Nat} (hq : e = i + q) :
    PhL l i q (fun ys => ∃ y r, ys = y :: r ∧ R y ∧ F2 (fun p y => p.2 y) es r) h := by
  intro d c p0 p1 p2 hd hd2
  have I := H d c p0 p1 p2 hd hd2
  unfold expF at I
  refine Ev.eq (fun n => parse_parser_exprs_eq n l i d c p0 p1 p2 0) (Ev.bindC I ?_)
  (rintro _ ds ⟨y, hy, h0⟩; cases h0; obtain ⟨v0, v1, v2, v3, vt, vs, rfl⟩ := hR y hy; refine ⟨rfl, Ev.yes rfl ?_⟩)
  have K := els_ev hl hn es (i + m) [.agg [.int .i64 v0, .int .i64 v1, .int .i64 v2, .int .i64 v3, .str vt, .lst 6 vs]] hE (by simp only [List.length_cons, List.length_nil]; omega) d c p0 p1 p2 hd hd2
  refine Ev.bindL K (fun ds h => by obtain ⟨_, _, h⟩ := h; cases h) fun ds h => ?_
  obtain ⟨ys, h1, h2⟩ := h
  cases h2
  subst hq
  exact Ev.yes rfl (Ev.ret ⟨_, ⟨_, ys, rfl, hy, h1⟩, rfl⟩)
/-- Within braces. -/
theorem one_cat {i m : Nat} {R : List D → Prop} {h : Nat} (ho : ∃ a b e, l[i]? = some (tk 3 [123] a b e)) (H : PhL l (i + 1) m R h) (hs : ∃ a b e, l[i + 1 + m]? = some (tk 3 [125] a b e)) : Ph oneF l i (1 + m + 1) (fun y => ∃ a b e ys, y = PE 6 a b e [] ys ∧ R ys) h := by
  intro d c p0 p1 p2 hd hd2
  obtain ⟨a, b, e, ho⟩ := ho
  obtain ⟨a2, b2, e2, hs⟩ := hs
  have I := H d c p0 p1 p2 hd hd2
  unfold oneF
  rw [show i + (1 + m + 1) = i + 1 + m + 1 from by omega]
  have J : ∀ ys, R ys → Ev (fun n => parse_parser_braces_j2 n ys 6 l ((i + 1 + m : Nat) : Int) d c p0 p1 p2 0 a b e) fun r => ∃ y, (∃ a b e ys, y = PE 6 a b e [] ys ∧ R ys) ∧ r = (true, [y, .lst 5 l, .int .i64 ((i + 1 + m + 1 : Nat) : Int), .int .i64 d, .int .i64 c, .int .i64 p0, .int .i64 p1, .int .i64 p2, .int .i64 0]) := by
    intro ys hys
    refine evDf (fun n => parse_parser_braces_j2_def n _ _ _ _ _ _ _ _ _ _ _ _ _) (Ev.bindC (want_ev (d := d) (c := c) (p0 := p0) (p1 := p1) (p2 := p2) hl [[125]] (by decide) (word_at hs rfl)) ?_)
    (intro _ ds h0; cases h0; refine ⟨rfl, Ev.yes rfl ?_⟩)
    exact Ev.ret ⟨_, ⟨a, b, e, ys, rfl, hys⟩, rfl⟩
  have B : Ev (fun n => parse_parser_braces n (.agg [.int .i64 a, .int .i64 b, .int .i64 e]) (.lst 5 l) (.int .i64 ((i + 1 : Nat) : Int)) (.int .i64 d) (.int .i64 c) (.int .i64 p0) (.int .i64 p1) (.int .i64 p2) (.int .i64 0)) fun r => ∃ y, (∃ a b e ys, y = PE 6 a b e [] ys ∧ R ys) ∧ r = (true, [y, .lst 5 l, .int .i64 ((i + 1 + m + 1 : Nat) : Int), .int .i64 d, .int .i64 c, .int .i64 p0, .int .i64 p1, .int .i64 p2, .int .i64 0]) := by
    refine Ev.eq (fun n => parse_parser_braces_eq n a b e l _ d c p0 p1 p2 0) (Ev.bindC I ?_)
    rintro _ ds ⟨ys, hys, h0⟩
    cases h0
    refine ⟨rfl, Ev.yes rfl (Ev.test (fun _ => ?_) fun _ => ?_)⟩
    · refine Ev.bindC (take_no (d := d) (c := c) (p0 := p0) (p1 := p1) (p2 := p2) (w := [123]) hs rfl) ?_
      (intro _ ds h0; cases h0; refine ⟨rfl, Ev.yes rfl ?_⟩)
      exact evDf (fun n => parse_parser_braces_j1_def n _ _ _ _ _ _ _ _ _ _ _ _ _) (Ev.no rfl (J ys hys))
    · exact evDf (fun n => parse_parser_braces_j1_def n _ _ _ _ _ _ _ _ _ _ _ _ _) (Ev.no rfl (J ys hys))
  refine Ev.eq (fun n => parse_parser_one_eq n l i d c p0 p1 p2 0) (Ev.bindC (now_ev (d := d) (c := c) (p0 := p0) (p1 := p1) (p2 := p2) ho) ?_)
  (intro _ ds h0; cases h0; refine ⟨rfl, Ev.yes rfl ?_⟩)
  refine Ev.no rfl (Ev.bindC (take_no (d := d) (c := c) (p0 := p0) (p1 := p1) (p2 := p2) (w := [40]) ho rfl) ?_)
  (intro _ ds h0; cases h0; refine ⟨rfl, Ev.yes rfl ?_⟩)
  refine Ev.no rfl (Ev.bindC (take_yes (d := d) (c := c) (p0 := p0) (p1 := p1) (p2 := p2) (w := [123]) hl ho rfl) ?_)
  (intro _ ds h0; cases h0; refine ⟨rfl, Ev.yes rfl ?_⟩)
  refine Ev.yes rfl (Ev.bindC B ?_)
  rintro _ ds ⟨y, ⟨a, b, e, ys, rfl, hys⟩, h0⟩
  cases h0
  exact ⟨rfl, Ev.yes rfl (Ev.ret ⟨_, ⟨a, b, e, ys, rfl, hys⟩, rfl⟩)⟩
/-- A repetition. -/
theorem one_rep {i m1 m2 : Nat} {R1 : D → Prop} {R2 : List D → Prop} {h : Nat} (hR1 : ∀ y, R1 y → IsE y) (hR2 : ∀ ys, R2 ys → ys.length ≤ 1000) (ho : ∃ a b e, l[i]? = some (tk 3 [123] a b e)) (H1 : Ph expF l (i + 1) m1 R1 h) (hb : ∃ a b e, l[i + 1 + m1]? = some (tk 3 [123] a b e))
    (H2 : PhL l (i + 1 + m1 + 1) m2 R2 h) (hs : ∃ a b e, l[i + 1 + m1 + 1 + m2]? = some (tk 3 [125] a b e)) (hs2 : ∃ a b e, l[i + 1 + m1 + 1 + m2 + 1]? = some (tk 3 [125] a b e)) :
    Ph oneF l i (1 + m1 + 1 + m2 + 2) (fun y => ∃ a b e u ys, y = PE 7 a b e [] (u :: ys) ∧ R1 u ∧ R2 ys) h := by
  have hE : PhL l (i + 1) m1 (fun ys => ∃ y r, ys = y :: r ∧ R1 y ∧ F2 (fun (p : Nat × (D → Prop)) y => p.2 y) [] r) h := by
    obtain ⟨a, b, e, hb⟩ := hb
    exact exprs_of hl hR1 H1 (es := []) (e := i + 1 + m1) rfl (by decide) ⟨_, a, b, e, hb, rfl⟩ rfl
  intro d c p0 p1 p2 hd hd2
  obtain ⟨a, b, e, ho⟩ := ho
  obtain ⟨a1, b1, e1, hb⟩ := hb
  obtain ⟨a2, b2, e2, hs⟩ := hs
  obtain ⟨a3, b3, e3, hs2⟩ := hs2
  have I1 := hE d c p0 p1 p2 hd hd2
  have I2 := H2 d c p0 p1 p2 hd hd2
  unfold oneF
  rw [show i + (1 + m1 + 1 + m2 + 2) = i + 1 + m1 + 1 + m2 + 1 + 1 from by omega]
  have B : Ev (fun n => parse_parser_braces n (.agg [.int .i64 a, .int .i64 b, .int .i64 e]) (.lst 5 l) (.int .i64 ((i + 1 : Nat) : Int)) (.int .i64 d) (.int .i64 c) (.int .i64 p0) (.int .i64 p1) (.int .i64 p2) (.int .i64 0)) fun r => ∃ y, (∃ a b e u ys, y = PE 7 a b e [] (u :: ys) ∧ R1 u ∧ R2 ys) ∧ r = (true, [y, .lst 5 l, .int .i64 ((i + 1 + m1 + 1 + m2 + 1 + 1 : Nat) : Int), .int .i64 d, .int .i64 c, .int .i64 p0, .int .i64 p1, .int .i64 p2, .int .i64 0]) := by
    refine Ev.eq (fun n => parse_parser_braces_eq n a b e l _ d c p0 p1 p2 0) (Ev.bindC I1 ?_)
    rintro _ ds ⟨_, ⟨u, r, rfl, hu, hr⟩, h0⟩
    cases h0
    cases hr
    refine ⟨rfl, Ev.yes rfl (Ev.yes rfl (Ev.bindC (take_yes (d := d) (c := c) (p0 := p0) (p1 := p1) (p2 := p2) (w := [123]) hl hb rfl) ?_))⟩
    (intro _ ds h0; cases h0; refine ⟨rfl, Ev.yes rfl ?_⟩)
    refine evDf (fun n => parse_parser_braces_j1_def n _ _ _ _ _ _ _ _ _ _ _ _ _) (Ev.yes rfl (Ev.bindC I2 ?_))
    rintro _ ds ⟨ys, hys, h0⟩
    cases h0
    have hb := hR2 ys hys
    refine ⟨rfl, Ev.yes rfl (Ev.yes (Nat.ble_eq_true_of_le (by show ([u] : List D).length + ys.length ≤ maxLst; simp only [List.length_cons, List.length_nil, maxLst]; omega)) (Ev.bindC (want_ev (d := d) (c := c) (p0 := p0) (p1 := p1) (p2 := p2) hl [[125]] (by decide) (word_at hs rfl)) ?_))⟩
    (intro _ ds h0; cases h0; refine ⟨rfl, Ev.yes rfl ?_⟩)
    refine evDf (fun n => parse_parser_braces_j2_def n _ _ _ _ _ _ _ _ _ _ _ _ _) (Ev.bindC (want_ev (d := d) (c := c) (p0 := p0) (p1 := p1) (p2 := p2) hl [[125]] (by decide) (word_at hs2 rfl)) ?_)
    (intro _ ds h0; cases h0; refine ⟨rfl, Ev.yes rfl ?_⟩)
    exact Ev.ret ⟨_, ⟨a, b, e, u, ys, rfl, hu, hys⟩, rfl⟩
  refine Ev.eq (fun n => parse_parser_one_eq n l i d c p0 p1 p2 0) (Ev.bindC (now_ev (d := d) (c := c) (p0 := p0) (p1 := p1) (p2 := p2) ho) ?_)
  (intro _ ds h0; cases h0; refine ⟨rfl, Ev.yes rfl ?_⟩)
  refine Ev.no rfl (Ev.bindC (take_no (d := d) (c := c) (p0 := p0) (p1 := p1) (p2 := p2) (w := [40]) ho rfl) ?_)
  (intro _ ds h0; cases h0; refine ⟨rfl, Ev.yes rfl ?_⟩)
  refine Ev.no rfl (Ev.bindC (take_yes (d := d) (c := c) (p0 := p0) (p1 := p1) (p2 := p2) (w := [123]) hl ho rfl) ?_)
  (intro _ ds h0; cases h0; refine ⟨rfl, Ev.yes rfl ?_⟩)
  refine Ev.yes rfl (Ev.bindC B ?_)
  rintro _ ds ⟨y, ⟨a, b, e, u, ys, rfl, hu, hys⟩, h0⟩
  cases h0
  exact ⟨rfl, Ev.yes rfl (Ev.ret ⟨_, ⟨a, b, e, u, ys, rfl, hu, hys⟩, rfl⟩)⟩
/-- A name with brackets: an index. -/
theorem left_index {i m : Nat} {R : D → Prop} {h : Nat} (hR : ∀ y, R y → IsE y) {t : List UInt8} (hg : goodN t = true) (hx : ∃ a b e, l[i]? = some (tk 1 t a b e)) (ho : ∃ a b e, l[i + 1]? = some (tk 3 [91] a b e)) (H : Ph expF l (i + 2) m R h) (hs : ∃ a b e, l[i + 2 + m]? = some (tk 3 [93] a b e)) :
    Ph (fun n => parse_parser_left n) l i (2 + m + 1) (fun y => ∃ a b e u, y = PE 8 a b e t [u] ∧ R u) h := by
  intro d c p0 p1 p2 hd hd2
  obtain ⟨a, b, e, hx⟩ := hx
  obtain ⟨a2, b2, e2, ho⟩ := ho
  obtain ⟨a3, b3, e3, hs⟩ := hs
  have I := H d c p0 p1 p2 hd hd2
  unfold expF at I
  rw [show i + (2 + m + 1) = i + 2 + m + 1 from by omega]
  refine Ev.eq (fun n => parse_parser_left_eq n l i d c p0 p1 p2 0) (Ev.bindC (now_ev (d := d) (c := c) (p0 := p0) (p1 := p1) (p2 := p2) hx) ?_)
  (intro _ ds h0; cases h0; refine ⟨rfl, Ev.yes rfl ?_⟩)
  refine Ev.bindC (name_ev (d := d) (c := c) (p0 := p0) (p1 := p1) (p2 := p2) hl hx hg) ?_
  (intro _ ds h0; cases h0; refine ⟨rfl, Ev.yes rfl ?_⟩)
  refine Ev.bindC (take_yes (d := d) (c := c) (p0 := p0) (p1 := p1) (p2 := p2) (w := [91]) hl ho rfl) ?_
  (intro _ ds h0; cases h0; refine ⟨rfl, Ev.yes rfl ?_⟩)
  refine Ev.no rfl (Ev.bindC I ?_)
  (rintro _ ds ⟨y, hy, h0⟩; cases h0; obtain ⟨v0, v1, v2, v3, vt, vs, rfl⟩ := hR y hy; refine ⟨rfl, Ev.yes rfl ?_⟩)
  refine Ev.bindC (take_no (d := d) (c := c) (p0 := p0) (p1 := p1) (p2 := p2) (w := [58]) hs rfl) ?_
  (intro _ ds h0; cases h0; refine ⟨rfl, Ev.yes rfl ?_⟩)
  refine Ev.no rfl (evDf (fun n => parse_parser_left_j1_def n _ _ _ _ _ _ _ _ _ _ _ _) (Ev.bindC (want_ev (d := d) (c := c) (p0 := p0) (p1 := p1) (p2 := p2) hl [[93]] (by decide) (word_at hs rfl)) ?_))
  (intro _ ds h0; cases h0; refine ⟨rfl, Ev.yes rfl ?_⟩)
  exact Ev.ret ⟨_, ⟨a, b, e, _, rfl, hy⟩, rfl⟩
/-- A name with brackets: a range. -/
theorem left_range {i m1 m2 : Nat} {R1 R2 : D → Prop} {h : Nat} (hR1 : ∀ y, R1 y → IsE y) (hR2 : ∀ y, R2 y → IsE y) {t : List UInt8} (hg : goodN t = true) (hx : ∃ a b e, l[i]? = some (tk 1 t a b e)) (ho : ∃ a b e, l[i + 1]? = some (tk 3 [91] a b e)) (H1 : Ph expF l (i + 2) m1 R1 h)
    (hc : ∃ a b e, l[i + 2 + m1]? = some (tk 3 [58] a b e)) (H2 : Ph expF l (i + 2 + m1 + 1) m2 R2 h) (hs : ∃ a b e, l[i + 2 + m1 + 1 + m2]? = some (tk 3 [93] a b e)) :
    Ph (fun n => parse_parser_left n) l i (2 + m1 + 1 + m2 + 1) (fun y => ∃ a b e u v, y = PE 9 a b e t [u, v] ∧ R1 u ∧ R2 v) h := by
  intro d c p0 p1 p2 hd hd2
  obtain ⟨a, b, e, hx⟩ := hx
  obtain ⟨a2, b2, e2, ho⟩ := ho
  obtain ⟨a3, b3, e3, hc⟩ := hc
  obtain ⟨a4, b4, e4, hs⟩ := hs
  have I1 := H1 d c p0 p1 p2 hd hd2
  have I2 := H2 d c p0 p1 p2 hd hd2
  unfold expF at I1 I2
  rw [show i + (2 + m1 + 1 + m2 + 1) = i + 2 + m1 + 1 + m2 + 1 from by omega]
  refine Ev.eq (fun n => parse_parser_left_eq n l i d c p0 p1 p2 0) (Ev.bindC (now_ev (d := d) (c := c) (p0 := p0) (p1 := p1) (p2 := p2) hx) ?_)
  (intro _ ds h0; cases h0; refine ⟨rfl, Ev.yes rfl ?_⟩)
  refine Ev.bindC (name_ev (d := d) (c := c) (p0 := p0) (p1 := p1) (p2 := p2) hl hx hg) ?_
  (intro _ ds h0; cases h0; refine ⟨rfl, Ev.yes rfl ?_⟩)
  refine Ev.bindC (take_yes (d := d) (c := c) (p0 := p0) (p1 := p1) (p2 := p2) (w := [91]) hl ho rfl) ?_
  (intro _ ds h0; cases h0; refine ⟨rfl, Ev.yes rfl ?_⟩)
  refine Ev.no rfl (Ev.bindC I1 ?_)
  (rintro _ ds ⟨y1, hy1, h0⟩; cases h0; obtain ⟨v0, v1, v2, v3, vt, vs, rfl⟩ := hR1 y1 hy1; refine ⟨rfl, Ev.yes rfl ?_⟩)
  refine Ev.bindC (take_yes (d := d) (c := c) (p0 := p0) (p1 := p1) (p2 := p2) (w := [58]) hl hc rfl) ?_
  (intro _ ds h0; cases h0; refine ⟨rfl, Ev.yes rfl ?_⟩)
  refine Ev.yes rfl (Ev.bindC I2 ?_)
  (rintro _ ds ⟨y2, hy2, h0⟩; cases h0; obtain ⟨v0, v1, v2, v3, vt, vs, rfl⟩ := hR2 y2 hy2; refine ⟨rfl, Ev.yes rfl ?_⟩)
  refine evDf (fun n => parse_parser_left_j1_def n _ _ _ _ _ _ _ _ _ _ _ _) (Ev.bindC (want_ev (d := d) (c := c) (p0 := p0) (p1 := p1) (p2 := p2) hl [[93]] (by decide) (word_at hs rfl)) ?_)
  (intro _ ds h0; cases h0; refine ⟨rfl, Ev.yes rfl ?_⟩)
  exact Ev.ret ⟨_, ⟨a, b, e, _, _, rfl, hy1, hy2⟩, rfl⟩
/-- What is no plain name, by itself. -/
theorem one_left {i m : Nat} {R : D → Prop} {h : Nat} {t : List UInt8} (hg : okN t = true) (hx : ∃ a b e, l[i]? = some (tk 1 t a b e)) (hR : ∀ y, R y → ∃ k a b e t ar, y = PE k a b e t ar ∧ k ≠ 2) (H : Ph (fun n => parse_parser_left n) l i m R h) : Ph oneF l i m R h := by
  have _ := hl
  intro d c p0 p1 p2 hd hd2
  obtain ⟨a, b, e, hx⟩ := hx
  have I := H d c p0 p1 p2 hd hd2
  simp only [okN, Bool.and_eq_true, Bool.not_eq_true'] at hg
  obtain ⟨⟨⟨⟨g1, g2⟩, g3⟩, g4⟩, g5⟩ := hg
  unfold oneF
  refine Ev.eq (fun n => parse_parser_one_eq n l i d c p0 p1 p2 0) (Ev.bindC (now_ev (d := d) (c := c) (p0 := p0) (p1 := p1) (p2 := p2) hx) ?_)
  (intro _ ds h0; cases h0; refine ⟨rfl, Ev.yes rfl ?_⟩)
  refine Ev.no rfl (Ev.bindC (take_no (d := d) (c := c) (p0 := p0) (p1 := p1) (p2 := p2) hx (by rw [g2]; rfl)) ?_)
  (intro _ ds h0; cases h0; refine ⟨rfl, Ev.yes rfl ?_⟩)
  refine Ev.no rfl (Ev.bindC (take_no (d := d) (c := c) (p0 := p0) (p1 := p1) (p2 := p2) hx (by rw [g3]; rfl)) ?_)
  (intro _ ds h0; cases h0; refine ⟨rfl, Ev.yes rfl ?_⟩)
  refine Ev.no rfl (Ev.bindC (is_ev (d := d) (c := c) (p0 := p0) (p1 := p1) (p2 := p2) _ hx) ?_)
  (intro _ ds h0; cases h0; refine ⟨rfl, Ev.yes rfl ?_⟩)
  refine Ev.no (by show (_ && _) = false; rw [g4]; rfl) (Ev.bindC (is_ev (d := d) (c := c) (p0 := p0) (p1 := p1) (p2 := p2) _ hx) ?_)
  (intro _ ds h0; cases h0; refine ⟨rfl, Ev.yes rfl ?_⟩)
  refine Ev.no (by show (_ && _) = false; rw [g5]; rfl) (Ev.bindC I ?_)
  rintro _ ds ⟨y, hy, h0⟩
  cases h0
  obtain ⟨k, a, b, e, t, ar, rfl, hk⟩ := hR y hy
  refine ⟨rfl, Ev.yes rfl (Ev.no (beq_eq_false_iff_ne.2 hk) ?_)⟩
  exact evDf (fun n => parse_parser_one_j1_def n _ _ _ _ _ _ _ _ _ _ _) (Ev.no rfl (Ev.ret ⟨_, hy, rfl⟩))
theorem call_of {i m : Nat} {R : List D → Prop} {h : Nat} (k a b e : Int) (t : List UInt8) (ho : ∃ a b e, l[i]? = some (tk 3 [40] a b e)) (H : PhL l (i + 1) m R h) (hs : ∃ a b e, l[i + 1 + m]? = some (tk 3 [41] a b e)) :
    Ph (fun n => parse_parser_call n (tk k t a b e)) l i (1 + m + 1) (fun y => ∃ ys, y = PE 10 a b e t ys ∧ R ys) h := by
  intro d c p0 p1 p2 hd hd2
  obtain ⟨a2, b2, e2, ho⟩ := ho
  obtain ⟨a3, b3, e3, hs⟩ := hs
  have I := H d c p0 p1 p2 hd hd2
  rw [show i + (1 + m + 1) = i + 1 + m + 1 from by omega]
  refine Ev.eq (fun n => parse_parser_call_eq n k t a b e l i d c p0 p1 p2 0) (Ev.bindC (want_ev (d := d) (c := c) (p0 := p0) (p1 := p1) (p2 := p2) hl [[40]] (by decide) (word_at ho rfl)) ?_)
  (intro _ ds h0; cases h0; refine ⟨rfl, Ev.yes rfl ?_⟩)
  refine Ev.bindC I ?_
  rintro _ ds ⟨ys, hys, h0⟩
  cases h0
  refine ⟨rfl, Ev.yes rfl (Ev.bindC (want_ev (d := d) (c := c) (p0 := p0) (p1 := p1) (p2 := p2) hl [[41]] (by decide) (word_at hs rfl)) ?_)⟩
  (intro _ ds h0; cases h0; refine ⟨rfl, Ev.yes rfl ?_⟩)
  exact Ev.ret ⟨_, ⟨ys, rfl, hys⟩, rfl⟩
/-- A call by a name. -/
theorem one_call {i m : Nat} {R : List D → Prop} {h : Nat} {t : List UInt8} (hg : okN t = true) (hx : ∃ a b e, l[i]? = some (tk 1 t a b e)) (ho : ∃ a b e, l[i + 1]? = some (tk 3 [40] a b e)) (H : PhL l (i + 2) m R h) (hs : ∃ a b e, l[i + 2 + m]? = some (tk 3 [41] a b e)) :
    Ph oneF l i (2 + m + 1) (fun y => ∃ a b e ys, y = PE 10 a b e t ys ∧ R ys) h := by
  intro d c p0 p1 p2 hd hd2
  obtain ⟨a, b, e, hx⟩ := hx
  have C := call_of hl 1 a b e t (i := i + 1) ho H hs d c p0 p1 p2 hd hd2
  obtain ⟨a2, b2, e2, ho⟩ := ho
  have hg0 := hg
  simp only [okN, Bool.and_eq_true, Bool.not_eq_true'] at hg
  obtain ⟨⟨⟨⟨g1, g2⟩, g3⟩, g4⟩, g5⟩ := hg
  unfold oneF
  rw [show i + (2 + m + 1) = i + 1 + (1 + m + 1) from by omega]
  refine Ev.eq (fun n => parse_parser_one_eq n l i d c p0 p1 p2 0) (Ev.bindC (now_ev (d := d) (c := c) (p0 := p0) (p1 := p1) (p2 := p2) hx) ?_)
  (intro _ ds h0; cases h0; refine ⟨rfl, Ev.yes rfl ?_⟩)
  refine Ev.no rfl (Ev.bindC (take_no (d := d) (c := c) (p0 := p0) (p1 := p1) (p2 := p2) hx (by rw [g2]; rfl)) ?_)
  (intro _ ds h0; cases h0; refine ⟨rfl, Ev.yes rfl ?_⟩)
  refine Ev.no rfl (Ev.bindC (take_no (d := d) (c := c) (p0 := p0) (p1 := p1) (p2 := p2) hx (by rw [g3]; rfl)) ?_)
  (intro _ ds h0; cases h0; refine ⟨rfl, Ev.yes rfl ?_⟩)
  refine Ev.no rfl (Ev.bindC (is_ev (d := d) (c := c) (p0 := p0) (p1 := p1) (p2 := p2) _ hx) ?_)
  (intro _ ds h0; cases h0; refine ⟨rfl, Ev.yes rfl ?_⟩)
  refine Ev.no (by show (_ && _) = false; rw [g4]; rfl) (Ev.bindC (is_ev (d := d) (c := c) (p0 := p0) (p1 := p1) (p2 := p2) _ hx) ?_)
  (intro _ ds h0; cases h0; refine ⟨rfl, Ev.yes rfl ?_⟩)
  refine Ev.no (by show (_ && _) = false; rw [g5]; rfl) (Ev.bindC (left_ev (d := d) (c := c) (p0 := p0) (p1 := p1) (p2 := p2) hl hx g1 ho rfl) ?_)
  (intro _ ds h0; cases h0; refine ⟨rfl, Ev.yes rfl ?_⟩)
  refine Ev.yes rfl (Ev.bindC (is_ev (d := d) (c := c) (p0 := p0) (p1 := p1) (p2 := p2) [40] ho) ?_)
  (intro _ ds h0; cases h0; refine ⟨rfl, Ev.yes rfl ?_⟩)
  refine evDf (fun n => parse_parser_one_j1_def n _ _ _ _ _ _ _ _ _ _ _) (Ev.yes rfl (Ev.bindC C ?_))
  rintro _ ds ⟨y, ⟨ys, rfl, hys⟩, h0⟩
  cases h0
  exact ⟨rfl, Ev.yes rfl (Ev.ret ⟨_, ⟨a, b, e, ys, rfl, hys⟩, rfl⟩)⟩
/-- $signed and $unsigned. -/
theorem one_sys {i m : Nat} {R : List D → Prop} {h : Nat} {t : List UInt8} (ht : t = [36, 115, 105, 103, 110, 101, 100] ∨ t = [36, 117, 110, 115, 105, 103, 110, 101, 100]) (hx : ∃ a b e, l[i]? = some (tk 1 t a b e)) (ho : ∃ a b e, l[i + 1]? = some (tk 3 [40] a b e)) (H : PhL l (i + 2) m R h) (hs : ∃ a b e, l[i + 2 + m]? = some (tk 3 [41] a b e)) :
    Ph oneF l i (2 + m + 1) (fun y => ∃ a b e ys, y = PE 10 a b e t ys ∧ R ys) h := by
  intro d c p0 p1 p2 hd hd2
  obtain ⟨a, b, e, hx⟩ := hx
  have hil := lt_of hx
  have C := call_of hl 1 a b e t (i := i + 1) ho H hs d c p0 p1 p2 hd hd2
  unfold oneF
  rw [show i + (2 + m + 1) = i + 1 + (1 + m + 1) from by omega]
  rw [← wrap_succ (j := i) (by omega)] at C
  refine Ev.eq (fun n => parse_parser_one_eq n l i d c p0 p1 p2 0) (Ev.bindC (now_ev (d := d) (c := c) (p0 := p0) (p1 := p1) (p2 := p2) hx) ?_)
  rcases ht with rfl | rfl
  · (intro _ ds h0; cases h0; refine ⟨rfl, Ev.yes rfl ?_⟩)
    refine Ev.no rfl (Ev.bindC (take_no (d := d) (c := c) (p0 := p0) (p1 := p1) (p2 := p2) hx rfl) ?_)
    (intro _ ds h0; cases h0; refine ⟨rfl, Ev.yes rfl ?_⟩)
    refine Ev.no rfl (Ev.bindC (take_no (d := d) (c := c) (p0 := p0) (p1 := p1) (p2 := p2) hx rfl) ?_)
    (intro _ ds h0; cases h0; refine ⟨rfl, Ev.yes rfl ?_⟩)
    refine Ev.no rfl (Ev.bindC (is_ev (d := d) (c := c) (p0 := p0) (p1 := p1) (p2 := p2) _ hx) ?_)
    (intro _ ds h0; cases h0; refine ⟨rfl, Ev.yes rfl ?_⟩)
    refine Ev.yes rfl (Ev.bindC C ?_)
    rintro _ ds ⟨y, ⟨ys, rfl, hys⟩, h0⟩
    cases h0
    exact ⟨rfl, Ev.yes rfl (Ev.ret ⟨_, ⟨a, b, e, ys, rfl, hys⟩, rfl⟩)⟩
  · (intro _ ds h0; cases h0; refine ⟨rfl, Ev.yes rfl ?_⟩)
    refine Ev.no rfl (Ev.bindC (take_no (d := d) (c := c) (p0 := p0) (p1 := p1) (p2 := p2) hx rfl) ?_)
    (intro _ ds h0; cases h0; refine ⟨rfl, Ev.yes rfl ?_⟩)
    refine Ev.no rfl (Ev.bindC (take_no (d := d) (c := c) (p0 := p0) (p1 := p1) (p2 := p2) hx rfl) ?_)
    (intro _ ds h0; cases h0; refine ⟨rfl, Ev.yes rfl ?_⟩)
    refine Ev.no rfl (Ev.bindC (is_ev (d := d) (c := c) (p0 := p0) (p1 := p1) (p2 := p2) _ hx) ?_)
    (intro _ ds h0; cases h0; refine ⟨rfl, Ev.yes rfl ?_⟩)
    refine Ev.no rfl (Ev.bindC (is_ev (d := d) (c := c) (p0 := p0) (p1 := p1) (p2 := p2) _ hx) ?_)
    (intro _ ds h0; cases h0; refine ⟨rfl, Ev.yes rfl ?_⟩)
    refine Ev.yes rfl (Ev.bindC C ?_)
    rintro _ ds ⟨y, ⟨ys, rfl, hys⟩, h0⟩
    cases h0
    exact ⟨rfl, Ev.yes rfl (Ev.ret ⟨_, ⟨a, b, e, ys, rfl, hys⟩, rfl⟩)⟩
end
end Go.Proofs.YtalibicpmfbieaaGreatDoor
