/- The parser on the words of an expression: operators of one, parentheses, lists, names, calls. -/
import Derived.Test.YtalibicpmfbieaaGreatDoorPxB
namespace Go.Proofs.YtalibicpmfbieaaGreatDoor
open Go.AE
set_option linter.unusedVariables false
set_option linter.unusedSimpArgs false
theorem unT2_dec : decide (unT2.length ≤ 4294967280) = true := by kernel_rfl
theorem unT2_len : unT2.length ≤ 4294967280 := of_decide_eq_true unT2_dec
theorem un_no : ([[40], [123]].all fun t => !decide (0 ≤ idxStr (([32] ++ t) ++ [32]) unT2 0)) = true := by kernel_rfl
noncomputable def unF : PF := fun n => parse_parser_unary n
noncomputable def oneF : PF := fun n => parse_parser_one n
noncomputable def expF : PF := fun n => parse_parser_expr n
section
variable {l : List D} (hl : l.length ≤ 1000000)
theorem unary_of_one {i m : Nat} {R : D → Prop} {h : Nat} (hR : ∀ y, R y → IsE y) (hx : ∃ k t a b e, l[i]? = some (tk k t a b e) ∧ (k ≠ 3 ∨ t = [40] ∨ t = [123])) (H : Ph oneF l i m R h) : Ph unF l i m R h := by
  intro d c p0 p1 p2 hd hd2
  obtain ⟨k, t, a, b, e, ht, hk⟩ := hx
  have J : Ev (fun n => parse_parser_unary_j1 n true [tk k t a b e, .lst 5 l, .int .i64 (i : Int), .int .i64 d, .int .i64 c, .int .i64 p0, .int .i64 p1, .int .i64 p2, .int .i64 0]) fun r => ∃ y, R y ∧ r = (true, [y, .lst 5 l, .int .i64 ((i + m : Nat) : Int), .int .i64 d, .int .i64 c, .int .i64 p0, .int .i64 p1, .int .i64 p2, .int .i64 0]) := by
    refine evDf (fun n => parse_parser_unary_j1_def n _ _) (Ev.yes rfl (Ev.bindC (H d c p0 p1 p2 hd hd2) ?_))
    rintro _ ds ⟨y, hy, h0⟩
    cases h0
    obtain ⟨v0, v1, v2, v3, vt, vs, rfl⟩ := hR y hy
    exact ⟨rfl, Ev.yes rfl (Ev.ret ⟨_, hy, rfl⟩)⟩
  unfold unF
  refine Ev.eq (fun n => parse_parser_unary_eq n l i d c p0 p1 p2 0) (Ev.bindC (now_ev (d := d) (c := c) (p0 := p0) (p1 := p1) (p2 := p2) ht) ?_)
  (intro _ ds h0; cases h0; refine ⟨rfl, Ev.yes rfl ?_⟩)
  refine Ev.test (fun _ => J) fun hk3 => ?_
  have hk3 : (k != 3) = false := hk3
  have hk3 : k = 3 := by simpa using hk3
  have ht2 : t = [40] ∨ t = [123] := by rcases hk with h | h; exact absurd hk3 h; exact h
  have hno : decide (0 ≤ idxStr (([32] ++ t) ++ [32]) unT2 0) = false := by
    have := List.all_eq_true.1 un_no t (by rcases ht2 with rfl | rfl <;> simp)
    simpa using this
  have hlen : t.length ≤ 3 := by rcases ht2 with rfl | rfl <;> simp
  refine Ev.yes (decide_eq_true (by show 1 + t.length ≤ maxStr; simp only [maxStr]; omega)) (Ev.yes (decide_eq_true (by show ([32] ++ t).length + 1 ≤ maxStr; simp only [maxStr, List.length_append, List.length_singleton]; omega)) (Ev.bindC (contains_ev (s := unT2) unT2_len (([32] ++ t) ++ [32])) ?_))
  (intro _ ds h0; cases h0; refine ⟨rfl, Ev.yes rfl ?_⟩)
  show Ev (fun n => parse_parser_unary_j1 n (!decide (0 ≤ idxStr (([32] ++ t) ++ [32]) unT2 0)) _) _
  rw [hno]
  exact J
include hl
omit hl in
theorem cl_ne {t w : List UInt8} (h : cl t = true) (hw : clT.contains w = false) (k : Int) : (t == w && k != 2) = false := by
  cases hb : t == w with
  | false => rfl
  | true => rw [eq_of_beq hb] at h; unfold cl at h; rw [hw] at h; cases h
/-- An expression without a question. -/
theorem expr_of {i m : Nat} {R : D → Prop} {h : Nat} (hR : ∀ y, R y → IsE y) (hx : ∃ k t a b e, l[i]? = some (tk k t a b e)) (hn : Nx l (i + m) cl) (H : Ph (lvF 0) l i m R h) : Ph expF l i m R (h + 1) := by
  have _ := hl
  intro d c p0 p1 p2 hd hd2
  obtain ⟨k, t, a, b, e, hx⟩ := hx
  obtain ⟨t2, a2, b2, e2, h2, hc⟩ := hn
  have I := H (d + 1) c p0 p1 p2 (by omega) (by omega)
  unfold expF
  unfold lvF at I
  refine Ev.eq (fun n => parse_parser_expr_eq n l i d c p0 p1 p2 0) (Ev.bindC (now_ev (d := d) (c := c) (p0 := p0) (p1 := p1) (p2 := p2) hx) ?_)
  (intro _ ds h0; cases h0; refine ⟨rfl, Ev.yes rfl ?_⟩)
  refine Ev.bindC (in_ev (l := l) (d := d) (c := c) (p0 := p0) (p1 := p1) (p2 := p2) (i : Int) (by omega) hd) ?_
  (intro _ ds h0; cases h0; refine ⟨rfl, Ev.yes rfl ?_⟩)
  refine Ev.no rfl (Ev.bindC I ?_)
  (rintro _ ds ⟨y, hy, h0⟩; cases h0; obtain ⟨v0, v1, v2, v3, vt, vs, rfl⟩ := hR y hy; refine ⟨rfl, Ev.yes rfl ?_⟩)
  refine Ev.bindC (take_no (d := (d + 1)) (c := c) (p0 := p0) (p1 := p1) (p2 := p2) (w := [63]) h2 (cl_ne hc rfl 3)) ?_
  (intro _ ds h0; cases h0; refine ⟨rfl, Ev.yes rfl ?_⟩)
  refine Ev.yes rfl (Ev.bindC (out_ev (l := l) (d := d) (c := c) (p0 := p0) (p1 := p1) (p2 := p2) _ (by omega) hd) ?_)
  (intro _ ds h0; cases h0; refine ⟨rfl, Ev.yes rfl ?_⟩)
  exact Ev.ret ⟨_, hy, rfl⟩
/-- Within parentheses. -/
theorem one_paren {i m : Nat} {R : D → Prop} {h : Nat} (hR : ∀ y, R y → IsE y) (ho : ∃ a b e, l[i]? = some (tk 3 [40] a b e)) (H : Ph expF l (i + 1) m R h) (hs : ∃ a b e, l[i + 1 + m]? = some (tk 3 [41] a b e)) : Ph oneF l i (1 + m + 1) R h := by
  intro d c p0 p1 p2 hd hd2
  obtain ⟨a, b, e, ho⟩ := ho
  obtain ⟨a2, b2, e2, hs⟩ := hs
  have I := H d c p0 p1 p2 hd hd2
  unfold expF at I
  unfold oneF
  rw [show i + (1 + m + 1) = i + 1 + m + 1 from by omega]
  refine Ev.eq (fun n => parse_parser_one_eq n l i d c p0 p1 p2 0) (Ev.bindC (now_ev (d := d) (c := c) (p0 := p0) (p1 := p1) (p2 := p2) ho) ?_)
  (intro _ ds h0; cases h0; refine ⟨rfl, Ev.yes rfl ?_⟩)
  refine Ev.no rfl (Ev.bindC (take_yes (d := d) (c := c) (p0 := p0) (p1 := p1) (p2 := p2) (w := [40]) hl ho rfl) ?_)
  (intro _ ds h0; cases h0; refine ⟨rfl, Ev.yes rfl ?_⟩)
  refine Ev.yes rfl (Ev.bindC I ?_)
  (rintro _ ds ⟨y, hy, h0⟩; cases h0; obtain ⟨v0, v1, v2, v3, vt, vs, rfl⟩ := hR y hy; refine ⟨rfl, Ev.yes rfl ?_⟩)
  refine Ev.bindC (want_ev (d := d) (c := c) (p0 := p0) (p1 := p1) (p2 := p2) hl [[41]] (by decide) (word_at hs rfl)) ?_
  (intro _ ds h0; cases h0; refine ⟨rfl, Ev.yes rfl ?_⟩)
  exact Ev.ret ⟨_, hy, rfl⟩
/-- A name. -/
theorem one_name {i : Nat} {t : List UInt8} (hg : okN t = true) (hx : ∃ a b e, l[i]? = some (tk 1 t a b e)) {p : List UInt8 → Bool} (hn : Nx l (i + 1) p) (hp : ∀ t, p t = true → (t == [91]) = false ∧ (t == [40]) = false) : Ph oneF l i 1 (fun y => ∃ a b e, y = PE 2 a b e t []) 0 := by
  intro d c p0 p1 p2 hd hd2
  obtain ⟨a, b, e, hx⟩ := hx
  obtain ⟨t2, a2, b2, e2, h2, hq⟩ := hn
  refine (one_ev (d := d) (c := c) (p0 := p0) (p1 := p1) (p2 := p2) hl hx hg h2 (hp t2 hq).1 (hp t2 hq).2).mono fun r hr => ?_
  exact ⟨_, ⟨a, b, e, rfl⟩, hr⟩
end
end Go.Proofs.YtalibicpmfbieaaGreatDoor
