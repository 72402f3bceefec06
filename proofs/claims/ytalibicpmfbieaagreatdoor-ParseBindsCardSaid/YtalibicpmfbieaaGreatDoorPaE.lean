/- A module with one assignment of a chain. -/
import Derived.Test.YtalibicpmfbieaaGreatDoorPaD
namespace Go.Proofs.YtalibicpmfbieaaGreatDoor
open Go.AE
set_option linter.unusedVariables false
set_option linter.unusedSimpArgs false
def assT : List UInt8 := [97, 115, 115, 105, 103, 110]
def endT : List UInt8 := [101, 110, 100, 109, 111, 100, 117, 108, 101]
def modT : List UInt8 := [109, 111, 100, 117, 108, 101]
section
variable {l : List D} {d c p0 p1 p2 : Int}
theorem in_ev (i : Int) (hd : d < 40) (hd0 : 0 ≤ d) : Ev (fun n => parse_parser_in n (.lst 5 l) (.int .i64 i) (.int .i64 d) (.int .i64 c) (.int .i64 p0) (.int .i64 p1) (.int .i64 p2) (.int .i64 0)) fun r => r = (true, [.bool true, .lst 5 l, .int .i64 i, .int .i64 (d + 1), .int .i64 c, .int .i64 p0, .int .i64 p1, .int .i64 p2, .int .i64 0]) := by
  have w1 : IntKind.i64.wrap (d + 1) = d + 1 := wrap_id (by omega) (by omega)
  exact Ev.eq (fun n => parse_parser_in_eq n l i d c p0 p1 p2 0) (Ev.no (decide_eq_false (by rw [w1]; omega)) (Ev.ret (by rw [w1]; rfl)))
theorem out_ev (i : Int) (hd : d < 40) (hd0 : 0 ≤ d) : Ev (fun n => parse_parser_out n (.lst 5 l) (.int .i64 i) (.int .i64 (d + 1)) (.int .i64 c) (.int .i64 p0) (.int .i64 p1) (.int .i64 p2) (.int .i64 0)) fun r => r = (true, [.lst 5 l, .int .i64 i, .int .i64 d, .int .i64 c, .int .i64 p0, .int .i64 p1, .int .i64 p2, .int .i64 0]) := by
  have w2 : IntKind.i64.wrap (d + 1 - 1) = d := by rw [wrap_id (by omega) (by omega)]; omega
  exact Ev.eq (fun n => parse_parser_out_eq n l i (d + 1) c p0 p1 p2 0) (Ev.ret (by rw [w2]))
theorem counted_ev (i : Int) (hc : c < 4000) (hc0 : 0 ≤ c) : Ev (fun n => parse_parser_counted n (.lst 5 l) (.int .i64 i) (.int .i64 d) (.int .i64 c) (.int .i64 p0) (.int .i64 p1) (.int .i64 p2) (.int .i64 0)) fun r => r = (true, [.lst 5 l, .int .i64 i, .int .i64 d, .int .i64 (c + 1), .int .i64 p0, .int .i64 p1, .int .i64 p2, .int .i64 0]) := by
  have w1 : IntKind.i64.wrap (c + 1) = c + 1 := wrap_id (by omega) (by omega)
  exact Ev.eq (fun n => parse_parser_counted_eq n l i d c p0 p1 p2 0) (Ev.no (decide_eq_false (by rw [w1]; omega)) (Ev.ret (by rw [w1])))
theorem word_at {i : Nat} {k a b e : Int} {w : List UInt8} (h : l[i]? = some (tk k w a b e)) (hk : (k != 2) = true) : WordsAt l i [w] := by
  intro j hj
  have : j = 0 := by simpa using hj
  subst this
  exact ⟨k, a, b, e, h, hk⟩
def AI (a b e : Int) (u v : D) : D := .agg [.int .i64 4, .int .i64 a, .int .i64 b, .int .i64 e, .str [], .str [], .bool false, .lst 6 [u, v], .lst 6 [], .lst 8 [], .lst 14 [], .lst 14 [], .lst 5 [], .lst 5 []]
theorem item_ev (hl : l.length ≤ 1000000) (hd : d < 38) (hd0 : 0 ≤ d) (hc : c < 4000) (hc0 : 0 ≤ c) {i : Nat} {y x : List UInt8} {ps : Pairs} {a1 b1 e1 a2 b2 e2 a3 b3 e3 a4 b4 e4 : Int}
    (h1 : l[i]? = some (tk 1 assT a1 b1 e1)) (h2 : l[i + 1]? = some (tk 1 y a2 b2 e2)) (hy : okN y = true) (h3 : l[i + 2]? = some (tk 3 [61] a3 b3 e3)) (h4 : l[i + 3]? = some (tk 1 x a4 b4 e4)) (hx : okN x = true) (hps : PsAt l (i + 4) ps) :
    Ev (fun n => parse_parser_item n (.lst 5 l) (.int .i64 (i : Int)) (.int .i64 d) (.int .i64 c) (.int .i64 p0) (.int .i64 p1) (.int .i64 p2) (.int .i64 0)) fun r => ∃ t u a b e v, r = (true, [.lst 5 l, .int .i64 ((i + 5 + 2 * ps.length : Nat) : Int), .int .i64 d, .int .i64 (c + 1), .int .i64 p0, .int .i64 p1, .int .i64 p2, .int .i64 0, .lst 14 [AI a b e v u]]) ∧ Rep t u ∧ Bd x ps (wB t) := by
  have hyg : goodN y = true := by
    simp only [okN, Bool.and_eq_true] at hy
    exact hy.1.1.1.1
  refine Ev.eq (fun n => parse_parser_item_eq n l i d c p0 p1 p2 0) (Ev.bindC (in_ev (l := l) (d := d) (c := c) (p0 := p0) (p1 := p1) (p2 := p2) (i : Int) (by omega) hd0) ?_)
  intro _ ds h0; cases h0; refine ⟨rfl, Ev.yes rfl (Ev.no rfl (Ev.bindC (counted_ev (l := l) (d := d + 1) (c := c) (p0 := p0) (p1 := p1) (p2 := p2) (i : Int) hc hc0) ?_))⟩
  intro _ ds h0; cases h0; refine ⟨rfl, Ev.yes rfl (Ev.bindC (now_ev (d := d + 1) (c := c + 1) (p0 := p0) (p1 := p1) (p2 := p2) h1) ?_)⟩
  intro _ ds h0; cases h0; refine ⟨rfl, Ev.yes rfl (Ev.bindC (take_no (d := d + 1) (c := c + 1) (p0 := p0) (p1 := p1) (p2 := p2) h1 (by rfl)) ?_)⟩
  intro _ ds h0; cases h0; refine ⟨rfl, Ev.yes rfl (Ev.no rfl (Ev.bindC (take_no (d := d + 1) (c := c + 1) (p0 := p0) (p1 := p1) (p2 := p2) h1 (by rfl)) ?_))⟩
  intro _ ds h0; cases h0; refine ⟨rfl, Ev.yes rfl (Ev.no rfl (Ev.bindC (take_no (d := d + 1) (c := c + 1) (p0 := p0) (p1 := p1) (p2 := p2) h1 (by rfl)) ?_))⟩
  intro _ ds h0; cases h0; refine ⟨rfl, Ev.yes rfl (evDf (fun n => parse_parser_item_j1_def n _ _ _ _ _ _ _ _ _ _ _) (Ev.no rfl (Ev.bindC (take_no (d := d + 1) (c := c + 1) (p0 := p0) (p1 := p1) (p2 := p2) h1 (by rfl)) ?_)))⟩
  intro _ ds h0; cases h0; refine ⟨rfl, Ev.yes rfl (Ev.no rfl (Ev.bindC (take_no (d := d + 1) (c := c + 1) (p0 := p0) (p1 := p1) (p2 := p2) h1 (by rfl)) ?_))⟩
  intro _ ds h0; cases h0; refine ⟨rfl, Ev.yes rfl (Ev.no rfl (Ev.bindC (take_yes (d := d + 1) (c := c + 1) (p0 := p0) (p1 := p1) (p2 := p2) hl h1 (by rfl)) ?_))⟩
  intro _ ds h0; cases h0; refine ⟨rfl, Ev.yes rfl (Ev.yes rfl (Ev.bindC (left_ev (d := d + 1) (c := c + 1) (p0 := p0) (p1 := p1) (p2 := p2) hl h2 hyg h3 rfl) ?_))⟩
  intro _ ds h0; cases h0; refine ⟨rfl, Ev.yes rfl (Ev.bindC (want_ev (d := d + 1) (c := c + 1) (p0 := p0) (p1 := p1) (p2 := p2) hl [[61]] (by decide) (word_at h3 rfl)) ?_)⟩
  intro _ ds h0; cases h0; refine ⟨rfl, Ev.yes rfl (Ev.bindC (expr_ev (d := d + 1) (c := c + 1) (p0 := p0) (p1 := p1) (p2 := p2) hl (by omega) (by omega) h4 hx hps) ?_)⟩
  rintro _ ds ⟨t, u, hp2, h0, hr, hb⟩
  cases h0
  obtain ⟨v0, v1, v2, v3, vt, vs, rfl⟩ := Rep_form hr
  obtain ⟨a5, b5, e5, h5⟩ := hp2
  refine ⟨rfl, Ev.yes rfl (Ev.bindC (want_ev (d := d + 1) (c := c + 1) (p0 := p0) (p1 := p1) (p2 := p2) hl [[59]] (by decide) (word_at h5 rfl)) ?_)⟩
  intro _ ds h0; cases h0; refine ⟨rfl, Ev.yes rfl (evDf (fun n => parse_parser_item_j2_def n _ _ _ _ _ _ _ _ _) (Ev.bindC (out_ev (l := l) (d := d) (c := c + 1) (p0 := p0) (p1 := p1) (p2 := p2) _ (by omega) hd0) ?_))⟩
  intro _ ds h0; cases h0
  refine ⟨rfl, Ev.yes rfl (Ev.ret ⟨t, _, a1, b1, e1, Nm y a2 b2 e2, ?_, hr, hb⟩)⟩
  rw [show i + 5 + 2 * ps.length = i + 3 + 1 + 2 * ps.length + 1 from by omega]
  rfl
end
end Go.Proofs.YtalibicpmfbieaaGreatDoor
