/- The items of a module with one assignment; the module. -/
import Derived.Test.YtalibicpmfbieaaGreatDoorPaE
namespace Go.Proofs.YtalibicpmfbieaaGreatDoor
open Go.AE
set_option linter.unusedVariables false
set_option linter.unusedSimpArgs false
section
variable {l : List D} {d c p0 p1 p2 : Int}
theorem items_ev (hl : l.length ≤ 1000000) (hd : d < 38) (hd0 : 0 ≤ d) (hc : c < 4000) (hc0 : 0 ≤ c) {i : Nat} {y x : List UInt8} {ps : Pairs} {a1 b1 e1 a2 b2 e2 a3 b3 e3 a4 b4 e4 a6 b6 e6 : Int}
    (h1 : l[i]? = some (tk 1 assT a1 b1 e1)) (h2 : l[i + 1]? = some (tk 1 y a2 b2 e2)) (hy : okN y = true) (h3 : l[i + 2]? = some (tk 3 [61] a3 b3 e3)) (h4 : l[i + 3]? = some (tk 1 x a4 b4 e4)) (hx : okN x = true) (hps : PsAt l (i + 4) ps)
    (h6 : l[i + 5 + 2 * ps.length]? = some (tk 1 endT a6 b6 e6)) :
    Ev (fun n => parse_parser_items n (.str endT) (.lst 5 l) (.int .i64 (i : Int)) (.int .i64 d) (.int .i64 c) (.int .i64 p0) (.int .i64 p1) (.int .i64 p2) (.int .i64 0)) fun r => ∃ t u a b e v, r = (true, [.lst 5 l, .int .i64 ((i + 6 + 2 * ps.length : Nat) : Int), .int .i64 d, .int .i64 (c + 1), .int .i64 p0, .int .i64 p1, .int .i64 p2, .int .i64 0, .lst 14 [AI a b e v u]]) ∧ Rep t u ∧ Bd x ps (wB t) := by
  have I := item_ev (p0 := p0) (p1 := p1) (p2 := p2) hl hd hd0 hc hc0 h1 h2 hy h3 h4 hx hps
  refine Ev.eq (fun n => parse_parser_items_eq n endT l i d c p0 p1 p2 0) ?_
  refine Ev.bindL (Q := fun r => ∃ t u a b e v, r = (false, [.str endT, .lst 5 l, .int .i64 ((i + 6 + 2 * ps.length : Nat) : Int), .int .i64 d, .int .i64 (c + 1), .int .i64 p0, .int .i64 p1, .int .i64 p2, .int .i64 0, .lst 14 [AI a b e v u]]) ∧ Rep t u ∧ Bd x ps (wB t)) ?_ (fun ds h => by obtain ⟨_, _, _, _, _, _, h, _⟩ := h; cases h) fun ds h => ?_
  · refine Ev.eq (fun n => parse_parser_items_L0_eq n endT l i d c p0 p1 p2 0 []) (Ev.yes rfl (Ev.bindC (take_no (d := d) (c := c) (p0 := p0) (p1 := p1) (p2 := p2) h1 (by rfl)) ?_))
    intro _ ds h0; cases h0
    refine ⟨rfl, Ev.yes rfl (evDf (fun n => parse_parser_items_L0_j1_def n _ _ _ _ _ _ _ _ _ _ _) (Ev.yes rfl (Ev.bindC I ?_)))⟩
    rintro _ ds ⟨t, u, a, b, e, v, h0, hr, hb⟩
    cases h0
    refine ⟨rfl, Ev.yes rfl (Ev.yes rfl (Ev.eq (fun n => parse_parser_items_L0_eq n _ _ _ _ _ _ _ _ _ _) (Ev.yes rfl (Ev.bindC (take_yes (d := d) (c := c + 1) (p0 := p0) (p1 := p1) (p2 := p2) hl h6 (by rfl)) ?_))))⟩
    intro _ ds h0; cases h0
    refine ⟨rfl, Ev.yes rfl (evDf (fun n => parse_parser_items_L0_j1_def n _ _ _ _ _ _ _ _ _ _ _) (Ev.no rfl (Ev.ret ⟨t, u, a, b, e, v, ?_, hr, hb⟩)))⟩
    rw [show i + 6 + 2 * ps.length = i + 5 + 2 * ps.length + 1 from by omega]
    rfl
  · obtain ⟨t, u, a, b, e, v, h0, hr, hb⟩ := h
    cases h0
    exact Ev.yes rfl (Ev.ret ⟨t, u, a, b, e, v, rfl, hr, hb⟩)
/-- A module without parameters and ports. -/
def AMo (m : List UInt8) (a b e : Int) (it : D) : D := .agg [.str m, .int .i64 a, .int .i64 b, .int .i64 e, .lst 14 [], .lst 14 [], .lst 14 [it]]
theorem module_ev (hl : l.length ≤ 1000000) (hd : d < 38) (hd0 : 0 ≤ d) (hc : c < 4000) (hc0 : 0 ≤ c) {i : Nat} {m y x : List UInt8} {ps : Pairs} {a1 b1 e1 a2 b2 e2 a3 b3 e3 a4 b4 e4 a6 b6 e6 a7 b7 e7 a8 b8 e8 a9 b9 e9 a10 b10 e10 a11 b11 e11 : Int}
    (g1 : l[i]? = some (tk 1 modT a7 b7 e7)) (g2 : l[i + 1]? = some (tk 1 m a8 b8 e8)) (hm : okN m = true) (g3 : l[i + 2]? = some (tk 3 [40] a9 b9 e9)) (g4 : l[i + 3]? = some (tk 3 [41] a10 b10 e10)) (g5 : l[i + 4]? = some (tk 3 [59] a11 b11 e11))
    (h1 : l[i + 5]? = some (tk 1 assT a1 b1 e1)) (h2 : l[i + 5 + 1]? = some (tk 1 y a2 b2 e2)) (hy : okN y = true) (h3 : l[i + 5 + 2]? = some (tk 3 [61] a3 b3 e3)) (h4 : l[i + 5 + 3]? = some (tk 1 x a4 b4 e4)) (hx : okN x = true) (hps : PsAt l (i + 5 + 4) ps)
    (h6 : l[i + 5 + 5 + 2 * ps.length]? = some (tk 1 endT a6 b6 e6)) :
    Ev (fun n => parse_parser_module n (.lst 5 l) (.int .i64 (i : Int)) (.int .i64 d) (.int .i64 c) (.int .i64 p0) (.int .i64 p1) (.int .i64 p2) (.int .i64 0)) fun r => ∃ t u a b e v, r = (true, [AMo m a7 b7 e7 (AI a b e v u), .lst 5 l, .int .i64 ((i + 5 + 6 + 2 * ps.length : Nat) : Int), .int .i64 d, .int .i64 (c + 1), .int .i64 p0, .int .i64 p1, .int .i64 p2, .int .i64 0]) ∧ Rep t u ∧ Bd x ps (wB t) := by
  have hmg : goodN m = true := by
    simp only [okN, Bool.and_eq_true] at hm
    exact hm.1.1.1.1
  have I := items_ev (p0 := p0) (p1 := p1) (p2 := p2) hl hd hd0 hc hc0 h1 h2 hy h3 h4 hx hps h6
  refine Ev.eq (fun n => parse_parser_module_eq n l i d c p0 p1 p2 0) (Ev.bindC (now_ev (d := d) (c := c) (p0 := p0) (p1 := p1) (p2 := p2) g1) ?_)
  intro _ ds h0; cases h0; refine ⟨rfl, Ev.yes rfl (Ev.bindC (want_ev (d := d) (c := c) (p0 := p0) (p1 := p1) (p2 := p2) hl [modT] (by decide) (word_at g1 rfl)) ?_)⟩
  intro _ ds h0; cases h0; refine ⟨rfl, Ev.yes rfl (Ev.bindC (name_ev (d := d) (c := c) (p0 := p0) (p1 := p1) (p2 := p2) hl g2 hmg) ?_)⟩
  intro _ ds h0; cases h0; refine ⟨rfl, Ev.yes rfl (Ev.bindC (take_no (d := d) (c := c) (p0 := p0) (p1 := p1) (p2 := p2) g3 (by rfl)) ?_)⟩
  intro _ ds h0; cases h0; refine ⟨rfl, Ev.yes rfl (Ev.no rfl (evDf (fun n => parse_parser_module_j1_def n _ _ _ _ _ _ _ _ _ _ _ _ _ _ _ _ _ _ _ _ _ _) (Ev.bindC (want_ev (d := d) (c := c) (p0 := p0) (p1 := p1) (p2 := p2) hl [[40]] (by decide) (word_at g3 rfl)) ?_)))⟩
  intro _ ds h0; cases h0
  refine ⟨rfl, Ev.yes rfl (Ev.bindL (Q := fun r => r = (false, [.lst 5 l, .int .i64 ((i + 3 : Nat) : Int), .int .i64 d, .int .i64 c, .int .i64 p0, .int .i64 p1, .int .i64 p2, .int .i64 0, .str [], .int .i64 0, .int .i64 0, .int .i64 0, .str m, .int .i64 a7, .int .i64 b7, .int .i64 e7, .lst 14 [], .lst 14 [], .lst 14 [], .lst 14 [], .lst 14 [], .lst 14 []])) ?_ (fun ds h => by cases h) fun ds h => ?_)⟩
  · refine Ev.eq (fun n => parse_parser_module_L2_eq n _ _ _ _ _ _ _ _ _ _ _ _ _ _ _ _ _ _ _ _ _ _) (Ev.yes rfl (Ev.no rfl (Ev.bindC (is_ev (d := d) (c := c) (p0 := p0) (p1 := p1) (p2 := p2) [41] g4) ?_)))
    intro _ ds h0; cases h0
    exact ⟨rfl, Ev.yes rfl (evDf (fun n => parse_parser_module_L2_j1_def n _ _ _ _ _ _ _ _ _ _ _ _ _ _ _ _ _ _ _ _ _ _ _) (Ev.no rfl (Ev.ret rfl)))⟩
  · cases h
    have hw : WordsAt l (i + 3) [[41], [59]] := by
      intro j hj
      have : j = 0 ∨ j = 1 := by simp at hj; omega
      rcases this with rfl | rfl
      · exact ⟨3, _, _, _, g4, rfl⟩
      · exact ⟨3, _, _, _, g5, rfl⟩
    refine Ev.yes rfl (Ev.bindC (want_ev (d := d) (c := c) (p0 := p0) (p1 := p1) (p2 := p2) hl [[41], [59]] (by decide) hw) ?_)
    intro _ ds h0; cases h0
    refine ⟨rfl, Ev.yes rfl (Ev.bindC I ?_)⟩
    rintro _ ds ⟨t, u, a, b, e, v, h0, hr, hb⟩
    cases h0
    exact ⟨rfl, Ev.yes rfl (Ev.ret ⟨t, u, a, b, e, v, rfl, hr, hb⟩)⟩
end
end Go.Proofs.YtalibicpmfbieaaGreatDoor
