/- A module with one assignment of any expression, parsed. -/
import Derived.Test.YtalibicpmfbieaaGreatDoorPxE
namespace Go.Proofs.YtalibicpmfbieaaGreatDoor
open Go.AE
set_option linter.unusedVariables false
set_option linter.unusedSimpArgs false
section
variable {l : List D} {d c p0 p1 p2 : Int}
theorem item_x (hl : l.length ≤ 1000000) (hd : d < 38) (hd0 : 0 ≤ d) (hc : c < 4000) (hc0 : 0 ≤ c) {i : Nat} {y : List UInt8} {m h : Nat} {R : D → Prop} (hR : ∀ y, R y → IsE y) {a1 b1 e1 a2 b2 e2 a3 b3 e3 : Int}
    (h1 : l[i]? = some (tk 1 assT a1 b1 e1)) (h2 : l[i + 1]? = some (tk 1 y a2 b2 e2)) (hy : okN y = true) (h3 : l[i + 2]? = some (tk 3 [61] a3 b3 e3)) (H : Ph expF l (i + 3) m R h) (hh : d + 1 + h ≤ 40) (h5 : ∃ a b e, l[i + 3 + m]? = some (tk 3 [59] a b e)) :
    Ev (fun n => parse_parser_item n (.lst 5 l) (.int .i64 (i : Int)) (.int .i64 d) (.int .i64 c) (.int .i64 p0) (.int .i64 p1) (.int .i64 p2) (.int .i64 0)) fun r => ∃ u, R u ∧ r = (true, [.lst 5 l, .int .i64 ((i + 4 + m : Nat) : Int), .int .i64 d, .int .i64 (c + 1), .int .i64 p0, .int .i64 p1, .int .i64 p2, .int .i64 0, .lst 14 [AI a1 b1 e1 (Nm y a2 b2 e2) u]]) := by
  have hyg : goodN y = true := by
    simp only [okN, Bool.and_eq_true] at hy
    exact hy.1.1.1.1
  refine Ev.eq (fun n => parse_parser_item_eq n l i d c p0 p1 p2 0) (Ev.bindC (in_ev (l := l) (d := d) (c := c) (p0 := p0) (p1 := p1) (p2 := p2) (i : Int) (by omega) hd0) ?_)
  intro _ ds h0; cases h0; refine ⟨rfl, Ev.yes rfl (Ev.no rfl (Ev.bindC (counted_ev (l := l) (d := d + 1) (c := c) (p0 := p0) (p1 := p1) (p2 := p2) (i : Int) hc hc0) ?_))⟩
  intro _ ds h0; cases h0; refine ⟨rfl, Ev.yes rfl (Ev.bindC (now_ev (d := d + 1) (c := c + 1) (p0 := p0) (p1 := p1) (p2 := p2) h1) ?_)⟩
  intro _ ds h0; cases h0; refine ⟨rfl, Ev.yes rfl (Ev.bindC (take_no (d := d + 1) (c := c + 1) (p0 := p0) (p1 := p1) (p2 := p2) h1 (by rfl)) ?_)⟩
  intro _ ds h0; cases h0; refine ⟨rfl, Ev.yes rfl (Ev.no rfl (Ev.bindC (take_no (d := d + 1) (c := c + 1) (p0 := p0) (p1 := p1) (p2 := p2) h1 (by rfl)) ?_))⟩
  intro _ ds h0; cases h0; refine ⟨rfl, Ev.yes rfl (Ev.no rfl (Ev.bindC (take_no (d := d + 1) (c := c + 1) (p0 := p0) (p1 := p1) (p2 := p2) h1 (by rfl)) ?_))⟩
  intro _ ds h0; cases h0; refine ⟨rfl, Ev.yes rfl (evDf (fun n => parse_parser_item_j1_def n _ _ _ _ _ _ _ _ _ _ _) (Ev.no rfl (Ev.bindC (take_no (d := d + 1) (c := c + 1) (p0 := p0) (p1 := p1) (p2 := p2) h1 (by rfl)) ?_)))⟩
  intro _ ds h0; cases h0; refine ⟨rfl, Ev.yes rfl (Ev.no rfl (Ev.bindC (take_no (d := d + 1) (c := c + 1) (p0 := p0) (p1 := p1) (p2 := p2) h1 (by rfl)) ?_))⟩
  intro _ ds h0; cases h0; refine ⟨rfl, Ev.yes rfl (Ev.no rfl (Ev.bindC (take_yes (d := d + 1) (c := c + 1) (p0 := p0) (p1 := p1) (p2 := p2) hl h1 (by rfl)) ?_))⟩
  intro _ ds h0; cases h0; refine ⟨rfl, Ev.yes rfl (Ev.yes rfl (Ev.bindC (left_ev (d := d + 1) (c := c + 1) (p0 := p0) (p1 := p1) (p2 := p2) hl h2 hyg h3 rfl) ?_))⟩
  intro _ ds h0; cases h0; refine ⟨rfl, Ev.yes rfl (Ev.bindC (want_ev (d := d + 1) (c := c + 1) (p0 := p0) (p1 := p1) (p2 := p2) hl [[61]] (by decide) (word_at h3 rfl)) ?_)⟩
  intro _ ds h0; cases h0; refine ⟨rfl, Ev.yes rfl (Ev.bindC (show Ev (fun n => parse_parser_expr n _ _ _ _ _ _ _ _) _ from H (d + 1) (c + 1) p0 p1 p2 (by omega) (by omega)) ?_)⟩
  rintro _ ds ⟨u, hr, h0⟩
  cases h0
  obtain ⟨v0, v1, v2, v3, vt, vs, rfl⟩ := hR u hr
  obtain ⟨a5, b5, e5, h5⟩ := h5
  refine ⟨rfl, Ev.yes rfl (Ev.bindC (want_ev (d := d + 1) (c := c + 1) (p0 := p0) (p1 := p1) (p2 := p2) hl [[59]] (by decide) (word_at h5 rfl)) ?_)⟩
  intro _ ds h0; cases h0; refine ⟨rfl, Ev.yes rfl (evDf (fun n => parse_parser_item_j2_def n _ _ _ _ _ _ _ _ _) (Ev.bindC (out_ev (l := l) (d := d) (c := c + 1) (p0 := p0) (p1 := p1) (p2 := p2) _ (by omega) hd0) ?_))⟩
  intro _ ds h0; cases h0
  refine ⟨rfl, Ev.yes rfl (Ev.ret ⟨_, hr, ?_⟩)⟩
  rw [show i + 4 + m = i + 3 + m + 1 from by omega]
  rfl
theorem items_x (hl : l.length ≤ 1000000) (hd : d < 38) (hd0 : 0 ≤ d) (hc : c < 4000) (hc0 : 0 ≤ c) {i : Nat} {y : List UInt8} {m h : Nat} {R : D → Prop} (hR : ∀ y, R y → IsE y) {a1 b1 e1 a2 b2 e2 a3 b3 e3 a6 b6 e6 : Int}
    (h1 : l[i]? = some (tk 1 assT a1 b1 e1)) (h2 : l[i + 1]? = some (tk 1 y a2 b2 e2)) (hy : okN y = true) (h3 : l[i + 2]? = some (tk 3 [61] a3 b3 e3)) (H : Ph expF l (i + 3) m R h) (hh : d + 1 + h ≤ 40) (h5 : ∃ a b e, l[i + 3 + m]? = some (tk 3 [59] a b e))
    (h6 : l[i + 4 + m]? = some (tk 1 endT a6 b6 e6)) :
    Ev (fun n => parse_parser_items n (.str endT) (.lst 5 l) (.int .i64 (i : Int)) (.int .i64 d) (.int .i64 c) (.int .i64 p0) (.int .i64 p1) (.int .i64 p2) (.int .i64 0)) fun r => ∃ u, R u ∧ r = (true, [.lst 5 l, .int .i64 ((i + 5 + m : Nat) : Int), .int .i64 d, .int .i64 (c + 1), .int .i64 p0, .int .i64 p1, .int .i64 p2, .int .i64 0, .lst 14 [AI a1 b1 e1 (Nm y a2 b2 e2) u]]) := by
  have I := item_x (p0 := p0) (p1 := p1) (p2 := p2) hl hd hd0 hc hc0 hR h1 h2 hy h3 H hh h5
  refine Ev.eq (fun n => parse_parser_items_eq n endT l i d c p0 p1 p2 0) ?_
  refine Ev.bindL (Q := fun r => ∃ u, R u ∧ r = (false, [.str endT, .lst 5 l, .int .i64 ((i + 5 + m : Nat) : Int), .int .i64 d, .int .i64 (c + 1), .int .i64 p0, .int .i64 p1, .int .i64 p2, .int .i64 0, .lst 14 [AI a1 b1 e1 (Nm y a2 b2 e2) u]])) ?_ (fun ds h => by obtain ⟨_, _, h⟩ := h; cases h) fun ds h => ?_
  · refine Ev.eq (fun n => parse_parser_items_L0_eq n endT l i d c p0 p1 p2 0 []) (Ev.yes rfl (Ev.bindC (take_no (d := d) (c := c) (p0 := p0) (p1 := p1) (p2 := p2) h1 (by rfl)) ?_))
    intro _ ds h0; cases h0
    refine ⟨rfl, Ev.yes rfl (evDf (fun n => parse_parser_items_L0_j1_def n _ _ _ _ _ _ _ _ _ _ _) (Ev.yes rfl (Ev.bindC I ?_)))⟩
    rintro _ ds ⟨u, hr, h0⟩
    cases h0
    refine ⟨rfl, Ev.yes rfl (Ev.yes rfl (Ev.eq (fun n => parse_parser_items_L0_eq n _ _ _ _ _ _ _ _ _ _) (Ev.yes rfl (Ev.bindC (take_yes (d := d) (c := c + 1) (p0 := p0) (p1 := p1) (p2 := p2) hl h6 (by rfl)) ?_))))⟩
    intro _ ds h0; cases h0
    refine ⟨rfl, Ev.yes rfl (evDf (fun n => parse_parser_items_L0_j1_def n _ _ _ _ _ _ _ _ _ _ _) (Ev.no rfl (Ev.ret ⟨u, hr, ?_⟩)))⟩
    rw [show i + 5 + m = i + 4 + m + 1 from by omega]
    rfl
  · obtain ⟨u, hr, h0⟩ := h
    cases h0
    exact Ev.yes rfl (Ev.ret ⟨u, hr, rfl⟩)
theorem module_x (hl : l.length ≤ 1000000) (hd : d < 38) (hd0 : 0 ≤ d) (hc : c < 4000) (hc0 : 0 ≤ c) {i : Nat} {m y : List UInt8} {q h : Nat} {R : D → Prop} (hR : ∀ y, R y → IsE y) {a1 b1 e1 a2 b2 e2 a3 b3 e3 a6 b6 e6 a7 b7 e7 a8 b8 e8 a9 b9 e9 a10 b10 e10 a11 b11 e11 : Int}
    (g1 : l[i]? = some (tk 1 modT a7 b7 e7)) (g2 : l[i + 1]? = some (tk 1 m a8 b8 e8)) (hm : okN m = true) (g3 : l[i + 2]? = some (tk 3 [40] a9 b9 e9)) (g4 : l[i + 3]? = some (tk 3 [41] a10 b10 e10)) (g5 : l[i + 4]? = some (tk 3 [59] a11 b11 e11))
    (h1 : l[i + 5]? = some (tk 1 assT a1 b1 e1)) (h2 : l[i + 5 + 1]? = some (tk 1 y a2 b2 e2)) (hy : okN y = true) (h3 : l[i + 5 + 2]? = some (tk 3 [61] a3 b3 e3)) (H : Ph expF l (i + 5 + 3) q R h) (hh : d + 1 + h ≤ 40) (h5 : ∃ a b e, l[i + 5 + 3 + q]? = some (tk 3 [59] a b e))
    (h6 : l[i + 5 + 4 + q]? = some (tk 1 endT a6 b6 e6)) :
    Ev (fun n => parse_parser_module n (.lst 5 l) (.int .i64 (i : Int)) (.int .i64 d) (.int .i64 c) (.int .i64 p0) (.int .i64 p1) (.int .i64 p2) (.int .i64 0)) fun r => ∃ u, R u ∧ r = (true, [AMo m a7 b7 e7 (AI a1 b1 e1 (Nm y a2 b2 e2) u), .lst 5 l, .int .i64 ((i + 5 + 5 + q : Nat) : Int), .int .i64 d, .int .i64 (c + 1), .int .i64 p0, .int .i64 p1, .int .i64 p2, .int .i64 0]) := by
  have hmg : goodN m = true := by
    simp only [okN, Bool.and_eq_true] at hm
    exact hm.1.1.1.1
  have I := items_x (p0 := p0) (p1 := p1) (p2 := p2) hl hd hd0 hc hc0 hR h1 h2 hy h3 H hh h5 h6
  refine Ev.eq (fun n => parse_parser_module_eq n l i d c p0 p1 p2 0) (Ev.bindC (now_ev (d := d) (c := c) (p0 := p0) (p1 := p1) (p2 := p2) g1) ?_)
  intro _ ds h0; cases h0; refine ⟨rfl, Ev.yes rfl (Ev.bindC (want_ev (d := d) (c := c) (p0 := p0) (p1 := p1) (p2 := p2) hl [modT] (by decide) (word_at g1 rfl)) ?_)⟩
  intro _ ds h0; cases h0; refine ⟨rfl, Ev.yes rfl (Ev.bindC (name_ev (d := d) (c := c) (p0 := p0) (p1 := p1) (p2 := p2) hl g2 hmg) ?_)⟩
  intro _ ds h0; cases h0; refine ⟨rfl, Ev.yes rfl (Ev.bindC (take_no (d := d) (c := c) (p0 := p0) (p1 := p1) (p2 := p2) g3 (by rfl)) ?_)⟩
  intro _ ds h0; cases h0; refine ⟨rfl, Ev.yes rfl (Ev.no rfl (evDf (fun n => parse_parser_module_j1_def n _ _ _ _ _ _ _ _ _ _ _ _ _ _ _ _ _ _ _ _ _ _) (Ev.bindC (want_ev (d := d) (c := c) (p0 := p0) (p1 := p1) (p2 := p2) hl [[40]] (by decide) (word_at g3 rfl)) ?_)))⟩
  intro _ ds h0; cases h0
  refine ⟨rfl, Ev.yes rfl (Ev.bindL (Q := fun r => r = (false, [.lst 5 l, .int .i64 ((i + 3 : Nat) : Int), .int .i64 d, .int .i64 c, .int .i64 p0, .int .i64 p1, .int .i64 p2, .int .i64 0, .str [], .int .i64 0, .int .i64 0, .int .i64 0, .str m, .int .i64 a7, .int .i64 b7, .int .i64 e7, .lst 14 [], .lst 14 [], .lst 14 [], .lst 14 [], .lst 14 [], .lst 14 []])) ?_ (fun ds h => by cases h) fun ds h => ?_)⟩
  · refine Ev.eq (fun n => parse_parser_module_L2_eq n _ _ _ _ _ _ _ _ _ _ _ _ _ _ _ _ _ _ _ _ _ _) (Ev.yes rfl (Ev.no rfl (Ev.bindC (is_ev (d := d) (c := c) (p0 := p0) (p1 := p1) (p2 := p2) [41] g4) ?_)))
    intro _ ds h0; cases h0
    exact ⟨rfl, Ev.yes rfl (evDf (fun n => parse_parser_module_L2_j1_def n _ _ _ _ _ _ _ _ _ _ _ _ _ _ _ _ _ _ _ _ _ _ _) (Ev.no rfl (Ev.ret rfl)))⟩
  · cases h
    have hw : WordsAt l (i + 3) [[41], [59]] := by
      intro j hj
      have : j = 0 ∨ j = 1 := by simp at hj; omega
      rcases this with rfl | rfl
      · exact ⟨3, _, _, _, g4, rfl⟩
      · exact ⟨3, _, _, _, g5, rfl⟩
    refine Ev.yes rfl (Ev.bindC (want_ev (d := d) (c := c) (p0 := p0) (p1 := p1) (p2 := p2) hl [[41], [59]] (by decide) hw) ?_)
    intro _ ds h0; cases h0
    refine ⟨rfl, Ev.yes rfl (Ev.bindC I ?_)⟩
    rintro _ ds ⟨u, hr, h0⟩
    cases h0
    exact ⟨rfl, Ev.yes rfl (Ev.ret ⟨u, hr, rfl⟩)⟩
theorem parseOne_x (hl : l.length ≤ 1000000) {m y : List UInt8} {q h : Nat} {R : D → Prop} (hR : ∀ y, R y → IsE y) {a1 b1 e1 a2 b2 e2 a3 b3 e3 a6 b6 e6 a7 b7 e7 a8 b8 e8 a9 b9 e9 a10 b10 e10 a11 b11 e11 : Int}
    (g1 : l[0]? = some (tk 1 modT a7 b7 e7)) (g2 : l[0 + 1]? = some (tk 1 m a8 b8 e8)) (hm : okN m = true) (g3 : l[0 + 2]? = some (tk 3 [40] a9 b9 e9)) (g4 : l[0 + 3]? = some (tk 3 [41] a10 b10 e10)) (g5 : l[0 + 4]? = some (tk 3 [59] a11 b11 e11))
    (h1 : l[0 + 5]? = some (tk 1 assT a1 b1 e1)) (h2 : l[0 + 5 + 1]? = some (tk 1 y a2 b2 e2)) (hy : okN y = true) (h3 : l[0 + 5 + 2]? = some (tk 3 [61] a3 b3 e3)) (H : Ph expF l (0 + 5 + 3) q R h) (hh : h ≤ 39) (h5 : ∃ a b e, l[0 + 5 + 3 + q]? = some (tk 3 [59] a b e))
    (h6 : l[0 + 5 + 4 + q]? = some (tk 1 endT a6 b6 e6)) (hlen : l.length = 0 + 5 + 5 + q) :
    Ev (fun n => parse_Parse n (.lst 5 l)) fun r => ∃ u, R u ∧ r = (true, [.agg [.int .i64 0, .int .i64 0, .int .i64 0], .int .i64 0, .lst 7 [AMo m a7 b7 e7 (AI a1 b1 e1 (Nm y a2 b2 e2) u)]]) := by
  have I := module_x (d := 0) (c := 0) (p0 := 0) (p1 := 0) (p2 := 0) hl (by decide) (by decide) (by decide) (by decide) hR g1 g2 hm g3 g4 g5 h1 h2 hy h3 H (by omega) h5 h6
  refine Ev.eq (fun n => parse_Parse_eq n l) ?_
  refine Ev.bindL (Q := fun r => ∃ u, R u ∧ r = (false, [.int .i64 0, .int .i64 0, .int .i64 0, .lst 5 l, .int .i64 ((0 + 5 + 5 + q : Nat) : Int), .int .i64 0, .int .i64 (0 + 1), .int .i64 0, .int .i64 0, .int .i64 0, .int .i64 0, .lst 7 [AMo m a7 b7 e7 (AI a1 b1 e1 (Nm y a2 b2 e2) u)]])) ?_ (fun ds h => by obtain ⟨_, _, h⟩ := h; cases h) fun ds h => ?_
  · refine Ev.eq (fun n => parse_Parse_L0_eq n 0 0 0 l 0 0 0 0 0 0 0 []) (Ev.yes rfl (evDf (fun n => parse_Parse_L0_j1_def n _ _ _ _ _ _ _ _ _ _ _ _ _) (Ev.yes (decide_eq_true (by omega)) (Ev.no rfl (evDf (fun n => parse_Parse_L0_j2_def n _ _ _ _ _ _ _ _ _ _ _ _) (Ev.bindC I ?_))))))
    rintro _ ds ⟨u, hr, h0⟩
    cases h0
    refine ⟨rfl, Ev.yes rfl (Ev.bindC (contains_none m a7 b7 e7 [] [] [AI a1 b1 e1 (Nm y a2 b2 e2) u]) ?_)⟩
    intro _ ds h0; cases h0
    refine ⟨rfl, Ev.yes rfl (Ev.no rfl (Ev.yes rfl (Ev.eq (fun n => parse_Parse_L0_eq n _ _ _ _ _ _ _ _ _ _ _ _) (Ev.yes rfl (evDf (fun n => parse_Parse_L0_j1_def n _ _ _ _ _ _ _ _ _ _ _ _ _) (Ev.no (decide_eq_false (by show ¬ (((0 + 5 + 5 + q : Nat) : Int) < (l.length : Int)); omega)) (Ev.ret ⟨u, hr, rfl⟩)))))))⟩
  · obtain ⟨u, hr, h0⟩ := h
    cases h0
    exact Ev.yes rfl (Ev.no rfl (Ev.ret ⟨u, hr, rfl⟩))
end
end Go.Proofs.YtalibicpmfbieaaGreatDoor
