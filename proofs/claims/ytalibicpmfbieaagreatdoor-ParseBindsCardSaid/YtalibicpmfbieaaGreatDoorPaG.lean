/- Parse of a source of one such module. -/
import Derived.Test.YtalibicpmfbieaaGreatDoorPaF
namespace Go.Proofs.YtalibicpmfbieaaGreatDoor
open Go.AE
set_option linter.unusedVariables false
set_option linter.unusedSimpArgs false
section
variable {l : List D}
theorem contains_none (m : List UInt8) (a b e : Int) (xs ys zs : List D) : Ev (fun n => slices_ContainsFunc_Module n (.lst 7 []) (.str m) (.int .i64 a) (.int .i64 b) (.int .i64 e) (.lst 14 xs) (.lst 14 ys) (.lst 14 zs)) fun r =>
    r = (true, [.bool false, .lst 7 [], .str m, .int .i64 a, .int .i64 b, .int .i64 e, .lst 14 xs, .lst 14 ys, .lst 14 zs]) := by
  refine Ev.eq (fun n => slices_ContainsFunc_Module_eq n [] m a b e xs ys zs) (Ev.bindC (Q := fun r => r = (true, [.int .i64 (-1), .lst 7 [], .str m, .int .i64 a, .int .i64 b, .int .i64 e, .lst 14 xs, .lst 14 ys, .lst 14 zs])) ?_ ?_)
  · refine Ev.eq (fun n => slices_IndexFunc_Module_eq n [] m a b e xs ys zs) (Ev.bindL (Q := fun r => r = (false, [.int .i64 0, .int .i64 0, .lst 7 [], .str m, .int .i64 a, .int .i64 b, .int .i64 e, .lst 14 xs, .lst 14 ys, .lst 14 zs])) (Ev.eq (fun n => slices_IndexFunc_Module_L0_eq n _ _ _ _ _ _ _ _ _ _) (Ev.no rfl (Ev.ret rfl))) (fun ds h => by cases h) fun ds h => ?_)
    cases h
    exact Ev.yes rfl (Ev.ret rfl)
  · intro _ ds h0; cases h0
    exact ⟨rfl, Ev.yes rfl (Ev.ret rfl)⟩
theorem parseOne_ev (hl : l.length ≤ 1000000) {m y x : List UInt8} {ps : Pairs} {a1 b1 e1 a2 b2 e2 a3 b3 e3 a4 b4 e4 a6 b6 e6 a7 b7 e7 a8 b8 e8 a9 b9 e9 a10 b10 e10 a11 b11 e11 : Int}
    (g1 : l[0]? = some (tk 1 modT a7 b7 e7)) (g2 : l[0 + 1]? = some (tk 1 m a8 b8 e8)) (hm : okN m = true) (g3 : l[0 + 2]? = some (tk 3 [40] a9 b9 e9)) (g4 : l[0 + 3]? = some (tk 3 [41] a10 b10 e10)) (g5 : l[0 + 4]? = some (tk 3 [59] a11 b11 e11))
    (h1 : l[0 + 5]? = some (tk 1 assT a1 b1 e1)) (h2 : l[0 + 5 + 1]? = some (tk 1 y a2 b2 e2)) (hy : okN y = true) (h3 : l[0 + 5 + 2]? = some (tk 3 [61] a3 b3 e3)) (h4 : l[0 + 5 + 3]? = some (tk 1 x a4 b4 e4)) (hx : okN x = true) (hps : PsAt l (0 + 5 + 4) ps)
    (h6 : l[0 + 5 + 5 + 2 * ps.length]? = some (tk 1 endT a6 b6 e6)) (hlen : l.length = 0 + 5 + 6 + 2 * ps.length) :
    Ev (fun n => parse_Parse n (.lst 5 l)) fun r => ∃ t u a b e v, r = (true, [.agg [.int .i64 0, .int .i64 0, .int .i64 0], .int .i64 0, .lst 7 [AMo m a7 b7 e7 (AI a b e v u)]]) ∧ Rep t u ∧ Bd x ps (wB t) := by
  have I := module_ev (d := 0) (c := 0) (p0 := 0) (p1 := 0) (p2 := 0) hl (by decide) (by decide) (by decide) (by decide) g1 g2 hm g3 g4 g5 h1 h2 hy h3 h4 hx hps h6
  refine Ev.eq (fun n => parse_Parse_eq n l) ?_
  refine Ev.bindL (Q := fun r => ∃ t u a b e v, r = (false, [.int .i64 0, .int .i64 0, .int .i64 0, .lst 5 l, .int .i64 ((0 + 5 + 6 + 2 * ps.length : Nat) : Int), .int .i64 0, .int .i64 (0 + 1), .int .i64 0, .int .i64 0, .int .i64 0, .int .i64 0, .lst 7 [AMo m a7 b7 e7 (AI a b e v u)]]) ∧ Rep t u ∧ Bd x ps (wB t)) ?_ (fun ds h => by obtain ⟨_, _, _, _, _, _, h, _⟩ := h; cases h) fun ds h => ?_
  · refine Ev.eq (fun n => parse_Parse_L0_eq n 0 0 0 l 0 0 0 0 0 0 0 []) (Ev.yes rfl (evDf (fun n => parse_Parse_L0_j1_def n _ _ _ _ _ _ _ _ _ _ _ _ _) (Ev.yes (decide_eq_true (by omega)) (Ev.no rfl (evDf (fun n => parse_Parse_L0_j2_def n _ _ _ _ _ _ _ _ _ _ _ _) (Ev.bindC I ?_))))))
    rintro _ ds ⟨t, u, a, b, e, v, h0, hr, hb⟩
    cases h0
    refine ⟨rfl, Ev.yes rfl (Ev.bindC (contains_none m a7 b7 e7 [] [] [AI a b e v u]) ?_)⟩
    intro _ ds h0; cases h0
    refine ⟨rfl, Ev.yes rfl (Ev.no rfl (Ev.yes rfl (Ev.eq (fun n => parse_Parse_L0_eq n _ _ _ _ _ _ _ _ _ _ _ _) (Ev.yes rfl (evDf (fun n => parse_Parse_L0_j1_def n _ _ _ _ _ _ _ _ _ _ _ _ _) (Ev.no (decide_eq_false (by show ¬ (((0 + 5 + 6 + 2 * ps.length : Nat) : Int) < (l.length : Int)); omega)) (Ev.ret ⟨t, u, a, b, e, v, rfl, hr, hb⟩)))))))⟩
  · obtain ⟨t, u, a, b, e, v, h0, hr, hb⟩ := h
    cases h0
    exact Ev.yes rfl (Ev.no rfl (Ev.ret ⟨t, u, a, b, e, v, rfl, hr, hb⟩))
end
end Go.Proofs.YtalibicpmfbieaaGreatDoor
