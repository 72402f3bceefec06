/- What the parser does of itself: its depth, its count; a module of one item; no module yet. -/
import Derived.Test.YtalibicpmfbieaaGreatDoorPaB
namespace Go.Proofs.YtalibicpmfbieaaGreatDoor
open Go.AE
set_option linter.unusedVariables false
set_option linter.unusedSimpArgs false
def assT : List UInt8 := [97, 115, 115, 105, 103, 110]
def endT : List UInt8 := [101, 110, 100, 109, 111, 100, 117, 108, 101]
def modT : List UInt8 := [109, 111, 100, 117, 108, 101]
section
variable {l : List D} {d c p0 p1 p2 : Int}
theorem in_ev (i : Int) (hd : d < 40) (hd0 : 0 ≤ d) : Ev (fun n => parse_parser_in n (.lst 5 l) (.int .i64 i) (.int .i64 d) (.int .i64 c) (.int .i64 p0) (.int .i64 p1) (.int .i64 p2) (.int .i64 0)) fun r => r = (true, [.bool true, .lst 5 l, .int .i64 i, .int .i64 (d + 1), .int .i64 c, .int .i64 p0, .int .i64 p1, .int .i64 p2, .int .i64 0]) := by
  have w1 : IntKind.i64.wrap (d + 1) = d + 1 := wrap_id (by omega) (by omega)
  exact Ev.eq (fun n => parse_parser_in_eq n l i d c p0 p1 p2 0) (Ev.no (decide_eq_false (by rw [w1]; omega)) (Ev.ret (by rw [w1]; rfl)))
theorem out_ev (i : Int) (hd : d < 40) (hd0 : 0 ≤ d) : Ev (fun n => parse_parser_out n (.lst 5 l) (.int .i64 i) (.int .i64 (d + 1)) (.int .i64 c) (.int .i64 p0) (.int .i64 p1) (.int .i64 p2) (.int .i64 0)) fun r => r = (true, [.lst 5 l, .int .i64 i, .int .i64 d, .int .i64 c, .int .i64 p0, .int .i64 p1, .int .i64 p2, .int .i64 0]) := by
  have w2 : IntKind.i64.wrap (d + 1 - 1) = d := by rw [wrap_id (by omega) (by omega)]; omega
  exact Ev.eq (fun n => parse_parser_out_eq n l i (d + 1) c p0 p1 p2 0) (Ev.ret (by rw [w2]))
theorem counted_ev (i : Int) (hc : c < 4000) (hc0 : 0 ≤ c) : Ev (fun n => parse_parser_counted n (.lst 5 l) (.int .i64 i) (.int .i64 d) (.int .i64 c) (.int .i64 p0) (.int .i64 p1) (.int .i64 p2) (.int .i64 0)) fun r => r = (true, [.lst 5 l, .int .i64 i, .int .i64 d, .int .i64 (c + 1), .int .i64 p0, .int .i64 p1, .int .i64 p2, .int .i64 0]) := by
  have w1 : IntKind.i64.wrap (c + 1) = c + 1 := wrap_id (by omega) (by omega)
  exact Ev.eq (fun n => parse_parser_counted_eq n l i d c p0 p1 p2 0) (Ev.no (decide_eq_false (by rw [w1]; omega)) (Ev.ret (by rw [w1])))
theorem word_at {i : Nat} {k a b e : Int} {w : List UInt8} (h : l[i]? = some (tk k w a b e)) (hk : (k != 2) = true) : WordsAt l i [w] := by
  intro j hj
  have : j = 0 := by simpa using hj
  subst this
  exact ⟨k, a, b, e, h, hk⟩
def AI (a b e : Int) (u v : D) : D := .agg [.int .i64 4, .int .i64 a, .int .i64 b, .int .i64 e, .str [], .str [], .bool false, .lst 6 [u, v], .lst 6 [], .lst 8 [], .lst 14 [], .lst 14 [], .lst 5 [], .lst 5 []]
end
/-- A module without parameters and ports. -/
def AMo (m : List UInt8) (a b e : Int) (it : D) : D := .agg [.str m, .int .i64 a, .int .i64 b, .int .i64 e, .lst 14 [], .lst 14 [], .lst 14 [it]]
section
variable {l : List D}
theorem contains_none (m : List UInt8) (a b e : Int) (xs ys zs : List D) : Ev (fun n => slices_ContainsFunc_Module n (.lst 7 []) (.str m) (.int .i64 a) (.int .i64 b) (.int .i64 e) (.lst 14 xs) (.lst 14 ys) (.lst 14 zs)) fun r =>
    r = (true, [.bool false, .lst 7 [], .str m, .int .i64 a, .int .i64 b, .int .i64 e, .lst 14 xs, .lst 14 ys, .lst 14 zs]) := by
  refine Ev.eq (fun n => slices_ContainsFunc_Module_eq n [] m a b e xs ys zs) (Ev.bindC (Q := fun r => r = (true, [.int .i64 (-1), .lst 7 [], .str m, .int .i64 a, .int .i64 b, .int .i64 e, .lst 14 xs, .lst 14 ys, .lst 14 zs])) ?_ ?_)
  · refine Ev.eq (fun n => slices_IndexFunc_Module_eq n [] m a b e xs ys zs) (Ev.bindL (Q := fun r => r = (false, [.int .i64 0, .int .i64 0, .lst 7 [], .str m, .int .i64 a, .int .i64 b, .int .i64 e, .lst 14 xs, .lst 14 ys, .lst 14 zs])) (Ev.eq (fun n => slices_IndexFunc_Module_L0_eq n _ _ _ _ _ _ _ _ _ _) (Ev.no rfl (Ev.ret rfl))) (fun ds h => by cases h) fun ds h => ?_)
    cases h
    exact Ev.yes rfl (Ev.ret rfl)
  · intro _ ds h0; cases h0
    exact ⟨rfl, Ev.yes rfl (Ev.ret rfl)⟩
end
end Go.Proofs.YtalibicpmfbieaaGreatDoor
