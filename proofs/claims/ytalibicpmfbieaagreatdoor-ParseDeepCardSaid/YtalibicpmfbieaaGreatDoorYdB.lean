/- The parser where no word comes next: modules behind an error. -/
import Derived.Test.YtalibicpmfbieaaGreatDoorYdA
import Derived.Test.YtalibicpmfbieaaGreatDoorPxZ
namespace Go.Proofs.YtalibicpmfbieaaGreatDoor
open Go.AE
set_option linter.unusedVariables false
set_option linter.unusedSimpArgs false
section
variable {l : List D} {i : Nat} {e : Int}
theorem items_n (he : e ≠ 0) (w : List UInt8) (i d c p0 p1 p2 : Int) : Ev (fun n => parse_parser_items n (.str w) (.lst 5 l) (.int .i64 i) (.int .i64 d) (.int .i64 c) (.int .i64 p0) (.int .i64 p1) (.int .i64 p2) (.int .i64 e))
    fun r => r = (true, [.lst 5 l, .int .i64 i, .int .i64 d, .int .i64 c, .int .i64 p0, .int .i64 p1, .int .i64 p2, .int .i64 e, .lst 14 []]) := by
  refine Ev.eq (fun n => parse_parser_items_eq n w l i d c p0 p1 p2 e) (Ev.bindL (Q := fun r => r = (false, [.str w, .lst 5 l, .int .i64 i, .int .i64 d, .int .i64 c, .int .i64 p0, .int .i64 p1, .int .i64 p2, .int .i64 e, .lst 14 []])) ?_ (fun ds h => by cases h) fun ds h => ?_)
  · exact Ev.eq (fun n => parse_parser_items_L0_eq n w l i d c p0 p1 p2 e []) (Ev.no (beq_eq_false_iff_ne.2 he) (evDf (fun n => parse_parser_items_L0_j1_def n _ _ _ _ _ _ _ _ _ _ _) (Ev.no rfl (Ev.ret rfl))))
  · cases h
    exact Ev.yes rfl (Ev.ret rfl)
def IsMo (y : D) : Prop := ∃ (a b g : Int) (ps qs its : List D), y = .agg [.str [], .int .i64 a, .int .i64 b, .int .i64 g, .lst 14 ps, .lst 14 qs, .lst 14 its]
theorem d_module (h : Dd l i e) (d c p0 p1 p2 : Int) : Ev (fun n => parse_parser_module n (.lst 5 l) (.int .i64 (i : Int)) (.int .i64 d) (.int .i64 c) (.int .i64 p0) (.int .i64 p1) (.int .i64 p2) (.int .i64 e)) (F1 IsMo l i p0 p1 p2 e) := by
  have F := @Fq.refl l e p0 p1 p2
  refine Ev.eq (fun n => parse_parser_module_eq n l i d c p0 p1 p2 e) ?_
  (refine Ev.bindC (d_now h d c p0 p1 p2) ?_; (intro _ ds h0; cases h0; refine ⟨rfl, Ev.yes rfl ?_⟩))
  (refine Ev.bindC (d_want (w := [109, 111, 100, 117, 108, 101]) [] (by decide) h d c p0 p1 p2) ?_; rintro _ ds ⟨d, c, p0, p1, p2, e, F', he, h0⟩; cases h0; have h := h.fq F'; have F := F.trans F'; refine ⟨rfl, Ev.yes rfl ?_⟩)
  (refine Ev.bindC (d_name h d c p0 p1 p2) ?_; rintro _ ds ⟨y, d, c, p0, p1, p2, e, rfl, F', he, h0⟩; cases h0; have h := h.fq F'; have F := F.trans F'; refine ⟨rfl, Ev.yes rfl ?_⟩)
  ((refine Ev.bindC (d_take (w := [35]) (by decide) h d c p0 p1 p2) ?_; (intro _ ds h0; cases h0; refine ⟨rfl, Ev.yes rfl ?_⟩)); refine Ev.no rfl ?_)
  refine evDf (fun n => parse_parser_module_j1_def n _ _ _ _ _ _ _ _ _ _ _ _ _ _ _ _ _ _ _ _ _ _) ?_
  (refine Ev.bindC (d_want (w := [40]) [] (by decide) h d c p0 p1 p2) ?_; rintro _ ds ⟨d, c, p0, p1, p2, e, F', he, h0⟩; cases h0; have h := h.fq F'; have F := F.trans F'; refine ⟨rfl, Ev.yes rfl ?_⟩)
  refine Ev.bindL (Q := fun r => r = (false, [.lst 5 l, .int .i64 (i : Int), .int .i64 d, .int .i64 c, .int .i64 p0, .int .i64 p1, .int .i64 p2, .int .i64 e, .str [], .int .i64 0, .int .i64 0, .int .i64 0, .str [], .int .i64 0, .int .i64 0, .int .i64 0, .lst 14 [], .lst 14 [], .lst 14 [], .lst 14 [], .lst 14 [], .lst 14 []])) ?_ (fun ds h => by cases h) fun ds h0 => ?_
  · exact Ev.eq (fun n => parse_parser_module_L2_eq n _ _ _ _ _ _ _ _ _ _ _ _ _ _ _ _ _ _ _ _ _ _) (Ev.no (beq_eq_false_iff_ne.2 he) (evDf (fun n => parse_parser_module_L2_j1_def n _ _ _ _ _ _ _ _ _ _ _ _ _ _ _ _ _ _ _ _ _ _ _) (Ev.no rfl (Ev.ret rfl))))
  cases h0
  refine Ev.yes rfl ?_
  (refine Ev.bindC (d_want (w := [41]) [.str [59]] (by decide) h d c p0 p1 p2) ?_; rintro _ ds ⟨d, c, p0, p1, p2, e, F', he, h0⟩; cases h0; have h := h.fq F'; have F := F.trans F'; refine ⟨rfl, Ev.yes rfl ?_⟩)
  refine Ev.bindC (items_n he _ i d c p0 p1 p2) ?_
  (intro _ ds h0; cases h0; refine ⟨rfl, Ev.yes rfl ?_⟩)
  exact Ev.ret ⟨_, d, c, p0, p1, p2, e, ⟨_, _, _, _, _, _, rfl⟩, F, he, rfl⟩
/-- No ports. -/
theorem modL2_none {m : List UInt8} {a7 b7 e7 a b g d c p0 p1 p2 : Int} (g4 : l[i]? = some (tk 3 [41] a b g)) :
    Ev (fun n => parse_parser_module_L2 n (.lst 5 l) (.int .i64 (i : Int)) (.int .i64 d) (.int .i64 c) (.int .i64 p0) (.int .i64 p1) (.int .i64 p2) (.int .i64 0) (.str []) (.int .i64 0) (.int .i64 0) (.int .i64 0) (.str m) (.int .i64 a7) (.int .i64 b7) (.int .i64 e7) (.lst 14 []) (.lst 14 []) (.lst 14 []) (.lst 14 []) (.lst 14 []) (.lst 14 []))
      fun r => r = (false, [.lst 5 l, .int .i64 (i : Int), .int .i64 d, .int .i64 c, .int .i64 p0, .int .i64 p1, .int .i64 p2, .int .i64 0, .str [], .int .i64 0, .int .i64 0, .int .i64 0, .str m, .int .i64 a7, .int .i64 b7, .int .i64 e7, .lst 14 [], .lst 14 [], .lst 14 [], .lst 14 [], .lst 14 [], .lst 14 []]) := by
  refine Ev.eq (fun n => parse_parser_module_L2_eq n _ _ _ _ _ _ _ _ _ _ _ _ _ _ _ _ _ _ _ _ _ _) (Ev.yes rfl (Ev.no rfl (Ev.bindC (is_ev (d := d) (c := c) (p0 := p0) (p1 := p1) (p2 := p2) [41] g4) ?_)))
  intro _ ds h0; cases h0
  exact ⟨rfl, Ev.yes rfl (evDf (fun n => parse_parser_module_L2_j1_def n _ _ _ _ _ _ _ _ _ _ _ _ _ _ _ _ _ _ _ _ _ _ _) (Ev.no rfl (Ev.ret rfl)))⟩
theorem words_2 {a b g a' b' g' : Int} {t t' : List UInt8} {k k' : Int} (h1 : l[i]? = some (tk k t a b g)) (h2 : l[i + 1]? = some (tk k' t' a' b' g')) (hk : (k != 2) = true) (hk' : (k' != 2) = true) : WordsAt l i [t, t'] := by
  intro j hj
  have : j = 0 ∨ j = 1 := by simp at hj; omega
  rcases this with rfl | rfl
  · exact ⟨k, _, _, _, h1, hk⟩
  · exact ⟨k', _, _, _, h2, hk'⟩
end
end Go.Proofs.YtalibicpmfbieaaGreatDoor
