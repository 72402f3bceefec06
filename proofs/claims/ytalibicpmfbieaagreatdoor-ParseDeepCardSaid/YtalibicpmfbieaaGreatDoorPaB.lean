/- A chain of names with operators between: the parser's tree of it. -/
import Derived.Test.YtalibicpmfbieaaGreatDoorPaA
namespace Go.Proofs.YtalibicpmfbieaaGreatDoor
open Go.AE
set_option linter.unusedVariables false
set_option linter.unusedSimpArgs false
def Nm (x : List UInt8) (a b e : Int) : D := .agg [.int .i64 2, .int .i64 a, .int .i64 b, .int .i64 e, .str x, .lst 6 []]
/-- A tree of names and operators. -/
inductive BT where
  | nm (x : List UInt8)
  | bn (o : List UInt8) (l r : BT)
theorem lv_short : (lvT.all fun s => decide (s.length ≤ 100)) = true := by kernel_rfl
theorem lv_len (s : List UInt8) (h : s ∈ lvT) : s.length ≤ 100 := of_decide_eq_true (List.all_eq_true.1 lv_short s h)
abbrev Pairs := List (List UInt8 × List UInt8)
/-- The words that the document gives to a name and what stands behind it. -/
inductive Bd : List UInt8 → Pairs → List (List UInt8) → Prop
  | one (x : List UInt8) : Bd x [] [x]
  | split {x : List UInt8} {q1 : Pairs} {o y : List UInt8} {q2 : Pairs} {w1 w2 : List (List UInt8)} : Bd x q1 w1 → Bd y q2 w2 → (∀ p ∈ q1, lvO o ≤ lvO p.1) → (∀ p ∈ q2, lvO o < lvO p.1) →
      Bd x (q1 ++ (o, y) :: q2) ((bif q1.isEmpty then w1 else [[40]] ++ w1 ++ [[41]]) ++ [o] ++ (bif q2.isEmpty then w2 else [[40]] ++ w2 ++ [[41]]))
def okN (t : List UInt8) : Bool := goodN t && !(t == [40]) && !(t == [123]) && !(t == [36, 115, 105, 103, 110, 101, 100]) && !(t == [36, 117, 110, 115, 105, 103, 110, 101, 100])
/-- Operators and names, one behind the other, and then a semicolon. -/
def PsAt (l : List D) : Nat → Pairs → Prop
  | i, [] => ∃ a b e, l[i]? = some (tk 3 [59] a b e)
  | i, (o, y) :: r => (∃ a b e, l[i]? = some (tk 3 o a b e)) ∧ (∃ a b e, l[i + 1]? = some (tk 1 y a b e)) ∧ o ∈ opsT ∧ okN y = true ∧ PsAt l (i + 2) r
theorem op_no : (opsT.all fun o => !(o == [91]) && !(o == [40]) && !(o == [63]) && !(o == [94, 126])) = true := by kernel_rfl
/-- What comes next is neither a bracket nor a question. -/
theorem PsAt.next {l : List D} {i : Nat} {ps : Pairs} (h : PsAt l i ps) : ∃ t a b e, l[i]? = some (tk 3 t a b e) ∧ (t == [91]) = false ∧ (t == [40]) = false ∧ (t == [63]) = false := by
  match ps, h with
  | [], ⟨a, b, e, h⟩ => exact ⟨_, a, b, e, h, rfl, rfl, rfl⟩
  | (o, y) :: r, ⟨⟨a, b, e, h⟩, _, ho, _⟩ =>
    have := List.all_eq_true.1 op_no o ho
    simp only [Bool.and_eq_true, Bool.not_eq_true'] at this
    exact ⟨o, a, b, e, h, this.1.1.1, this.1.1.2, this.1.2⟩
section
variable {l : List D} {d c p0 p1 p2 : Int} (hl : l.length ≤ 1000000)
include hl
theorem left_ev {i : Nat} {t t2 : List UInt8} {k2 a b e a2 b2 e2 : Int} (h : l[i]? = some (tk 1 t a b e)) (hg : goodN t = true) (h2 : l[i + 1]? = some (tk k2 t2 a2 b2 e2)) (hb : (t2 == [91]) = false) :
    Ev (fun n => parse_parser_left n (.lst 5 l) (.int .i64 (i : Int)) (.int .i64 d) (.int .i64 c) (.int .i64 p0) (.int .i64 p1) (.int .i64 p2) (.int .i64 0)) fun r => r = (true, [Nm t a b e, .lst 5 l, .int .i64 ((i + 1 : Nat) : Int), .int .i64 d, .int .i64 c, .int .i64 p0, .int .i64 p1, .int .i64 p2, .int .i64 0]) := by
  refine Ev.eq (fun n => parse_parser_left_eq n l i d c p0 p1 p2 0) (Ev.bindC (now_ev h) ?_)
  intro _ ds h0; cases h0; refine ⟨rfl, Ev.yes rfl (Ev.bindC (name_ev hl h hg) ?_)⟩
  intro _ ds h0; cases h0; refine ⟨rfl, Ev.yes rfl (Ev.bindC (take_no h2 (by rw [hb]; rfl)) ?_)⟩
  intro _ ds h0; cases h0; exact ⟨rfl, Ev.yes rfl (Ev.yes rfl (Ev.ret rfl))⟩
theorem one_ev {i : Nat} {t t2 : List UInt8} {k2 a b e a2 b2 e2 : Int} (h : l[i]? = some (tk 1 t a b e)) (hg : okN t = true) (h2 : l[i + 1]? = some (tk k2 t2 a2 b2 e2)) (hb : (t2 == [91]) = false) (hb2 : (t2 == [40]) = false) :
    Ev (fun n => parse_parser_one n (.lst 5 l) (.int .i64 (i : Int)) (.int .i64 d) (.int .i64 c) (.int .i64 p0) (.int .i64 p1) (.int .i64 p2) (.int .i64 0)) fun r => r = (true, [Nm t a b e, .lst 5 l, .int .i64 ((i + 1 : Nat) : Int), .int .i64 d, .int .i64 c, .int .i64 p0, .int .i64 p1, .int .i64 p2, .int .i64 0]) := by
  simp only [okN, Bool.and_eq_true, Bool.not_eq_true'] at hg
  obtain ⟨⟨⟨⟨g1, g2⟩, g3⟩, g4⟩, g5⟩ := hg
  refine Ev.eq (fun n => parse_parser_one_eq n l i d c p0 p1 p2 0) (Ev.bindC (now_ev h) ?_)
  intro _ ds h0; cases h0; refine ⟨rfl, Ev.yes rfl (Ev.no rfl (Ev.bindC (take_no h (by rw [g2]; rfl)) ?_))⟩
  intro _ ds h0; cases h0; refine ⟨rfl, Ev.yes rfl (Ev.no rfl (Ev.bindC (take_no h (by rw [g3]; rfl)) ?_))⟩
  intro _ ds h0; cases h0; refine ⟨rfl, Ev.yes rfl (Ev.no rfl (Ev.bindC (is_ev _ h) ?_))⟩
  intro _ ds h0; cases h0; refine ⟨rfl, Ev.yes rfl (Ev.no (by show (_ && _) = false; rw [g4]; rfl) (Ev.bindC (is_ev _ h) ?_))⟩
  intro _ ds h0; cases h0; refine ⟨rfl, Ev.yes rfl (Ev.no (by show (_ && _) = false; rw [g5]; rfl) (Ev.bindC (left_ev hl h g1 h2 hb) ?_))⟩
  intro _ ds h0; cases h0; refine ⟨rfl, Ev.yes rfl (Ev.yes rfl (Ev.bindC (is_ev [40] h2) ?_))⟩
  intro _ ds h0; cases h0; refine ⟨rfl, Ev.yes rfl (evDf (fun n => parse_parser_one_j1_def n _ _ _ _ _ _ _ _ _ _ _) (Ev.no (by show (_ && _) = false; rw [hb2]; rfl) (Ev.ret rfl)))⟩
end
end Go.Proofs.YtalibicpmfbieaaGreatDoor
