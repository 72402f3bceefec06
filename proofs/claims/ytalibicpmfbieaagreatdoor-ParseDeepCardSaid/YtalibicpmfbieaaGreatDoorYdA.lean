/- The parser where no word comes next: behind the last one, or behind an error. -/
import Derived.Test.YtalibicpmfbieaaGreatDoorPxB
namespace Go.Proofs.YtalibicpmfbieaaGreatDoor
open Go.AE
set_option linter.unusedVariables false
set_option linter.unusedSimpArgs false
/-- Words alone. -/
def Tks (l : List D) : Prop := ∀ y ∈ l, ∃ (k : Int) (t : List UInt8) (a b g : Int), y = tk k t a b g
/-- No word comes next. -/
structure Dd (l : List D) (i : Nat) (e : Int) : Prop where
  tk : Tks l
  le : l.length ≤ 1000000
  dead : e ≠ 0 ∨ l.length ≤ i
def lastP (l : List D) : D := l[l.length - 1]?.getD (tk 0 [] 0 0 0)
/-- The first error stays; where there is none yet, it may become the one at the end. -/
def Fq (l : List D) (p0 p1 p2 e q0 q1 q2 f : Int) : Prop :=
  (e ≠ 0 → f = e ∧ q0 = p0 ∧ q1 = p1 ∧ q2 = p2) ∧ (e = 0 → f = 0 ∨ f = 6 ∧ q0 = ((lastP l).at_ 2).i ∧ q1 = ((lastP l).at_ 3).i ∧ q2 = ((lastP l).at_ 4).i)
section
variable {l : List D} {i : Nat} {e : Int}
theorem Fq.refl {p0 p1 p2 : Int} : Fq l p0 p1 p2 e p0 p1 p2 e := ⟨fun _ => ⟨rfl, rfl, rfl, rfl⟩, fun h => .inl h⟩
theorem Fq.trans {p0 p1 p2 q0 q1 q2 f s0 s1 s2 g : Int} (h : Fq l p0 p1 p2 e q0 q1 q2 f) (h' : Fq l q0 q1 q2 f s0 s1 s2 g) : Fq l p0 p1 p2 e s0 s1 s2 g := by
  refine ⟨fun he => ?_, fun he => ?_⟩
  · obtain ⟨rfl, rfl, rfl, rfl⟩ := h.1 he
    exact h'.1 he
  · rcases h.2 he with rfl | ⟨rfl, r0, r1, r2⟩
    · exact h'.2 rfl
    · obtain ⟨rfl, rfl, rfl, rfl⟩ := h'.1 (by decide)
      exact .inr ⟨rfl, r0, r1, r2⟩
theorem Dd.fq {p0 p1 p2 q0 q1 q2 f : Int} (h : Dd l i e) (hf : Fq l p0 p1 p2 e q0 q1 q2 f) : Dd l i f := by
  refine ⟨h.tk, h.le, ?_⟩
  by_cases he : e = 0
  · exact .inr (h.dead.resolve_left fun h => h he)
  · rw [(hf.1 he).1]; exact .inl he
def FW (l : List D) (i : Nat) (p0 p1 p2 e : Int) (r : Bool × List D) : Prop := ∃ d c q0 q1 q2 f : Int, Fq l p0 p1 p2 e q0 q1 q2 f ∧
  r = (true, [.lst 5 l, .int .i64 (i : Int), .int .i64 d, .int .i64 c, .int .i64 q0, .int .i64 q1, .int .i64 q2, .int .i64 f])
def F0 (l : List D) (i : Nat) (p0 p1 p2 e : Int) (r : Bool × List D) : Prop := ∃ d c q0 q1 q2 f : Int, Fq l p0 p1 p2 e q0 q1 q2 f ∧ f ≠ 0 ∧
  r = (true, [.lst 5 l, .int .i64 (i : Int), .int .i64 d, .int .i64 c, .int .i64 q0, .int .i64 q1, .int .i64 q2, .int .i64 f])
def F1 (R : D → Prop) (l : List D) (i : Nat) (p0 p1 p2 e : Int) (r : Bool × List D) : Prop := ∃ (y : D) (d c q0 q1 q2 f : Int), R y ∧ Fq l p0 p1 p2 e q0 q1 q2 f ∧ f ≠ 0 ∧
  r = (true, [y, .lst 5 l, .int .i64 (i : Int), .int .i64 d, .int .i64 c, .int .i64 q0, .int .i64 q1, .int .i64 q2, .int .i64 f])
theorem fail_z (a b g k i d c p0 p1 p2 : Int) : Ev (fun n => parse_parser_fail n (.agg [.int .i64 a, .int .i64 b, .int .i64 g]) (.int .i64 k) (.lst 5 l) (.int .i64 i) (.int .i64 d) (.int .i64 c) (.int .i64 p0) (.int .i64 p1) (.int .i64 p2) (.int .i64 0))
    fun r => r = (true, [.lst 5 l, .int .i64 i, .int .i64 d, .int .i64 c, .int .i64 a, .int .i64 b, .int .i64 g, .int .i64 k]) :=
  Ev.eq (fun n => parse_parser_fail_eq n a b g k l i d c p0 p1 p2 0) (Ev.yes rfl (Ev.ret rfl))
theorem fail_n (he : e ≠ 0) (a b g k i d c p0 p1 p2 : Int) : Ev (fun n => parse_parser_fail n (.agg [.int .i64 a, .int .i64 b, .int .i64 g]) (.int .i64 k) (.lst 5 l) (.int .i64 i) (.int .i64 d) (.int .i64 c) (.int .i64 p0) (.int .i64 p1) (.int .i64 p2) (.int .i64 e))
    fun r => r = (true, [.lst 5 l, .int .i64 i, .int .i64 d, .int .i64 c, .int .i64 p0, .int .i64 p1, .int .i64 p2, .int .i64 e]) :=
  Ev.eq (fun n => parse_parser_fail_eq n a b g k l i d c p0 p1 p2 e) (Ev.no (beq_eq_false_iff_ne.2 he) (Ev.ret rfl))
theorem d_now (h : Dd l i e) (d c p0 p1 p2 : Int) : Ev (fun n => parse_parser_now n (.lst 5 l) (.int .i64 (i : Int)) (.int .i64 d) (.int .i64 c) (.int .i64 p0) (.int .i64 p1) (.int .i64 p2) (.int .i64 e)) fun r => r = (true, [tk 0 [] 0 0 0, .lst 5 l, .int .i64 (i : Int), .int .i64 d, .int .i64 c, .int .i64 p0, .int .i64 p1, .int .i64 p2, .int .i64 e]) := by
  have J : Ev (fun n => parse_parser_now_j1 n true l i d c p0 p1 p2 e) fun r => r = (true, [tk 0 [] 0 0 0, .lst 5 l, .int .i64 (i : Int), .int .i64 d, .int .i64 c, .int .i64 p0, .int .i64 p1, .int .i64 p2, .int .i64 e]) := evDf (fun n => parse_parser_now_j1_def n _ _ _ _ _ _ _ _ _) (Ev.yes rfl (Ev.ret rfl))
  refine Ev.eq (fun n => parse_parser_now_eq n l i d c p0 p1 p2 e) (Ev.test (fun _ => J) fun he => ?_)
  have he : e = 0 := by simpa using he
  have hi := h.dead.resolve_left fun h => h he
  rw [show decide ((i : Int) ≥ (l.length : Int)) = true from decide_eq_true (by omega)]
  exact J
theorem d_is {w : List UInt8} (hw : ([] == w) = false) (h : Dd l i e) (d c p0 p1 p2 : Int) : Ev (fun n => parse_parser_is n (.str w) (.lst 5 l) (.int .i64 (i : Int)) (.int .i64 d) (.int .i64 c) (.int .i64 p0) (.int .i64 p1) (.int .i64 p2) (.int .i64 e)) fun r => r = (true, [.bool false, .lst 5 l, .int .i64 (i : Int), .int .i64 d, .int .i64 c, .int .i64 p0, .int .i64 p1, .int .i64 p2, .int .i64 e]) := by
  refine Ev.eq (fun n => parse_parser_is_eq n w l i d c p0 p1 p2 e) ?_
  (refine Ev.bindC (d_now h d c p0 p1 p2) ?_; (intro _ ds h0; cases h0; refine ⟨rfl, Ev.yes rfl ?_⟩))
  exact Ev.no hw (Ev.ret rfl)
theorem d_take {w : List UInt8} (hw : ([] == w) = false) (h : Dd l i e) (d c p0 p1 p2 : Int) : Ev (fun n => parse_parser_take n (.str w) (.lst 5 l) (.int .i64 (i : Int)) (.int .i64 d) (.int .i64 c) (.int .i64 p0) (.int .i64 p1) (.int .i64 p2) (.int .i64 e)) fun r => r = (true, [.bool false, .lst 5 l, .int .i64 (i : Int), .int .i64 d, .int .i64 c, .int .i64 p0, .int .i64 p1, .int .i64 p2, .int .i64 e]) := by
  refine Ev.eq (fun n => parse_parser_take_eq n w l i d c p0 p1 p2 e) (Ev.bindC (d_is hw h d c p0 p1 p2) ?_)
  (intro _ ds h0; cases h0; refine ⟨rfl, Ev.yes rfl ?_⟩)
  exact Ev.yes rfl (Ev.ret rfl)
theorem d_bad (h : Dd l i e) (d c p0 p1 p2 : Int) : Ev (fun n => parse_parser_bad n (.lst 5 l) (.int .i64 (i : Int)) (.int .i64 d) (.int .i64 c) (.int .i64 p0) (.int .i64 p1) (.int .i64 p2) (.int .i64 e)) (F0 l i p0 p1 p2 e) := by
  have hle := h.le
  refine Ev.eq (fun n => parse_parser_bad_eq n l i d c p0 p1 p2 e) ?_
  by_cases hi : i < l.length
  · have he : e ≠ 0 := h.dead.resolve_right (by omega)
    obtain ⟨k, t, a, b, g, hg⟩ := h.tk l[i] (List.getElem_mem hi)
    have hx : l[((i : Nat) : Int).toNat]?.getD D.top = tk k t a b g := by rw [get_nat hi, hg]
    refine Ev.yes (decide_eq_true (by omega)) (Ev.yes (in_range hi) ?_)
    rw [hx]
    refine Ev.yes rfl (Ev.yes rfl (Ev.bindC (fail_n he a b g 5 i d c p0 p1 p2) ?_))
    (intro _ ds h0; cases h0; refine ⟨rfl, Ev.yes rfl ?_⟩)
    exact Ev.ret ⟨d, c, p0, p1, p2, e, Fq.refl, he, rfl⟩
  · have J : ∀ a b g : Int, a = ((lastP l).at_ 2).i → b = ((lastP l).at_ 3).i → g = ((lastP l).at_ 4).i → Ev (fun n => parse_parser_bad_j1 n a b g l i d c p0 p1 p2 e) (F0 l i p0 p1 p2 e) := by
      intro a b g ha hb hg
      refine evDf (fun n => parse_parser_bad_j1_def n a b g l i d c p0 p1 p2 e) ?_
      by_cases he : e = 0
      · subst he
        refine Ev.bindC (fail_z a b g 6 i d c p0 p1 p2) ?_
        (intro _ ds h0; cases h0; refine ⟨rfl, Ev.yes rfl ?_⟩)
        exact Ev.ret ⟨d, c, a, b, g, 6, ⟨fun h => absurd rfl h, fun _ => .inr ⟨rfl, ha, hb, hg⟩⟩, by decide, rfl⟩
      · refine Ev.bindC (fail_n he a b g 6 i d c p0 p1 p2) ?_
        (intro _ ds h0; cases h0; refine ⟨rfl, Ev.yes rfl ?_⟩)
        exact Ev.ret ⟨d, c, p0, p1, p2, e, Fq.refl, he, rfl⟩
    refine Ev.no (decide_eq_false (by omega)) ?_
    by_cases hl : l.length = 0
    · have hl' : l = [] := List.length_eq_zero_iff.1 hl
      exact Ev.no (decide_eq_false (by omega)) (J 0 0 0 (by rw [hl']; rfl) (by rw [hl']; rfl) (by rw [hl']; rfl))
    · have hlt : l.length - 1 < l.length := by omega
      have hw : IntKind.i64.wrap ((l.length : Int) - 1) = ((l.length - 1 : Nat) : Int) := by rw [wrap_id (by omega) (by omega)]; omega
      obtain ⟨k, t, a, b, g, hg⟩ := h.tk l[l.length - 1] (List.getElem_mem hlt)
      have hx : l[((l.length - 1 : Nat) : Int).toNat]?.getD D.top = tk k t a b g := by rw [get_nat hlt, hg]
      have hL : lastP l = tk k t a b g := by unfold lastP; rw [List.getElem?_eq_getElem hlt, hg]; rfl
      refine Ev.yes (decide_eq_true (by omega)) ?_
      rw [hw]
      refine Ev.yes (in_range hlt) ?_
      rw [hx]
      exact Ev.yes rfl (Ev.yes rfl (J a b g (by rw [hL]; rfl) (by rw [hL]; rfl) (by rw [hL]; rfl)))
theorem d_want {w : List UInt8} (ws : List D) (hw : ([] == w) = false) (h : Dd l i e) (d c p0 p1 p2 : Int) : Ev (fun n => parse_parser_want n (.lst 1 (.str w :: ws)) (.lst 5 l) (.int .i64 (i : Int)) (.int .i64 d) (.int .i64 c) (.int .i64 p0) (.int .i64 p1) (.int .i64 p2) (.int .i64 e)) (F0 l i p0 p1 p2 e) := by
  have hL : Ev (fun n => parse_parser_want_L0 n (.lst 1 (.str w :: ws)) (.int .i64 ((D.str w :: ws).length : Int)) (.int .i64 0) (.lst 5 l) (.int .i64 (i : Int)) (.int .i64 d) (.int .i64 c) (.int .i64 p0) (.int .i64 p1) (.int .i64 p2) (.int .i64 e)) (F0 l i p0 p1 p2 e) := by
    refine Ev.eq (fun n => parse_parser_want_L0_eq n (.str w :: ws) ((D.str w :: ws).length : Int) 0 l i d c p0 p1 p2 e) (Ev.yes (decide_eq_true (by rw [List.length_cons]; omega)) (Ev.yes (in_range (j := 0) (by rw [List.length_cons]; omega)) (Ev.yes rfl (Ev.bindC (show Ev (fun n => parse_parser_take n (.str w) (.lst 5 l) (.int .i64 (i : Int)) (.int .i64 d) (.int .i64 c) (.int .i64 p0) (.int .i64 p1) (.int .i64 p2) (.int .i64 e)) _ from d_take hw h d c p0 p1 p2) ?_))))
    (intro _ ds h0; cases h0; refine ⟨rfl, Ev.yes rfl ?_⟩)
    refine Ev.yes rfl (Ev.bindC (d_bad h d c p0 p1 p2) ?_)
    have F := @Fq.refl l e p0 p1 p2
    rintro _ ds ⟨d, c, p0, p1, p2, e, F', he, h0⟩; cases h0
    exact ⟨rfl, Ev.yes rfl (Ev.ret ⟨d, c, p0, p1, p2, e, F.trans F', he, rfl⟩)⟩
  exact Ev.eq (fun n => parse_parser_want_eq n (.str w :: ws) l i d c p0 p1 p2 e) (Ev.bindL hL (fun _ h => h) fun _ h => by obtain ⟨_, _, _, _, _, _, _, _, h⟩ := h; cases h)
theorem d_isName (h : Dd l i e) (d c p0 p1 p2 : Int) : Ev (fun n => parse_parser_isName n (.lst 5 l) (.int .i64 (i : Int)) (.int .i64 d) (.int .i64 c) (.int .i64 p0) (.int .i64 p1) (.int .i64 p2) (.int .i64 e)) fun r => r = (true, [.bool false, .lst 5 l, .int .i64 (i : Int), .int .i64 d, .int .i64 c, .int .i64 p0, .int .i64 p1, .int .i64 p2, .int .i64 e]) := by
  refine Ev.eq (fun n => parse_parser_isName_eq n l i d c p0 p1 p2 e) ?_
  (refine Ev.bindC (d_now h d c p0 p1 p2) ?_; (intro _ ds h0; cases h0; refine ⟨rfl, Ev.yes rfl ?_⟩))
  exact Ev.no rfl (Ev.ret rfl)
theorem d_name (h : Dd l i e) (d c p0 p1 p2 : Int) : Ev (fun n => parse_parser_name n (.lst 5 l) (.int .i64 (i : Int)) (.int .i64 d) (.int .i64 c) (.int .i64 p0) (.int .i64 p1) (.int .i64 p2) (.int .i64 e)) (F1 (· = .str []) l i p0 p1 p2 e) := by
  have F := @Fq.refl l e p0 p1 p2
  refine Ev.eq (fun n => parse_parser_name_eq n l i d c p0 p1 p2 e) (Ev.bindC (d_isName h d c p0 p1 p2) ?_)
  (intro _ ds h0; cases h0; refine ⟨rfl, Ev.yes rfl ?_⟩)
  refine Ev.yes rfl ?_
  (refine Ev.bindC (d_bad h d c p0 p1 p2) ?_; rintro _ ds ⟨d, c, p0, p1, p2, e, F', he, h0⟩; cases h0; have h := h.fq F'; have F := F.trans F'; refine ⟨rfl, Ev.yes rfl ?_⟩)
  exact Ev.ret ⟨_, d, c, p0, p1, p2, e, rfl, F, he, rfl⟩
theorem d_out (h : Dd l i e) (d c p0 p1 p2 : Int) : Ev (fun n => parse_parser_out n (.lst 5 l) (.int .i64 (i : Int)) (.int .i64 d) (.int .i64 c) (.int .i64 p0) (.int .i64 p1) (.int .i64 p2) (.int .i64 e)) (FW l i p0 p1 p2 e) := by
  have _ := h
  exact Ev.eq (fun n => parse_parser_out_eq n l i d c p0 p1 p2 e) (Ev.ret ⟨_, c, p0, p1, p2, e, Fq.refl, rfl⟩)
end
end Go.Proofs.YtalibicpmfbieaaGreatDoor
