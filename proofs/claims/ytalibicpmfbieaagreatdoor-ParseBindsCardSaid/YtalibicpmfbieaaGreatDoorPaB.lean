/- A chain of names with operators between: the parser's tree of it. -/
import Derived.Test.YtalibicpmfbieaaGreatDoorPaA
namespace Go.Proofs.YtalibicpmfbieaaGreatDoor
open Go.AE
set_option linter.unusedVariables false
set_option linter.unusedSimpArgs false
def Nm (x : List UInt8) (a b e : Int) : D := .agg [.int .i64 2, .int .i64 a, .int .i64 b, .int .i64 e, .str x, .lst 6 []]
def Bn (o : List UInt8) (x y : D) (a b e : Int) : D := .agg [.int .i64 4, .int .i64 a, .int .i64 b, .int .i64 e, .str o, .lst 6 [x, y]]
/-- A tree of names and operators. -/
inductive BT where
  | nm (x : List UInt8)
  | bn (o : List UInt8) (l r : BT)
def BT.isN : BT → Bool
  | .nm _ => true
  | .bn _ _ _ => false
def Rep : BT → D → Prop
  | .nm x, y => ∃ a b e, y = Nm x a b e
  | .bn o l r, y => ∃ a b e u v, y = Bn o u v a b e ∧ Rep l u ∧ Rep r v
def wB : BT → List (List UInt8)
  | .nm x => [x]
  | .bn o l r => (bif l.isN then wB l else [[40]] ++ wB l ++ [[41]]) ++ [o] ++ (bif r.isN then wB r else [[40]] ++ wB r ++ [[41]])
theorem Rep_typ {t : BT} {y : D} (h : Rep t y) : expTy ty_iiiisl6 y = y ∧ okTy ty_iiiisl6 y = true := by
  cases t with
  | nm x => obtain ⟨a, b, e, rfl⟩ := h; exact ⟨rfl, rfl⟩
  | bn o l r => obtain ⟨a, b, e, u, v, rfl, _⟩ := h; exact ⟨rfl, rfl⟩
theorem Rep_form {t : BT} {y : D} (h : Rep t y) : ∃ v0 v1 v2 v3 vt vs, y = .agg [.int .i64 v0, .int .i64 v1, .int .i64 v2, .int .i64 v3, .str vt, .lst 6 vs] := by
  cases t with
  | nm x => obtain ⟨a, b, e, rfl⟩ := h; exact ⟨_, _, _, _, _, _, rfl⟩
  | bn o l r => obtain ⟨a, b, e, u, v, rfl, _⟩ := h; exact ⟨_, _, _, _, _, _, rfl⟩
theorem lv_short : (lvT.all fun s => decide (s.length ≤ 100)) = true := by kernel_rfl
theorem lv_len (s : List UInt8) (h : s ∈ lvT) : s.length ≤ 100 := of_decide_eq_true (List.all_eq_true.1 lv_short s h)
abbrev Pairs := List (List UInt8 × List UInt8)
/-- The words that the document gives to a name and what stands behind it. -/
inductive Bd : List UInt8 → Pairs → List (List UInt8) → Prop
  | one (x : List UInt8) : Bd x [] [x]
  | split {x : List UInt8} {q1 : Pairs} {o y : List UInt8} {q2 : Pairs} {w1 w2 : List (List UInt8)} : Bd x q1 w1 → Bd y q2 w2 → (∀ p ∈ q1, lvO o ≤ lvO p.1) → (∀ p ∈ q2, lvO o < lvO p.1) →
      Bd x (q1 ++ (o, y) :: q2) ((bif q1.isEmpty then w1 else [[40]] ++ w1 ++ [[41]]) ++ [o] ++ (bif q2.isEmpty then w2 else [[40]] ++ w2 ++ [[41]]))
def okN (t : List UInt8) : Bool := goodN t && !(t == [40]) && !(t == [123]) && !(t == [36, 115, 105, 103, 110, 101, 100]) && !(t == [36, 117, 110, 115, 105, 103, 110, 101, 100])
/-- Operators and names, one behind the other, and then a semicolon. -/
def PsAt (l : List D) : Nat → Pairs → Prop
  | i, [] => ∃ a b e, l[i]? = some (tk 3 [59] a b e)
  | i, (o, y) :: r => (∃ a b e, l[i]? = some (tk 3 o a b e)) ∧ (∃ a b e, l[i + 1]? = some (tk 1 y a b e)) ∧ o ∈ opsT ∧ okN y = true ∧ PsAt l (i + 2) r
theorem op_no : (opsT.all fun o => !(o == [91]) && !(o == [40]) && !(o == [63]) && !(o == [94, 126])) = true := by kernel_rfl
theorem semi_no : ((List.range 10).all fun j => !decide (0 ≤ idxStr (([32] ++ [59]) ++ [32]) (lvT[j]?.getD []) 0)) = true := by kernel_rfl
theorem semi_is {j : Nat} (hj : j < 10) : decide (0 ≤ idxStr (([32] ++ [59]) ++ [32]) (lvT[j]?.getD []) 0) = false := by
  have := List.all_eq_true.1 semi_no j (List.mem_range.2 hj)
  simpa using this
theorem op_plain {o : List UInt8} (ho : o ∈ opsT) : Ev (fun n => parse_plain n (.str o)) fun r => r = (true, [.str o]) := by
  have := List.all_eq_true.1 op_no o ho
  simp only [Bool.and_eq_true, Bool.not_eq_true'] at this
  exact Ev.eq (fun n => parse_plain_eq n o) (Ev.no this.2 (Ev.ret rfl))
/-- What comes next is neither a bracket nor a question. -/
theorem PsAt.next {l : List D} {i : Nat} {ps : Pairs} (h : PsAt l i ps) : ∃ t a b e, l[i]? = some (tk 3 t a b e) ∧ (t == [91]) = false ∧ (t == [40]) = false ∧ (t == [63]) = false := by
  match ps, h with
  | [], ⟨a, b, e, h⟩ => exact ⟨_, a, b, e, h, rfl, rfl, rfl⟩
  | (o, y) :: r, ⟨⟨a, b, e, h⟩, _, ho, _⟩ =>
    have := List.all_eq_true.1 op_no o ho
    simp only [Bool.and_eq_true, Bool.not_eq_true'] at this
    exact ⟨o, a, b, e, h, this.1.1.1, this.1.1.2, this.1.2⟩
section
variable {l : List D} {d c p0 p1 p2 : Int} (hl : l.length ≤ 1000000)
include hl
theorem left_ev {i : Nat} {t t2 : List UInt8} {k2 a b e a2 b2 e2 : Int} (h : l[i]? = some (tk 1 t a b e)) (hg : goodN t = true) (h2 : l[i + 1]? = some (tk k2 t2 a2 b2 e2)) (hb : (t2 == [91]) = false) :
    Ev (fun n => parse_parser_left n (.lst 5 l) (.int .i64 (i : Int)) (.int .i64 d) (.int .i64 c) (.int .i64 p0) (.int .i64 p1) (.int .i64 p2) (.int .i64 0)) fun r => r = (true, [Nm t a b e, .lst 5 l, .int .i64 ((i + 1 : Nat) : Int), .int .i64 d, .int .i64 c, .int .i64 p0, .int .i64 p1, .int .i64 p2, .int .i64 0]) := by
  refine Ev.eq (fun n => parse_parser_left_eq n l i d c p0 p1 p2 0) (Ev.bindC (now_ev h) ?_)
  intro _ ds h0; cases h0; refine ⟨rfl, Ev.yes rfl (Ev.bindC (name_ev hl h hg) ?_)⟩
  intro _ ds h0; cases h0; refine ⟨rfl, Ev.yes rfl (Ev.bindC (take_no h2 (by rw [hb]; rfl)) ?_)⟩
  intro _ ds h0; cases h0; exact ⟨rfl, Ev.yes rfl (Ev.yes rfl (Ev.ret rfl))⟩
theorem one_ev {i : Nat} {t t2 : List UInt8} {k2 a b e a2 b2 e2 : Int} (h : l[i]? = some (tk 1 t a b e)) (hg : okN t = true) (h2 : l[i + 1]? = some (tk k2 t2 a2 b2 e2)) (hb : (t2 == [91]) = false) (hb2 : (t2 == [40]) = false) :
    Ev (fun n => parse_parser_one n (.lst 5 l) (.int .i64 (i : Int)) (.int .i64 d) (.int .i64 c) (.int .i64 p0) (.int .i64 p1) (.int .i64 p2) (.int .i64 0)) fun r => r = (true, [Nm t a b e, .lst 5 l, .int .i64 ((i + 1 : Nat) : Int), .int .i64 d, .int .i64 c, .int .i64 p0, .int .i64 p1, .int .i64 p2, .int .i64 0]) := by
  simp only [okN, Bool.and_eq_true, Bool.not_eq_true'] at hg
  obtain ⟨⟨⟨⟨g1, g2⟩, g3⟩, g4⟩, g5⟩ := hg
  refine Ev.eq (fun n => parse_parser_one_eq n l i d c p0 p1 p2 0) (Ev.bindC (now_ev h) ?_)
  intro _ ds h0; cases h0; refine ⟨rfl, Ev.yes rfl (Ev.no rfl (Ev.bindC (take_no h (by rw [g2]; rfl)) ?_))⟩
  intro _ ds h0; cases h0; refine ⟨rfl, Ev.yes rfl (Ev.no rfl (Ev.bindC (take_no h (by rw [g3]; rfl)) ?_))⟩
  intro _ ds h0; cases h0; refine ⟨rfl, Ev.yes rfl (Ev.no rfl (Ev.bindC (is_ev _ h) ?_))⟩
  intro _ ds h0; cases h0; refine ⟨rfl, Ev.yes rfl (Ev.no (by show (_ && _) = false; rw [g4]; rfl) (Ev.bindC (is_ev _ h) ?_))⟩
  intro _ ds h0; cases h0; refine ⟨rfl, Ev.yes rfl (Ev.no (by show (_ && _) = false; rw [g5]; rfl) (Ev.bindC (left_ev hl h g1 h2 hb) ?_))⟩
  intro _ ds h0; cases h0; refine ⟨rfl, Ev.yes rfl (Ev.yes rfl (Ev.bindC (is_ev [40] h2) ?_))⟩
  intro _ ds h0; cases h0; refine ⟨rfl, Ev.yes rfl (evDf (fun n => parse_parser_one_j1_def n _ _ _ _ _ _ _ _ _ _ _) (Ev.no (by show (_ && _) = false; rw [hb2]; rfl) (Ev.ret rfl)))⟩
theorem unary_ev {i : Nat} {t t2 : List UInt8} {k2 a b e a2 b2 e2 : Int} (h : l[i]? = some (tk 1 t a b e)) (hg : okN t = true) (h2 : l[i + 1]? = some (tk k2 t2 a2 b2 e2)) (hb : (t2 == [91]) = false) (hb2 : (t2 == [40]) = false) :
    Ev (fun n => parse_parser_unary n (.lst 5 l) (.int .i64 (i : Int)) (.int .i64 d) (.int .i64 c) (.int .i64 p0) (.int .i64 p1) (.int .i64 p2) (.int .i64 0)) fun r => r = (true, [Nm t a b e, .lst 5 l, .int .i64 ((i + 1 : Nat) : Int), .int .i64 d, .int .i64 c, .int .i64 p0, .int .i64 p1, .int .i64 p2, .int .i64 0]) := by
  refine Ev.eq (fun n => parse_parser_unary_eq n l i d c p0 p1 p2 0) (Ev.bindC (now_ev h) ?_)
  intro _ ds h0; cases h0; refine ⟨rfl, Ev.yes rfl (Ev.yes rfl (evDf (fun n => parse_parser_unary_j1_def n _ _) (Ev.yes rfl (Ev.bindC (one_ev hl h hg h2 hb hb2) ?_))))⟩
  intro _ ds h0; cases h0; exact ⟨rfl, Ev.yes rfl (Ev.ret rfl)⟩
omit hl in
/-- What a level of operators makes of a chain: a tree of its first part, all of whose operators are of this level or tighter. -/
def LevP (l : List D) (d c p0 p1 p2 : Int) (j i : Nat) (x : List UInt8) (ps : Pairs) (r : Bool × List D) : Prop :=
  ∃ t y q1 ps2, ps = q1 ++ ps2 ∧ (∀ p ∈ q1, j ≤ lvO p.1) ∧ (∀ p r', ps2 = p :: r' → lvO p.1 < j) ∧ PsAt l (i + 1 + 2 * q1.length) ps2 ∧ r = (true, [y, .lst 5 l, .int .i64 ((i + 1 + 2 * q1.length : Nat) : Int), .int .i64 d, .int .i64 c, .int .i64 p0, .int .i64 p1, .int .i64 p2, .int .i64 0]) ∧ Rep t y ∧ Bd x q1 (wB t) ∧ t.isN = q1.isEmpty
omit hl in
def LoopP (l : List D) (d c p0 p1 p2 : Int) (j i : Nat) (x : List UInt8) (a b e : Int) (ps q0 : Pairs) (r : Bool × List D) : Prop :=
  ∃ u0 u1 u2 u3 su us t q1 ps2, ps = q1 ++ ps2 ∧ (∀ p ∈ q1, j ≤ lvO p.1) ∧ (∀ p r', ps2 = p :: r' → lvO p.1 < j) ∧ PsAt l (i + 2 * q1.length) ps2 ∧
    r = (false, [.int .i64 (j : Int), .lst 5 l, .int .i64 ((i + 2 * q1.length : Nat) : Int), .int .i64 d, .int .i64 c, .int .i64 p0, .int .i64 p1, .int .i64 p2, .int .i64 0, .int .i64 0, .int .i64 0, .int .i64 0, .int .i64 0, .str [], .int .i64 a, .int .i64 b, .int .i64 e, .int .i64 u0, .int .i64 u1, .int .i64 u2, .int .i64 u3, .str su, .lst 6 us, .lst 6 []]) ∧
    Rep t (.agg [.int .i64 u0, .int .i64 u1, .int .i64 u2, .int .i64 u3, .str su, .lst 6 us]) ∧ Bd x (q0 ++ q1) (wB t) ∧ t.isN = (q0 ++ q1).isEmpty
theorem lvLoop {j : Nat} (hj : j < 10) (hsub : ∀ (i : Nat) (x : List UInt8) (ps : Pairs) (a b e : Int), l[i]? = some (tk 1 x a b e) → okN x = true → PsAt l (i + 1) ps → Ev (fun n => parse_parser_level n (.int .i64 ((j + 1 : Nat) : Int)) (.lst 5 l) (.int .i64 (i : Int)) (.int .i64 d) (.int .i64 c) (.int .i64 p0) (.int .i64 p1) (.int .i64 p2) (.int .i64 0)) (LevP l d c p0 p1 p2 (j + 1) i x ps))
    (x : List UInt8) (a b e : Int) : ∀ (m : Nat) (ps : Pairs) (i : Nat) (k0 k1 k2 k3 : Int) (s0 : List UInt8) (xs0 : List D) (q0 : Pairs) (t0 : BT), ps.length ≤ m → PsAt l i ps → (∀ p r', ps = p :: r' → lvO p.1 ≤ j) → (∀ p ∈ q0, j ≤ lvO p.1) →
    Rep t0 (.agg [.int .i64 k0, .int .i64 k1, .int .i64 k2, .int .i64 k3, .str s0, .lst 6 xs0]) → Bd x q0 (wB t0) → t0.isN = q0.isEmpty →
    Ev (fun n => parse_parser_level_L0 n (.int .i64 (j : Int)) (.lst 5 l) (.int .i64 (i : Int)) (.int .i64 d) (.int .i64 c) (.int .i64 p0) (.int .i64 p1) (.int .i64 p2) (.int .i64 0) (.int .i64 0) (.int .i64 0) (.int .i64 0) (.int .i64 0) (.str []) (.int .i64 a) (.int .i64 b) (.int .i64 e) (.int .i64 k0) (.int .i64 k1) (.int .i64 k2) (.int .i64 k3) (.str s0) (.lst 6 xs0) (.lst 6 []))
      (LoopP l d c p0 p1 p2 j i x a b e ps q0) := by
  have hX : ((lvT.map D.str)[((j : Nat) : Int).toNat]?.getD D.top) = .str (lvT[j]?.getD []) := by
    rw [show ((j : Nat) : Int).toNat = j from rfl, List.getElem?_map, List.getElem?_eq_getElem (show j < lvT.length from hj)]; rfl
  have hXs : ((lvT.map D.str)[((j : Nat) : Int).toNat]?.getD D.top).s = lvT[j]?.getD [] := congrArg D.s hX
  have hXl : ((lvT.map D.str)[((j : Nat) : Int).toNat]?.getD D.top).s.length ≤ 4294967280 := by
    rw [hXs, List.getElem?_eq_getElem (show j < lvT.length from hj)]
    exact Nat.le_trans (lv_len _ (List.getElem_mem _)) (by decide)
  have start : ∀ (t : List UInt8) (a1 b1 e1 : Int) (i : Nat) (k0 k1 k2 k3 : Int) (s0 : List UInt8) (xs0 : List D) (Q : Bool × List D → Prop), l[i]? = some (tk 3 t a1 b1 e1) → t.length ≤ 3 →
      (∀ r1, r1 = [tk 3 t a1 b1 e1, .lst 5 l, .int .i64 (i : Int), .int .i64 d, .int .i64 c, .int .i64 p0, .int .i64 p1, .int .i64 p2, .int .i64 0] → Ev (fun n => parse_parser_level_L0_j1 n (!decide (0 ≤ idxStr (([32] ++ t) ++ [32]) (lvT[j]?.getD []) 0)) (j : Int) r1 0 0 0 0 [] a b e k0 k1 k2 k3 s0 xs0 []) Q) →
      Ev (fun n => parse_parser_level_L0 n (.int .i64 (j : Int)) (.lst 5 l) (.int .i64 (i : Int)) (.int .i64 d) (.int .i64 c) (.int .i64 p0) (.int .i64 p1) (.int .i64 p2) (.int .i64 0) (.int .i64 0) (.int .i64 0) (.int .i64 0) (.int .i64 0) (.str []) (.int .i64 a) (.int .i64 b) (.int .i64 e) (.int .i64 k0) (.int .i64 k1) (.int .i64 k2) (.int .i64 k3) (.str s0) (.lst 6 xs0) (.lst 6 [])) Q := by
    intro t a1 b1 e1 i k0 k1 k2 k3 s0 xs0 Q ht hlen K
    refine Ev.eq (fun n => parse_parser_level_L0_eq n _ l _ _ _ _ _ _ _ _ _ _ _ _ _ _ _ _ _ _ _ _ _ _) (Ev.yes rfl (Ev.bindC (now_ev ht) ?_))
    intro _ ds h0; cases h0
    refine ⟨rfl, Ev.yes rfl (Ev.no rfl (Ev.yes (and_tt (decide_eq_true (by omega)) (decide_eq_true (by omega))) (Ev.yes (by exact congrArg (fun x => notAny (.leaf .str) && okTy (.leaf .str) x) hX) (Ev.yes (decide_eq_true (by show 1 + t.length ≤ maxStr; simp only [maxStr]; omega)) (Ev.yes (decide_eq_true (by show ([32] ++ t).length + 1 ≤ maxStr; simp only [maxStr, List.length_append, List.length_singleton]; omega)) (Ev.bindC (contains_ev (s := ((lvT.map D.str)[((j : Nat) : Int).toNat]?.getD D.top).s) hXl (([32] ++ t) ++ [32])) ?_))))))⟩
    intro _ ds h0; cases h0
    refine ⟨rfl, Ev.yes rfl ?_⟩
    have := K _ rfl
    rw [← hXs] at this
    exact this
  have fin : ∀ (ps : Pairs) (i : Nat) (k0 k1 k2 k3 : Int) (s0 : List UInt8) (xs0 : List D) (q0 : Pairs) (t0 : BT), PsAt l i ps → (∀ p r', ps = p :: r' → lvO p.1 < j) →
      Rep t0 (.agg [.int .i64 k0, .int .i64 k1, .int .i64 k2, .int .i64 k3, .str s0, .lst 6 xs0]) → Bd x q0 (wB t0) → t0.isN = q0.isEmpty →
      Ev (fun n => parse_parser_level_L0 n (.int .i64 (j : Int)) (.lst 5 l) (.int .i64 (i : Int)) (.int .i64 d) (.int .i64 c) (.int .i64 p0) (.int .i64 p1) (.int .i64 p2) (.int .i64 0) (.int .i64 0) (.int .i64 0) (.int .i64 0) (.int .i64 0) (.str []) (.int .i64 a) (.int .i64 b) (.int .i64 e) (.int .i64 k0) (.int .i64 k1) (.int .i64 k2) (.int .i64 k3) (.str s0) (.lst 6 xs0) (.lst 6 [])) (LoopP l d c p0 p1 p2 j i x a b e ps q0) := by
    intro ps i k0 k1 k2 k3 s0 xs0 q0 t0 hps hlt hr hbd hn
    obtain ⟨t, a1, b1, e1, ht, hc, hlen⟩ : ∃ t a b e, l[i]? = some (tk 3 t a b e) ∧ decide (0 ≤ idxStr (([32] ++ t) ++ [32]) (lvT[j]?.getD []) 0) = false ∧ t.length ≤ 3 := by
      match ps, hps with
      | [], ⟨a, b, e, h⟩ => exact ⟨_, a, b, e, h, semi_is hj, by decide⟩
      | (o, y) :: r, ⟨⟨a, b, e, h⟩, _, ho, _⟩ =>
        refine ⟨o, a, b, e, h, ?_, op_len ho⟩
        rw [lv_is ho hj]
        have := hlt _ _ rfl
        exact beq_eq_false_iff_ne.2 (by show lvO o ≠ j; have : lvO o < j := this; omega)
    refine start t a1 b1 e1 i k0 k1 k2 k3 s0 xs0 _ ht hlen fun r1 hr1 => ?_
    rw [hc]
    subst hr1
    refine evDf (fun n => parse_parser_level_L0_j1_def n _ _ _ _ _ _ _ _ _ _ _ _ _ _ _ _ _ _) (Ev.yes rfl (Ev.ret ?_))
    exact ⟨k0, k1, k2, k3, s0, xs0, t0, [], ps, rfl, fun p h => (by cases h), hlt, hps, rfl, hr, by rw [List.append_nil]; exact hbd, by rw [List.append_nil]; exact hn⟩
  intro m
  induction m with
  | zero =>
    intro ps i k0 k1 k2 k3 s0 xs0 q0 t0 hm hps hle hq hr hbd hn
    have : ps = [] := List.eq_nil_of_length_eq_zero (by omega)
    subst this
    exact fin [] i k0 k1 k2 k3 s0 xs0 q0 t0 hps (fun p r' h => by cases h) hr hbd hn
  | succ m ih =>
    intro ps i k0 k1 k2 k3 s0 xs0 q0 t0 hm hps hle hq hr hbd hn
    match ps, hps with
    | [], hps => exact fin [] i k0 k1 k2 k3 s0 xs0 q0 t0 hps (fun p r' h => by cases h) hr hbd hn
    | (o, y) :: r, hps =>
      by_cases hlv : lvO o = j
      · obtain ⟨⟨a1, b1, e1, ho1⟩, ⟨a2, b2, e2, hy1⟩, ho, hy, hr2⟩ := hps
        refine start o a1 b1 e1 i k0 k1 k2 k3 s0 xs0 _ ho1 (op_len ho) fun r1 hr1 => ?_
        rw [lv_is ho hj, hlv, beq_self_eq_true]
        subst hr1
        have hil := lt_of hy1
        refine evDf (fun n => parse_parser_level_L0_j1_def n _ _ _ _ _ _ _ _ _ _ _ _ _ _ _ _ _ _) (Ev.no rfl (Ev.bindC (op_plain ho) ?_))
        intro _ ds h0; cases h0
        have hs := hsub (i + 1) y r a2 b2 e2 hy1 hy hr2
        rw [← wrap_succ (j := j) (by omega), ← wrap_succ (j := i) (by omega)] at hs
        refine ⟨rfl, Ev.yes rfl (Ev.bindC hs ?_)⟩
        rintro _ ds ⟨t2, y2, q2, ps3, hp, g1, g2, g3, h0, gr, gb, gn⟩
        cases h0
        obtain ⟨v0, v1, v2, v3, vt, vs, rfl⟩ := Rep_form gr
        subst hp
        refine ⟨rfl, Ev.yes rfl ?_⟩
        have nb : Bd x (q0 ++ (o, y) :: q2) (wB (.bn o t0 t2)) := by
          have := Bd.split hbd gb (fun p hp => by rw [hlv]; exact hq p hp) (fun p hp => by rw [hlv]; have := g1 p hp; omega)
          rw [← hn, ← gn] at this
          exact this
        refine (ih ps3 (i + 1 + 1 + 2 * q2.length) 4 a b e o [.agg [.int .i64 k0, .int .i64 k1, .int .i64 k2, .int .i64 k3, .str s0, .lst 6 xs0], .agg [.int .i64 v0, .int .i64 v1, .int .i64 v2, .int .i64 v3, .str vt, .lst 6 vs]] (q0 ++ (o, y) :: q2) (.bn o t0 t2) ?_ g3 (fun p r' h => by have := g2 p r' h; omega) ?_ ⟨a, b, e, _, _, rfl, hr, gr⟩ nb (by show false = (q0 ++ (o, y) :: q2).isEmpty; cases q0 <;> rfl)).mono fun r hr => ?_
        · simp only [List.length_cons, List.length_append] at hm; omega
        · intro p hp
          rcases List.mem_append.1 hp with hp | hp
          · exact hq p hp
          · rcases List.mem_cons.1 hp with rfl | hp
            · exact Nat.le_of_eq hlv.symm
            · have := g1 p hp; omega
        · obtain ⟨u0, u1, u2, u3, su, us, t, q3, ps4, f1, f2, f3, f4, f5, f6, f7, f8⟩ := hr
          have el : i + 1 + 1 + 2 * q2.length + 2 * q3.length = i + 2 * ((o, y) :: (q2 ++ q3)).length := by simp only [List.length_cons, List.length_append]; omega
          rw [el] at f4 f5
          have eq : q0 ++ (o, y) :: q2 ++ q3 = q0 ++ (o, y) :: (q2 ++ q3) := by simp
          rw [eq] at f7 f8
          refine ⟨u0, u1, u2, u3, su, us, t, (o, y) :: (q2 ++ q3), ps4, by rw [f1]; simp, fun p hp => ?_, f3, f4, f5, f6, f7, f8⟩
          rcases List.mem_cons.1 hp with rfl | hp
          · exact Nat.le_of_eq hlv.symm
          · rcases List.mem_append.1 hp with hp | hp
            · have := g1 p hp; omega
            · exact f2 p hp
      · refine fin _ i k0 k1 k2 k3 s0 xs0 q0 t0 hps (fun p r' h => ?_) hr hbd hn
        cases h
        have := hle _ _ rfl
        have : lvO o ≤ j := this
        show lvO o < j
        omega
theorem level_ev : ∀ (m j : Nat), j + m = 10 → ∀ (i : Nat) (x : List UInt8) (ps : Pairs) (a b e : Int), l[i]? = some (tk 1 x a b e) → okN x = true → PsAt l (i + 1) ps →
    Ev (fun n => parse_parser_level n (.int .i64 (j : Int)) (.lst 5 l) (.int .i64 (i : Int)) (.int .i64 d) (.int .i64 c) (.int .i64 p0) (.int .i64 p1) (.int .i64 p2) (.int .i64 0)) (LevP l d c p0 p1 p2 j i x ps) := by
  intro m
  induction m with
  | zero =>
    intro j hj i x ps a b e hx hok hps
    have : j = 10 := by omega
    subst this
    obtain ⟨t2, a2, b2, e2, h2, n1, n2, _⟩ := hps.next
    refine Ev.eq (fun n => parse_parser_level_eq n 10 l i d c p0 p1 p2 0) (Ev.yes rfl (Ev.bindC (unary_ev hl hx hok h2 n1 n2) ?_))
    intro _ ds h0; cases h0
    refine ⟨rfl, Ev.yes rfl (Ev.ret ⟨.nm x, _, [], ps, rfl, fun p h => (by cases h), fun p r' h => ?_, hps, rfl, ⟨a, b, e, rfl⟩, .one x, rfl⟩)⟩
    subst h
    have := lvO_le hps.2.2.1
    omega
  | succ m ih =>
    intro j hj i x ps a b e hx hok hps
    have hj10 : j < 10 := by omega
    have hs := ih (j + 1) (by omega) i x ps a b e hx hok hps
    rw [← wrap_succ (j := j) (by omega)] at hs
    refine Ev.eq (fun n => parse_parser_level_eq n _ l i d c p0 p1 p2 0) (Ev.no (by show (((j : Nat) : Int) == 10) = false; exact beq_eq_false_iff_ne.2 (by omega)) (Ev.bindC (now_ev hx) ?_))
    intro _ ds h0; cases h0
    refine ⟨rfl, Ev.yes rfl (Ev.bindC hs ?_)⟩
    rintro _ ds ⟨t2, y2, q2, ps3, hp, g1, g2, g3, h0, gr, gb, gn⟩
    cases h0
    obtain ⟨v0, v1, v2, v3, vt, vs, rfl⟩ := Rep_form gr
    refine ⟨rfl, Ev.yes rfl (Ev.bindL (lvLoop hl hj10 (fun i x ps a b e h1 h2 h3 => ih (j + 1) (by omega) i x ps a b e h1 h2 h3) x a b e ps3.length ps3 (i + 1 + 2 * q2.length) v0 v1 v2 v3 vt vs q2 t2 (Nat.le_refl _) g3 (fun p r' h => by have := g2 p r' h; omega) (fun p hp => by have := g1 p hp; omega) gr gb gn) (fun ds h => by obtain ⟨_, _, _, _, _, _, _, _, _, _, _, _, _, h, _⟩ := h; cases h) fun ds h => ?_)⟩
    obtain ⟨u0, u1, u2, u3, su, us, t, q3, ps4, f1, f2, f3, f4, f5, f6, f7, f8⟩ := h
    cases f5
    have el : i + 1 + 2 * q2.length + 2 * q3.length = i + 1 + 2 * (q2 ++ q3).length := by simp only [List.length_append]; omega
    rw [el] at f4
    refine Ev.yes rfl (Ev.ret ⟨t, _, q2 ++ q3, ps4, by rw [hp, f1]; simp, fun p hq => ?_, f3, f4, ?_, f6, f7, f8⟩)
    · rcases List.mem_append.1 hq with hq | hq
      · have := g1 p hq; omega
      · exact f2 p hq
    · rw [← el]; rfl
/-- An expression up to a semicolon. -/
theorem expr_ev (hd : d < 39) (hd0 : 0 ≤ d) {i : Nat} {x : List UInt8} {ps : Pairs} {a b e : Int} (hx : l[i]? = some (tk 1 x a b e)) (hok : okN x = true) (hps : PsAt l (i + 1) ps) :
    Ev (fun n => parse_parser_expr n (.lst 5 l) (.int .i64 (i : Int)) (.int .i64 d) (.int .i64 c) (.int .i64 p0) (.int .i64 p1) (.int .i64 p2) (.int .i64 0)) fun r => ∃ t y, PsAt l (i + 1 + 2 * ps.length) [] ∧ r = (true, [y, .lst 5 l, .int .i64 ((i + 1 + 2 * ps.length : Nat) : Int), .int .i64 d, .int .i64 c, .int .i64 p0, .int .i64 p1, .int .i64 p2, .int .i64 0]) ∧ Rep t y ∧ Bd x ps (wB t) := by
  have w1 : IntKind.i64.wrap (d + 1) = d + 1 := wrap_id (by omega) (by omega)
  have w2 : IntKind.i64.wrap (d + 1 - 1) = d := by rw [wrap_id (by omega) (by omega)]; omega
  refine Ev.eq (fun n => parse_parser_expr_eq n l i d c p0 p1 p2 0) (Ev.bindC (now_ev hx) ?_)
  intro _ ds h0; cases h0
  refine ⟨rfl, Ev.yes rfl (Ev.bindC (Q := fun r => r = (true, [.bool true, .lst 5 l, .int .i64 (i : Int), .int .i64 (d + 1), .int .i64 c, .int .i64 p0, .int .i64 p1, .int .i64 p2, .int .i64 0])) (Ev.eq (fun n => parse_parser_in_eq n l i d c p0 p1 p2 0) (Ev.no (decide_eq_false (by rw [w1]; omega)) (Ev.ret (by rw [w1]; rfl)))) ?_)⟩
  intro _ ds h0; cases h0
  refine ⟨rfl, Ev.yes rfl (Ev.no rfl (Ev.bindC (level_ev hl 10 0 rfl i x ps a b e hx hok hps) ?_))⟩
  rintro _ ds ⟨t, y, q1, ps2, hp, g1, g2, g3, h0, gr, gb, gn⟩
  cases h0
  have : ps2 = [] := by
    cases ps2 with
    | nil => rfl
    | cons p r' => have := g2 p r' rfl; omega
  subst this
  rw [List.append_nil] at hp
  subst hp
  obtain ⟨t2, a2, b2, e2, h2, n1, n2, n3⟩ := g3.next
  obtain ⟨v0, v1, v2, v3, vt, vs, rfl⟩ := Rep_form gr
  refine ⟨rfl, Ev.yes rfl (Ev.bindC (take_no h2 (by rw [n3]; rfl)) ?_)⟩
  intro _ ds h0; cases h0
  refine ⟨rfl, Ev.yes rfl (Ev.yes rfl (Ev.bindC (Q := fun r => r = (true, [.lst 5 l, .int .i64 ((i + 1 + 2 * ps.length : Nat) : Int), .int .i64 d, .int .i64 c, .int .i64 p0, .int .i64 p1, .int .i64 p2, .int .i64 0])) (Ev.eq (fun n => parse_parser_out_eq n l _ (d + 1) c p0 p1 p2 0) (Ev.ret (by rw [w2]; rfl))) ?_))⟩
  intro _ ds h0; cases h0
  exact ⟨rfl, Ev.yes rfl (Ev.ret ⟨t, _, g3, rfl, gr, gb⟩)⟩
end
end Go.Proofs.YtalibicpmfbieaaGreatDoor
