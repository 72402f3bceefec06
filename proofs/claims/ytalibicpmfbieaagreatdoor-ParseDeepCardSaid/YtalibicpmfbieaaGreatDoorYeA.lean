/- Expressions within too many parentheses: the error, and where. -/
import Derived.Test.YtalibicpmfbieaaGreatDoorPxI
import Derived.Test.YtalibicpmfbieaaGreatDoorYdB
namespace Go.Proofs.YtalibicpmfbieaaGreatDoor
open Go.AE
set_option linter.unusedVariables false
set_option linter.unusedSimpArgs false
section
variable {l : List D} (hl : l.length ≤ 1000000) (hT : Tks l) {j : Nat} {a b g : Int}
/-- From a place on, at a depth: the error 'too deep' at another place. -/
def Fz (F : PF) (l : List D) (i j : Nat) (a b g : Int) (d0 : Int) : Prop := ∀ c p0 p1 p2 : Int, Ev (fun n => F n (.lst 5 l) (.int .i64 (i : Int)) (.int .i64 d0) (.int .i64 c) (.int .i64 p0) (.int .i64 p1) (.int .i64 p2) (.int .i64 0)) fun r => ∃ (y : D) (d c : Int), IsE y ∧
  r = (true, [y, .lst 5 l, .int .i64 (j : Int), .int .i64 d, .int .i64 c, .int .i64 a, .int .i64 b, .int .i64 g, .int .i64 8])
include hl hT
theorem dd8 : Dd l j 8 := ⟨hT, hl, .inl (by decide)⟩
omit hl hT
theorem much_live {i : Nat} {k : Int} {t : List UInt8} (hi : l[i]? = some (tk k t a b g)) (x d c p0 p1 p2 : Int) : Ev (fun n => parse_parser_much n (.int .i64 x) (.lst 5 l) (.int .i64 (i : Int)) (.int .i64 d) (.int .i64 c) (.int .i64 p0) (.int .i64 p1) (.int .i64 p2) (.int .i64 0)) fun r => r = (true, [.lst 5 l, .int .i64 (i : Int), .int .i64 d, .int .i64 c, .int .i64 a, .int .i64 b, .int .i64 g, .int .i64 x]) := by
  have hlt := lt_of hi
  have hx : l[((i : Nat) : Int).toNat]?.getD D.top = tk k t a b g := by rw [Int.toNat_natCast, hi]; rfl
  refine Ev.eq (fun n => parse_parser_much_eq n x l i d c p0 p1 p2 0) (Ev.no (decide_eq_false (by omega)) (Ev.yes (in_range hlt) ?_))
  rw [hx]
  refine Ev.yes rfl (Ev.yes rfl (Ev.bindC (fail_z a b g x i d c p0 p1 p2) ?_))
  (intro _ ds h0; cases h0; refine ⟨rfl, Ev.yes rfl ?_⟩)
  exact Ev.ret rfl
include hl hT
theorem fz_expr0 {k : Int} {t : List UInt8} (hi : l[j]? = some (tk k t a b g)) : Fz expF l j j a b g 40 := by
  intro c p0 p1 p2
  have w : IntKind.i64.wrap (40 + 1) = 41 := by decide
  refine Ev.eq (fun n => parse_parser_expr_eq n l j 40 c p0 p1 p2 0) (Ev.bindC (now_ev (d := 40) (c := c) (p0 := p0) (p1 := p1) (p2 := p2) hi) ?_)
  (intro _ ds h0; cases h0; refine ⟨rfl, Ev.yes rfl ?_⟩)
  refine Ev.bindC (Q := fun r => r = (true, [.bool false, .lst 5 l, .int .i64 (j : Int), .int .i64 41, .int .i64 c, .int .i64 a, .int .i64 b, .int .i64 g, .int .i64 8])) (Ev.eq (fun n => parse_parser_in_eq n l j 40 c p0 p1 p2 0) ?_) ?_
  · rw [w]
    refine Ev.yes rfl (Ev.bindC (much_live hi 8 41 c p0 p1 p2) ?_)
    (intro _ ds h0; cases h0; refine ⟨rfl, Ev.yes rfl ?_⟩)
    exact Ev.ret rfl
  (intro _ ds h0; cases h0; refine ⟨rfl, Ev.yes rfl ?_⟩)
  refine Ev.yes rfl ?_
  (refine Ev.bindC (d_out (dd8 hl hT) 41 c a b g) ?_; rintro _ ds ⟨d, c, q0, q1, q2, f, F', h0⟩; cases h0; have F' := F'.1 (by decide); have e1 := F'.1.symm; have e2 := F'.2.1.symm; have e3 := F'.2.2.1.symm; have e4 := F'.2.2.2.symm; clear F'; subst e1 e2 e3 e4; refine ⟨rfl, Ev.yes rfl ?_⟩)
  exact Ev.ret ⟨_, d, c, ⟨_, _, _, _, _, _, rfl⟩, rfl⟩
theorem fz_one {i : Nat} {d0 : Int} (ho : ∃ a b e, l[i]? = some (tk 3 [40] a b e)) (H : Fz expF l (i + 1) j a b g d0) : Fz oneF l i j a b g d0 := by
  intro c p0 p1 p2
  obtain ⟨a1, b1, e1, ho⟩ := ho
  refine Ev.eq (fun n => parse_parser_one_eq n l i d0 c p0 p1 p2 0) (Ev.bindC (now_ev (d := d0) (c := c) (p0 := p0) (p1 := p1) (p2 := p2) ho) ?_)
  (intro _ ds h0; cases h0; refine ⟨rfl, Ev.yes rfl ?_⟩)
  refine Ev.no rfl (Ev.bindC (take_yes (d := d0) (c := c) (p0 := p0) (p1 := p1) (p2 := p2) hl ho rfl) ?_)
  (intro _ ds h0; cases h0; refine ⟨rfl, Ev.yes rfl ?_⟩)
  refine Ev.yes rfl (Ev.bindC (H c p0 p1 p2) ?_)
  (rintro _ ds ⟨y, d, c, hy, h0⟩; cases h0; obtain ⟨v0, v1, v2, v3, vt, vs, rfl⟩ := hy; refine ⟨rfl, Ev.yes rfl ?_⟩)
  (refine Ev.bindC (d_want (w := [41]) [] (by decide) (dd8 hl hT) d c a b g) ?_; rintro _ ds ⟨d, c, q0, q1, q2, f, F', he, h0⟩; cases h0; have F' := F'.1 (by decide); have e1 := F'.1.symm; have e2 := F'.2.1.symm; have e3 := F'.2.2.1.symm; have e4 := F'.2.2.2.symm; clear F'; subst e1 e2 e3 e4; refine ⟨rfl, Ev.yes rfl ?_⟩)
  exact Ev.ret ⟨_, d, c, ⟨_, _, _, _, _, _, rfl⟩, rfl⟩
theorem fz_unary {i : Nat} {d0 : Int} (ho : ∃ a b e, l[i]? = some (tk 3 [40] a b e)) (H : Fz oneF l i j a b g d0) : Fz unF l i j a b g d0 := by
  have _ := hl; have _ := hT
  intro c p0 p1 p2
  obtain ⟨a1, b1, e1, ho⟩ := ho
  unfold unF
  refine Ev.eq (fun n => parse_parser_unary_eq n l i d0 c p0 p1 p2 0) (Ev.bindC (now_ev (d := d0) (c := c) (p0 := p0) (p1 := p1) (p2 := p2) ho) ?_)
  (intro _ ds h0; cases h0; refine ⟨rfl, Ev.yes rfl ?_⟩)
  have hno : decide (0 ≤ idxStr (([32] ++ [40]) ++ [32]) unT2 0) = false := by
    have := List.all_eq_true.1 un_no [40] (by simp)
    simpa using this
  refine Ev.no rfl (Ev.yes rfl (Ev.yes rfl (Ev.bindC (contains_ev (s := unT2) unT2_len (([32] ++ [40]) ++ [32])) ?_)))
  (intro _ ds h0; cases h0; refine ⟨rfl, Ev.yes rfl ?_⟩)
  show Ev (fun n => parse_parser_unary_j1 n (!decide (0 ≤ idxStr (([32] ++ [40]) ++ [32]) unT2 0)) _) _
  rw [hno]
  refine evDf (fun n => parse_parser_unary_j1_def n _ _) (Ev.yes rfl (Ev.bindC (H c p0 p1 p2) ?_))
  (rintro _ ds ⟨y, d, c, hy, h0⟩; cases h0; obtain ⟨v0, v1, v2, v3, vt, vs, rfl⟩ := hy; refine ⟨rfl, Ev.yes rfl ?_⟩)
  exact Ev.ret ⟨_, d, c, ⟨_, _, _, _, _, _, rfl⟩, rfl⟩
theorem fz_level {i : Nat} {d0 : Int} (ho : ∃ a b e, l[i]? = some (tk 3 [40] a b e)) (H : Fz unF l i j a b g d0) : ∀ (q k : Nat), k + q = 10 → Fz (lvF k) l i j a b g d0
  | 0, k, hk => by
    have _ := hl; have _ := hT
    intro c p0 p1 p2
    unfold lvF
    refine Ev.eq (fun n => parse_parser_level_eq n k l i d0 c p0 p1 p2 0) (Ev.yes (by simp; omega) (Ev.bindC (H c p0 p1 p2) ?_))
    (rintro _ ds ⟨y, d, c, hy, h0⟩; cases h0; obtain ⟨v0, v1, v2, v3, vt, vs, rfl⟩ := hy; refine ⟨rfl, Ev.yes rfl ?_⟩)
    exact Ev.ret ⟨_, d, c, ⟨_, _, _, _, _, _, rfl⟩, rfl⟩
  | q + 1, k, hk => by
    intro c p0 p1 p2
    have I := fz_level ho H q (k + 1) (by omega) c p0 p1 p2
    unfold lvF at I ⊢
    rw [← wrap_succ (by omega)] at I
    obtain ⟨a1, b1, e1, ho⟩ := ho
    refine Ev.eq (fun n => parse_parser_level_eq n k l i d0 c p0 p1 p2 0) (Ev.no (beq_eq_false_iff_ne.2 (by omega)) (Ev.bindC (now_ev (d := d0) (c := c) (p0 := p0) (p1 := p1) (p2 := p2) ho) ?_))
    (intro _ ds h0; cases h0; refine ⟨rfl, Ev.yes rfl ?_⟩)
    refine Ev.bindC I ?_
    (rintro _ ds ⟨y, d, c, hy, h0⟩; cases h0; obtain ⟨v0, v1, v2, v3, vt, vs, rfl⟩ := hy; refine ⟨rfl, Ev.yes rfl ?_⟩)
    have L : Ev (fun n => parse_parser_level_L0 n (.int .i64 (k : Int)) (.lst 5 l) (.int .i64 (j : Int)) (.int .i64 d) (.int .i64 c) (.int .i64 a) (.int .i64 b) (.int .i64 g) (.int .i64 8) (.int .i64 0) (.int .i64 0) (.int .i64 0) (.int .i64 0) (.str []) (.int .i64 a1) (.int .i64 b1) (.int .i64 e1) (.int .i64 v0) (.int .i64 v1) (.int .i64 v2) (.int .i64 v3) (.str vt) (.lst 6 vs) (.lst 6 [])) fun r =>
        r = (false, [.int .i64 (k : Int), .lst 5 l, .int .i64 (j : Int), .int .i64 d, .int .i64 c, .int .i64 a, .int .i64 b, .int .i64 g, .int .i64 8, .int .i64 0, .int .i64 0, .int .i64 0, .int .i64 0, .str [], .int .i64 a1, .int .i64 b1, .int .i64 e1, .int .i64 v0, .int .i64 v1, .int .i64 v2, .int .i64 v3, .str vt, .lst 6 vs, .lst 6 []]) :=
      Ev.eq (fun n => parse_parser_level_L0_eq n k l j d c a b g 8 0 0 0 0 [] a1 b1 e1 v0 v1 v2 v3 vt vs []) (Ev.no rfl (Ev.ret rfl))
    refine Ev.bindL L (fun _ h => by cases h) fun _ h0 => ?_
    cases h0
    exact Ev.yes rfl (Ev.ret ⟨_, d, c, ⟨_, _, _, _, _, _, rfl⟩, rfl⟩)
theorem fz_expr {i : Nat} {d0 : Int} (hd : d0 < 40) (hd0 : 0 ≤ d0) (ho : ∃ a b e, l[i]? = some (tk 3 [40] a b e)) (H : Fz (lvF 0) l i j a b g (d0 + 1)) : Fz expF l i j a b g d0 := by
  intro c p0 p1 p2
  obtain ⟨a1, b1, e1, ho⟩ := ho
  refine Ev.eq (fun n => parse_parser_expr_eq n l i d0 c p0 p1 p2 0) (Ev.bindC (now_ev (d := d0) (c := c) (p0 := p0) (p1 := p1) (p2 := p2) ho) ?_)
  (intro _ ds h0; cases h0; refine ⟨rfl, Ev.yes rfl ?_⟩)
  refine Ev.bindC (in_ev (l := l) (d := d0) (c := c) (p0 := p0) (p1 := p1) (p2 := p2) (i : Int) hd hd0) ?_
  (intro _ ds h0; cases h0; refine ⟨rfl, Ev.yes rfl ?_⟩)
  refine Ev.no rfl (Ev.bindC (H c p0 p1 p2) ?_)
  (rintro _ ds ⟨y, d, c, hy, h0⟩; cases h0; obtain ⟨v0, v1, v2, v3, vt, vs, rfl⟩ := hy; refine ⟨rfl, Ev.yes rfl ?_⟩)
  refine Ev.bindC (d_take (w := [63]) (by decide) (dd8 hl hT) d c a b g) ?_
  (intro _ ds h0; cases h0; refine ⟨rfl, Ev.yes rfl ?_⟩)
  refine Ev.yes rfl ?_
  (refine Ev.bindC (d_out (dd8 hl hT) d c a b g) ?_; rintro _ ds ⟨d, c, q0, q1, q2, f, F', h0⟩; cases h0; have F' := F'.1 (by decide); have e1 := F'.1.symm; have e2 := F'.2.1.symm; have e3 := F'.2.2.1.symm; have e4 := F'.2.2.2.symm; clear F'; subst e1 e2 e3 e4; refine ⟨rfl, Ev.yes rfl ?_⟩)
  exact Ev.ret ⟨_, d, c, ⟨_, _, _, _, _, _, rfl⟩, rfl⟩
/-- So many parentheses as go too deep. -/
theorem fz_deep {k : Int} {t : List UInt8} (hi : l[j]? = some (tk k t a b g)) : ∀ (q i : Nat), i + q = j → q ≤ 40 → (∀ r, i ≤ r → r < j → ∃ a b e, l[r]? = some (tk 3 [40] a b e)) → Fz expF l i j a b g (40 - q)
  | 0, i, hij, _, _ => by
    have : i = j := by omega
    subst this
    exact fz_expr0 hl hT hi
  | q + 1, i, hij, hq, ho => by
    have I := fz_deep hi q (i + 1) (by omega) (by omega) fun r h1 h2 => ho r (by omega) h2
    have h0 := ho i (Nat.le_refl _) (by omega)
    have e : (40 - ((q + 1 : Nat) : Int)) + 1 = 40 - (q : Int) := by omega
    refine fz_expr hl hT (by omega) (by omega) h0 (fz_level hl hT h0 (fz_unary hl hT h0 (fz_one hl hT h0 ?_)) 10 0 rfl)
    rw [e]; exact I
theorem fz_item {i : Nat} {y : List UInt8} {a1 b1 e1 a2 b2 e2 a3 b3 e3 : Int}
    (h1 : l[i]? = some (tk 1 assT a1 b1 e1)) (h2 : l[i + 1]? = some (tk 1 y a2 b2 e2)) (hy : goodN y = true) (h3 : l[i + 2]? = some (tk 3 [61] a3 b3 e3)) (H : Fz expF l (i + 3) j a b g 1) (p0 p1 p2 : Int) :
    Ev (fun n => parse_parser_item n (.lst 5 l) (.int .i64 (i : Int)) (.int .i64 0) (.int .i64 0) (.int .i64 p0) (.int .i64 p1) (.int .i64 p2) (.int .i64 0)) fun r => ∃ (x : D) (d c : Int), r = (true, [.lst 5 l, .int .i64 (j : Int), .int .i64 d, .int .i64 c, .int .i64 a, .int .i64 b, .int .i64 g, .int .i64 8, .lst 14 [x]]) := by
  refine Ev.eq (fun n => parse_parser_item_eq n l i 0 0 p0 p1 p2 0) (Ev.bindC (in_ev (l := l) (d := 0) (c := 0) (p0 := p0) (p1 := p1) (p2 := p2) (i : Int) (by decide) (by decide)) ?_)
  (intro _ ds h0; cases h0; refine ⟨rfl, Ev.yes rfl ?_⟩)
  refine Ev.no rfl (Ev.bindC (counted_ev (l := l) (d := 1) (c := 0) (p0 := p0) (p1 := p1) (p2 := p2) (i : Int) (by decide) (by decide)) ?_)
  (intro _ ds h0; cases h0; refine ⟨rfl, Ev.yes rfl ?_⟩)
  refine Ev.bindC (now_ev (d := 1) (c := 1) (p0 := p0) (p1 := p1) (p2 := p2) h1) ?_
  (intro _ ds h0; cases h0; refine ⟨rfl, Ev.yes rfl ?_⟩)
  refine Ev.bindC (take_no (d := 1) (c := 1) (p0 := p0) (p1 := p1) (p2 := p2) h1 rfl) ?_
  (intro _ ds h0; cases h0; refine ⟨rfl, Ev.yes rfl ?_⟩)
  refine Ev.no rfl (Ev.bindC (take_no (d := 1) (c := 1) (p0 := p0) (p1 := p1) (p2 := p2) h1 rfl) ?_)
  (intro _ ds h0; cases h0; refine ⟨rfl, Ev.yes rfl ?_⟩)
  refine Ev.no rfl (Ev.bindC (take_no (d := 1) (c := 1) (p0 := p0) (p1 := p1) (p2 := p2) h1 rfl) ?_)
  (intro _ ds h0; cases h0; refine ⟨rfl, Ev.yes rfl ?_⟩)
  refine evDf (fun n => parse_parser_item_j1_def n _ _ _ _ _ _ _ _ _ _ _) (Ev.no rfl (Ev.bindC (take_no (d := 1) (c := 1) (p0 := p0) (p1 := p1) (p2 := p2) h1 rfl) ?_))
  (intro _ ds h0; cases h0; refine ⟨rfl, Ev.yes rfl ?_⟩)
  refine Ev.no rfl (Ev.bindC (take_no (d := 1) (c := 1) (p0 := p0) (p1 := p1) (p2 := p2) h1 rfl) ?_)
  (intro _ ds h0; cases h0; refine ⟨rfl, Ev.yes rfl ?_⟩)
  refine Ev.no rfl (Ev.bindC (take_yes (d := 1) (c := 1) (p0 := p0) (p1 := p1) (p2 := p2) hl h1 rfl) ?_)
  (intro _ ds h0; cases h0; refine ⟨rfl, Ev.yes rfl ?_⟩)
  refine Ev.yes rfl (Ev.bindC (left_ev (d := 1) (c := 1) (p0 := p0) (p1 := p1) (p2 := p2) hl h2 hy h3 rfl) ?_)
  (intro _ ds h0; cases h0; refine ⟨rfl, Ev.yes rfl ?_⟩)
  refine Ev.bindC (want_ev (d := 1) (c := 1) (p0 := p0) (p1 := p1) (p2 := p2) hl [[61]] (by decide) (word_at h3 rfl)) ?_
  (intro _ ds h0; cases h0; refine ⟨rfl, Ev.yes rfl ?_⟩)
  refine Ev.bindC (H 1 p0 p1 p2) ?_
  (rintro _ ds ⟨y, d, c, hy, h0⟩; cases h0; obtain ⟨v0, v1, v2, v3, vt, vs, rfl⟩ := hy; refine ⟨rfl, Ev.yes rfl ?_⟩)
  (refine Ev.bindC (d_want (w := [59]) [] (by decide) (dd8 hl hT) d c a b g) ?_; rintro _ ds ⟨d, c, q0, q1, q2, f, F', he, h0⟩; cases h0; have F' := F'.1 (by decide); have e1 := F'.1.symm; have e2 := F'.2.1.symm; have e3 := F'.2.2.1.symm; have e4 := F'.2.2.2.symm; clear F'; subst e1 e2 e3 e4; refine ⟨rfl, Ev.yes rfl ?_⟩)
  refine evDf (fun n => parse_parser_item_j2_def n _ _ _ _ _ _ _ _ _) ?_
  (refine Ev.bindC (d_out (dd8 hl hT) d c a b g) ?_; rintro _ ds ⟨d, c, q0, q1, q2, f, F', h0⟩; cases h0; have F' := F'.1 (by decide); have e1 := F'.1.symm; have e2 := F'.2.1.symm; have e3 := F'.2.2.1.symm; have e4 := F'.2.2.2.symm; clear F'; subst e1 e2 e3 e4; refine ⟨rfl, Ev.yes rfl ?_⟩)
  exact Ev.ret ⟨_, d, c, rfl⟩
theorem fz_module {m y : List UInt8} {a1 b1 e1 a2 b2 e2 a3 b3 e3 a7 b7 e7 a8 b8 e8 a9 b9 e9 a10 b10 e10 a11 b11 e11 : Int}
    (g1 : l[0]? = some (tk 1 modT a7 b7 e7)) (g2 : l[0 + 1]? = some (tk 1 m a8 b8 e8)) (hm : goodN m = true) (g3 : l[0 + 2]? = some (tk 3 [40] a9 b9 e9)) (g4 : l[0 + 3]? = some (tk 3 [41] a10 b10 e10)) (g5 : l[0 + 4]? = some (tk 3 [59] a11 b11 e11))
    (h1 : l[0 + 5]? = some (tk 1 assT a1 b1 e1)) (h2 : l[0 + 5 + 1]? = some (tk 1 y a2 b2 e2)) (hy : goodN y = true) (h3 : l[0 + 5 + 2]? = some (tk 3 [61] a3 b3 e3)) (H : Fz expF l (0 + 5 + 3) j a b g 1) :
    Ev (fun n => parse_parser_module n (.lst 5 l) (.int .i64 ((0 : Nat) : Int)) (.int .i64 0) (.int .i64 0) (.int .i64 0) (.int .i64 0) (.int .i64 0) (.int .i64 0)) fun r => ∃ (x : D) (d c : Int), r = (true, [.agg [.str m, .int .i64 a7, .int .i64 b7, .int .i64 e7, .lst 14 [], .lst 14 [], .lst 14 [x]], .lst 5 l, .int .i64 (j : Int), .int .i64 d, .int .i64 c, .int .i64 a, .int .i64 b, .int .i64 g, .int .i64 8]) := by
  have I := fz_item hl hT h1 h2 hy h3 H 0 0 0
  refine Ev.eq (fun n => parse_parser_module_eq n l _ 0 0 0 0 0 0) (Ev.bindC (now_ev (d := 0) (c := 0) (p0 := 0) (p1 := 0) (p2 := 0) g1) ?_)
  (intro _ ds h0; cases h0; refine ⟨rfl, Ev.yes rfl ?_⟩)
  refine Ev.bindC (want_ev (d := 0) (c := 0) (p0 := 0) (p1 := 0) (p2 := 0) hl [modT] (by decide) (word_at g1 rfl)) ?_
  (intro _ ds h0; cases h0; refine ⟨rfl, Ev.yes rfl ?_⟩)
  refine Ev.bindC (name_ev (d := 0) (c := 0) (p0 := 0) (p1 := 0) (p2 := 0) hl g2 hm) ?_
  (intro _ ds h0; cases h0; refine ⟨rfl, Ev.yes rfl ?_⟩)
  refine Ev.bindC (take_no (d := 0) (c := 0) (p0 := 0) (p1 := 0) (p2 := 0) g3 rfl) ?_
  (intro _ ds h0; cases h0; refine ⟨rfl, Ev.yes rfl ?_⟩)
  refine Ev.no rfl (evDf (fun n => parse_parser_module_j1_def n _ _ _ _ _ _ _ _ _ _ _ _ _ _ _ _ _ _ _ _ _ _) (Ev.bindC (want_ev (d := 0) (c := 0) (p0 := 0) (p1 := 0) (p2 := 0) hl [[40]] (by decide) (word_at g3 rfl)) ?_))
  (intro _ ds h0; cases h0; refine ⟨rfl, Ev.yes rfl ?_⟩)
  refine Ev.bindL (modL2_none g4) (fun ds h => by cases h) fun ds h => ?_
  cases h
  refine Ev.yes rfl (Ev.bindC (want_ev (d := 0) (c := 0) (p0 := 0) (p1 := 0) (p2 := 0) hl [[41], [59]] (by decide) (words_2 g4 g5 rfl rfl)) ?_)
  (intro _ ds h0; cases h0; refine ⟨rfl, Ev.yes rfl ?_⟩)
  refine Ev.bindC (Q := fun r => ∃ (x : D) (d c : Int), r = (true, [.lst 5 l, .int .i64 (j : Int), .int .i64 d, .int .i64 c, .int .i64 a, .int .i64 b, .int .i64 g, .int .i64 8, .lst 14 [x]])) ?_ ?_
  · refine Ev.eq (fun n => parse_parser_items_eq n endT l _ 0 0 0 0 0 0) (Ev.bindL (Q := fun r => ∃ (x : D) (d c : Int), r = (false, [.str endT, .lst 5 l, .int .i64 (j : Int), .int .i64 d, .int .i64 c, .int .i64 a, .int .i64 b, .int .i64 g, .int .i64 8, .lst 14 [x]])) ?_ (fun ds h => by obtain ⟨_, _, _, h⟩ := h; cases h) fun ds h => ?_)
    · refine Ev.eq (fun n => parse_parser_items_L0_eq n endT l ((0 + 5 : Nat) : Int) 0 0 0 0 0 0 []) (Ev.yes rfl (Ev.bindC (take_no (d := 0) (c := 0) (p0 := 0) (p1 := 0) (p2 := 0) h1 rfl) ?_))
      (intro _ ds h0; cases h0; refine ⟨rfl, Ev.yes rfl ?_⟩)
      refine evDf (fun n => parse_parser_items_L0_j1_def n _ _ _ _ _ _ _ _ _ _ _) (Ev.yes rfl (Ev.bindC I ?_))
      rintro _ ds ⟨x, d, c, h0⟩; cases h0
      exact ⟨rfl, Ev.yes rfl (Ev.yes rfl (Ev.eq (fun n => parse_parser_items_L0_eq n _ _ _ _ _ _ _ _ _ _) (Ev.no rfl (evDf (fun n => parse_parser_items_L0_j1_def n _ _ _ _ _ _ _ _ _ _ _) (Ev.no rfl (Ev.ret ⟨_, d, c, rfl⟩))))))⟩
    · obtain ⟨x, d, c, h⟩ := h; cases h
      exact Ev.yes rfl (Ev.ret ⟨x, d, c, rfl⟩)
  rintro _ ds ⟨x, d, c, h0⟩; cases h0
  exact ⟨rfl, Ev.yes rfl (Ev.ret ⟨x, d, c, rfl⟩)⟩
/-- The whole: the error. -/
theorem fz_parse {m y : List UInt8} {a1 b1 e1 a2 b2 e2 a3 b3 e3 a7 b7 e7 a8 b8 e8 a9 b9 e9 a10 b10 e10 a11 b11 e11 : Int}
    (g1 : l[0]? = some (tk 1 modT a7 b7 e7)) (g2 : l[0 + 1]? = some (tk 1 m a8 b8 e8)) (hm : goodN m = true) (g3 : l[0 + 2]? = some (tk 3 [40] a9 b9 e9)) (g4 : l[0 + 3]? = some (tk 3 [41] a10 b10 e10)) (g5 : l[0 + 4]? = some (tk 3 [59] a11 b11 e11))
    (h1 : l[0 + 5]? = some (tk 1 assT a1 b1 e1)) (h2 : l[0 + 5 + 1]? = some (tk 1 y a2 b2 e2)) (hy : goodN y = true) (h3 : l[0 + 5 + 2]? = some (tk 3 [61] a3 b3 e3)) (H : Fz expF l (0 + 5 + 3) j a b g 1) :
    Ev (fun n => parse_Parse n (.lst 5 l)) fun r => r = (true, [.agg [.int .i64 a, .int .i64 b, .int .i64 g], .int .i64 8, .lst 7 []]) := by
  have I := fz_module hl hT g1 g2 hm g3 g4 g5 h1 h2 hy h3 H
  have hlt := lt_of g1
  refine Ev.eq (fun n => parse_Parse_eq n l) ?_
  refine Ev.bindL (Q := fun r => ∃ (xs : List D) (d c : Int), r = (false, [.int .i64 0, .int .i64 0, .int .i64 0, .lst 5 l, .int .i64 (j : Int), .int .i64 d, .int .i64 c, .int .i64 a, .int .i64 b, .int .i64 g, .int .i64 8, .lst 7 xs])) ?_ (fun ds h => by obtain ⟨_, _, _, h⟩ := h; cases h) fun ds h => ?_
  · refine Ev.eq (fun n => parse_Parse_L0_eq n 0 0 0 l 0 0 0 0 0 0 0 []) (Ev.yes rfl (evDf (fun n => parse_Parse_L0_j1_def n _ _ _ _ _ _ _ _ _ _ _ _ _) (Ev.yes (decide_eq_true (by omega)) (Ev.no rfl (evDf (fun n => parse_Parse_L0_j2_def n _ _ _ _ _ _ _ _ _ _ _ _) (Ev.bindC I ?_))))))
    rintro _ ds ⟨x, d, c, h0⟩; cases h0
    refine ⟨rfl, Ev.yes rfl (Ev.bindC (contains_none m a7 b7 e7 [] [] [x]) ?_)⟩
    (intro _ ds h0; cases h0; refine ⟨rfl, Ev.yes rfl ?_⟩)
    exact Ev.no rfl (Ev.yes rfl (Ev.eq (fun n => parse_Parse_L0_eq n _ _ _ _ _ _ _ _ _ _ _ _) (Ev.no rfl (evDf (fun n => parse_Parse_L0_j1_def n _ _ _ _ _ _ _ _ _ _ _ _ _) (Ev.no rfl (Ev.ret ⟨_, d, c, rfl⟩))))))
  · obtain ⟨xs, d, c, h⟩ := h; cases h
    exact Ev.yes rfl (Ev.yes rfl (Ev.ret rfl))
end
end Go.Proofs.YtalibicpmfbieaaGreatDoor
