/- The parser on the words of an expression: phrases, and the levels of operators. -/
import Derived.Test.YtalibicpmfbieaaGreatDoorPxZ
import Derived.Test.YtalibicpmfbieaaGreatDoorPxA
namespace Go.Proofs.YtalibicpmfbieaaGreatDoor
open Go.AE
set_option linter.unusedVariables false
set_option linter.unusedSimpArgs false
/-- Words that stand there, one behind the other. -/
def TokAt (l : List D) : Nat → List Tk → Prop
  | _, [] => True
  | i, w :: ws => (∃ a b e, l[i]? = some (tk w.1 w.2 a b e)) ∧ TokAt l (i + 1) ws
theorem TokAt_app {l : List D} : ∀ {u : List Tk} {i : Nat} {v : List Tk}, TokAt l i (u ++ v) ↔ TokAt l i u ∧ TokAt l (i + u.length) v
  | [], i, v => by simp [TokAt]
  | w :: u, i, v => by
    have := TokAt_app (l := l) (u := u) (i := i + 1) (v := v)
    simp only [List.cons_append, TokAt, this, List.length_cons, and_assoc]
    rw [show i + 1 + u.length = i + (u.length + 1) from by omega]
/-- An expression as the parser makes it: with places. -/
def PE (k a b e : Int) (t : List UInt8) (ar : List D) : D := .agg [.int .i64 k, .int .i64 a, .int .i64 b, .int .i64 e, .str t, .lst 6 ar]
def IsE (y : D) : Prop := ∃ v0 v1 v2 v3 vt vs, y = .agg [.int .i64 v0, .int .i64 v1, .int .i64 v2, .int .i64 v3, .str vt, .lst 6 vs]
abbrev PF := Nat → D → D → D → D → D → D → D → D → Out
/-- A function of the parser reads a phrase: from a place on so many words; what it makes; how deep it goes. -/
def Ph (F : PF) (l : List D) (i m : Nat) (R : D → Prop) (h : Nat) : Prop :=
  ∀ d c p0 p1 p2 : Int, 0 ≤ d → d + h ≤ 40 → Ev (fun n => F n (.lst 5 l) (.int .i64 (i : Int)) (.int .i64 d) (.int .i64 c) (.int .i64 p0) (.int .i64 p1) (.int .i64 p2) (.int .i64 0)) fun r => ∃ y, R y ∧ r = (true, [y, .lst 5 l, .int .i64 ((i + m : Nat) : Int), .int .i64 d, .int .i64 c, .int .i64 p0, .int .i64 p1, .int .i64 p2, .int .i64 0])
theorem Ph.mono {F : PF} {l : List D} {i m : Nat} {R R' : D → Prop} {h h' : Nat} (H : Ph F l i m R h) (hr : ∀ y, R y → R' y) (hh : h ≤ h') : Ph F l i m R' h' := by
  intro d c p0 p1 p2 hd hd2
  exact (H d c p0 p1 p2 hd (by omega)).mono fun r ⟨y, hy, e⟩ => ⟨y, hr y hy, e⟩
/-- A sign comes next, of some. -/
def Nx (l : List D) (i : Nat) (p : List UInt8 → Bool) : Prop := ∃ t a b e, l[i]? = some (tk 3 t a b e) ∧ p t = true
theorem Nx.mono {l : List D} {i : Nat} {p q : List UInt8 → Bool} (h : Nx l i p) (hpq : ∀ t, p t = true → q t = true) : Nx l i q := by
  obtain ⟨t, a, b, e, h1, h2⟩ := h
  exact ⟨t, a, b, e, h1, hpq t h2⟩
/-- What closes an expression. -/
def clT : List (List UInt8) := [[41], [93], [125], [44], [59], [58], [123]]
def cl (t : List UInt8) : Bool := clT.contains t
/-- What may come behind an operand. -/
def cu (t : List UInt8) : Bool := clT.contains t || opsT.contains t || t == [63]
theorem cl_cu (t : List UInt8) (h : cl t = true) : cu t = true := by unfold cu; rw [show clT.contains t = true from h]; rfl
/-- No operator of these levels. -/
def noLev (j : Nat) (t : List UInt8) : Bool := decide (t.length ≤ 3) && (List.range 10).all fun i => decide (i < j) || !decide (0 ≤ idxStr (([32] ++ t) ++ [32]) (lvT[i]?.getD []) 0)
theorem cl_noLev_all : (([63] :: clT).all (noLev 0)) = true := by kernel_rfl
theorem cl_noLev {t : List UInt8} (h : cl t = true) (j : Nat) : noLev j t = true := by
  have := List.all_eq_true.1 cl_noLev_all t (List.mem_cons_of_mem _ (by simpa [cl] using h))
  simp only [noLev, Bool.and_eq_true, List.all_eq_true, List.mem_range, Bool.or_eq_true] at this ⊢
  refine ⟨this.1, fun i hi => ?_⟩
  rcases this.2 i hi with h | h
  · exact absurd (of_decide_eq_true h) (by omega)
  · exact .inr h
theorem noLev_at {j i : Nat} {t : List UInt8} (h : noLev j t = true) (hi : i < 10) (hj : j ≤ i) : decide (0 ≤ idxStr (([32] ++ t) ++ [32]) (lvT[i]?.getD []) 0) = false := by
  simp only [noLev, Bool.and_eq_true, List.all_eq_true, List.mem_range, Bool.or_eq_true] at h
  rcases h.2 i hi with h | h
  · exact absurd (of_decide_eq_true h) (by omega)
  · simpa using h
section
variable {l : List D} (hl : l.length ≤ 1000000)
def LvP (l : List D) (i : Nat) (d c p0 p1 p2 : Int) (j : Nat) (a b e : Int) (R : D → Prop) (r : Bool × List D) : Prop :=
  ∃ u0 u1 u2 u3 su us, R (.agg [.int .i64 u0, .int .i64 u1, .int .i64 u2, .int .i64 u3, .str su, .lst 6 us]) ∧
    r = (false, [.int .i64 (j : Int), .lst 5 l, .int .i64 (i : Int), .int .i64 d, .int .i64 c, .int .i64 p0, .int .i64 p1, .int .i64 p2, .int .i64 0, .int .i64 0, .int .i64 0, .int .i64 0, .int .i64 0, .str [], .int .i64 a, .int .i64 b, .int .i64 e, .int .i64 u0, .int .i64 u1, .int .i64 u2, .int .i64 u3, .str su, .lst 6 us, .lst 6 []])
theorem lvStart {j : Nat} (hj : j < 10) {i : Nat} {d c p0 p1 p2 : Int} {t : List UInt8} {a1 b1 e1 a b e k0 k1 k2 k3 : Int} {s0 : List UInt8} {xs0 : List D} {Q : Bool × List D → Prop} (ht : l[i]? = some (tk 3 t a1 b1 e1)) (hlen : t.length ≤ 3)
    (K : ∀ r1, r1 = [tk 3 t a1 b1 e1, .lst 5 l, .int .i64 (i : Int), .int .i64 d, .int .i64 c, .int .i64 p0, .int .i64 p1, .int .i64 p2, .int .i64 0] → Ev (fun n => parse_parser_level_L0_j1 n (!decide (0 ≤ idxStr (([32] ++ t) ++ [32]) (lvT[j]?.getD []) 0)) (j : Int) r1 0 0 0 0 [] a b e k0 k1 k2 k3 s0 xs0 []) Q) :
    Ev (fun n => parse_parser_level_L0 n (.int .i64 (j : Int)) (.lst 5 l) (.int .i64 (i : Int)) (.int .i64 d) (.int .i64 c) (.int .i64 p0) (.int .i64 p1) (.int .i64 p2) (.int .i64 0) (.int .i64 0) (.int .i64 0) (.int .i64 0) (.int .i64 0) (.str []) (.int .i64 a) (.int .i64 b) (.int .i64 e) (.int .i64 k0) (.int .i64 k1) (.int .i64 k2) (.int .i64 k3) (.str s0) (.lst 6 xs0) (.lst 6 [])) Q := by
  have hX : ((lvT.map D.str)[((j : Nat) : Int).toNat]?.getD D.top) = .str (lvT[j]?.getD []) := by
    rw [show ((j : Nat) : Int).toNat = j from rfl, List.getElem?_map, List.getElem?_eq_getElem (show j < lvT.length from hj)]; rfl
  have hXs : ((lvT.map D.str)[((j : Nat) : Int).toNat]?.getD D.top).s = lvT[j]?.getD [] := congrArg D.s hX
  have hXl : ((lvT.map D.str)[((j : Nat) : Int).toNat]?.getD D.top).s.length ≤ 4294967280 := by
    rw [hXs, List.getElem?_eq_getElem (show j < lvT.length from hj)]
    exact Nat.le_trans (lv_len _ (List.getElem_mem _)) (by decide)
  refine Ev.eq (fun n => parse_parser_level_L0_eq n _ l _ _ _ _ _ _ _ _ _ _ _ _ _ _ _ _ _ _ _ _ _ _) (Ev.yes rfl (Ev.bindC (now_ev (d := d) (c := c) (p0 := p0) (p1 := p1) (p2 := p2) ht) ?_))
  intro _ ds h0; cases h0
  refine ⟨rfl, Ev.yes rfl (Ev.no rfl (Ev.yes (and_tt (decide_eq_true (by omega)) (decide_eq_true (by omega))) (Ev.yes (by exact congrArg (fun x => notAny (.leaf .str) && okTy (.leaf .str) x) hX) (Ev.yes (decide_eq_true (by show 1 + t.length ≤ maxStr; simp only [maxStr]; omega)) (Ev.yes (decide_eq_true (by show ([32] ++ t).length + 1 ≤ maxStr; simp only [maxStr, List.length_append, List.length_singleton]; omega)) (Ev.bindC (contains_ev (s := ((lvT.map D.str)[((j : Nat) : Int).toNat]?.getD D.top).s) hXl (([32] ++ t) ++ [32])) ?_))))))⟩
  intro _ ds h0; cases h0
  refine ⟨rfl, Ev.yes rfl ?_⟩
  have := K _ rfl
  rw [← hXs] at this
  exact this
/-- A level ends. -/
theorem lvStop {j : Nat} (hj : j < 10) {i : Nat} {d c p0 p1 p2 : Int} {p : List UInt8 → Bool} (hn : Nx l i p) (hp : ∀ t, p t = true → noLev j t = true) {a b e k0 k1 k2 k3 : Int} {s0 : List UInt8} {xs0 : List D} {R : D → Prop}
    (hr : R (.agg [.int .i64 k0, .int .i64 k1, .int .i64 k2, .int .i64 k3, .str s0, .lst 6 xs0])) :
    Ev (fun n => parse_parser_level_L0 n (.int .i64 (j : Int)) (.lst 5 l) (.int .i64 (i : Int)) (.int .i64 d) (.int .i64 c) (.int .i64 p0) (.int .i64 p1) (.int .i64 p2) (.int .i64 0) (.int .i64 0) (.int .i64 0) (.int .i64 0) (.int .i64 0) (.str []) (.int .i64 a) (.int .i64 b) (.int .i64 e) (.int .i64 k0) (.int .i64 k1) (.int .i64 k2) (.int .i64 k3) (.str s0) (.lst 6 xs0) (.lst 6 [])) (LvP l i d c p0 p1 p2 j a b e R) := by
  obtain ⟨t, a1, b1, e1, ht, h2⟩ := hn
  have hno := hp t h2
  have hlen : t.length ≤ 3 := by simp only [noLev, Bool.and_eq_true] at hno; exact of_decide_eq_true hno.1
  refine lvStart hj (d := d) (c := c) (p0 := p0) (p1 := p1) (p2 := p2) ht hlen fun r1 hr1 => ?_
  rw [noLev_at hno hj (Nat.le_refl _)]
  subst hr1
  exact evDf (fun n => parse_parser_level_L0_j1_def n _ _ _ _ _ _ _ _ _ _ _ _ _ _ _ _ _ _) (Ev.yes rfl (Ev.ret ⟨k0, k1, k2, k3, s0, xs0, hr, rfl⟩))
noncomputable def lvF (j : Nat) : PF := fun n => parse_parser_level n (.int .i64 (j : Int))
/-- A phrase, and behind it no operator of a level. -/
theorem level_of {i m : Nat} {R : D → Prop} {h : Nat} (hR : ∀ y, R y → IsE y) {p : List UInt8 → Bool} (hn : Nx l (i + m) p) (hx : ∃ k t a b e, l[i]? = some (tk k t a b e)) : ∀ (q j : Nat), j + q ≤ 10 → (∀ t, p t = true → noLev j t = true) → Ph (lvF (j + q)) l i m R h → Ph (lvF j) l i m R h
  | 0, j, _, _, H => H
  | q + 1, j, hq, hp, H => by
    have H1 : Ph (lvF (j + 1)) l i m R h := level_of hR hn hx q (j + 1) (by omega) (fun t ht => by
      have := hp t ht
      simp only [noLev, Bool.and_eq_true, List.all_eq_true, List.mem_range, Bool.or_eq_true] at this ⊢
      refine ⟨this.1, fun i hi => ?_⟩
      rcases this.2 i hi with h | h
      · exact .inl (decide_eq_true (by have := of_decide_eq_true h; omega))
      · exact .inr h) (by rw [show j + 1 + q = j + (q + 1) from by omega]; exact H)
    intro d c p0 p1 p2 hd hd2
    obtain ⟨k, t, a, b, e, ht⟩ := hx
    have I := H1 d c p0 p1 p2 hd hd2
    unfold lvF at I ⊢
    rw [← wrap_succ (by omega)] at I
    refine Ev.eq (fun n => parse_parser_level_eq n _ l i d c p0 p1 p2 0) (Ev.no (beq_eq_false_iff_ne.2 (by omega)) (Ev.bindC (now_ev (d := d) (c := c) (p0 := p0) (p1 := p1) (p2 := p2) ht) ?_))
    intro _ ds h0; cases h0
    refine ⟨rfl, Ev.yes rfl (Ev.bindC I ?_)⟩
    rintro _ ds ⟨y, hy, h0⟩
    cases h0
    obtain ⟨v0, v1, v2, v3, vt, vs, rfl⟩ := hR y hy
    refine ⟨rfl, Ev.yes rfl (Ev.bindL (lvStop (l := l) (i := i + m) (d := d) (c := c) (p0 := p0) (p1 := p1) (p2 := p2) (R := R) (by omega) hn hp hy) (fun ds h => by obtain ⟨_, _, _, _, _, _, _, h⟩ := h; cases h) fun ds h => ?_)⟩
    obtain ⟨u0, u1, u2, u3, su, us, hr, h⟩ := h
    cases h
    exact Ev.yes rfl (Ev.ret ⟨_, hr, rfl⟩)
theorem level_unary {i m : Nat} {R : D → Prop} {h : Nat} (hR : ∀ y, R y → IsE y) (H : Ph (fun n => parse_parser_unary n) l i m R h) : Ph (lvF 10) l i m R h := by
  intro d c p0 p1 p2 hd hd2
  refine Ev.eq (fun n => parse_parser_level_eq n _ l i d c p0 p1 p2 0) (Ev.yes rfl (Ev.bindC (H d c p0 p1 p2 hd hd2) ?_))
  rintro _ ds ⟨y, hy, h0⟩
  cases h0
  obtain ⟨v0, v1, v2, v3, vt, vs, rfl⟩ := hR y hy
  exact ⟨rfl, Ev.yes rfl (Ev.ret ⟨_, hy, rfl⟩)⟩
include hl
end
end Go.Proofs.YtalibicpmfbieaaGreatDoor
