/- The reference's maker of expressions: what it makes is well formed. -/
import Derived.Test.YtalibicpmfbieaaGreatDoorAe1
import Derived.Test.YtalibicpmfbieaaGreatDoorAe2
import Derived.Test.YtalibicpmfbieaaGreatDoorEng
namespace Go.Proofs.YtalibicpmfbieaaGreatDoor
open Go.AE
set_option linter.unusedVariables false
set_option linter.unusedSimpArgs false
/-- A maker's bytes and place. -/
def Mk (b : List D) (a : Int) : Prop := Bytes b ∧ b.length ≤ 300 ∧ 0 ≤ a ∧ a ≤ b.length

theorem next_ev {k : Int} (hk : 0 < k) (hk2 : k ≤ 1000) {b : List D} {a : Int} (hm : Mk b a) : Ev (fun n => ref09_Next n (.int .i64 k) (.lst 1 b) (.int .i64 a)) fun r => ∃ v a', r = (true, [.int .i64 v, .lst 1 b, .int .i64 a']) ∧ 0 ≤ v ∧ v < k ∧ Mk b a' := by
  obtain ⟨hb, hl, h0, h1⟩ := hm
  refine Ev.eq (fun n => ref09_Next_eq n k b a) ?_
  refine Ev.test (fun _ => Ev.ret ⟨0, a, rfl, Int.le_refl _, hk, hb, hl, h0, h1⟩) fun hc => ?_
  have hc : ¬ a ≥ (b.length : Int) := of_decide_eq_false hc
  have e1 : IntKind.i64.wrap (a + 1) = a + 1 := wrap_id (by omega) (by omega)
  have e2 : IntKind.i64.wrap (a + 1 - 1) = a := by rw [wrap_id (by omega) (by omega)]; omega
  obtain ⟨i, hi, hi0, hi1⟩ := get_in (P := fun y => ∃ i : Int, y = .int .u8 i ∧ 0 ≤ i ∧ i ≤ 255) hb (v := a) h0 (by omega)
  simp only [e1, e2, hi]
  refine Ev.yes (by simp; omega) ?_
  refine Ev.yes rfl ?_
  refine Ev.no (decide_eq_false (by omega)) ?_
  have e3 : (IntKind.i64.wrap (D.int IntKind.u8 i).i) = i := wrap_id (show -9223372036854775808 ≤ i by omega) (show i ≤ 9223372036854775807 by omega)
  simp only [e3]
  have e4 : 0 ≤ i.tmod k := Int.tmod_nonneg k hi0
  have e5 : i.tmod k < k := Int.tmod_lt_of_pos i hk
  have e6 : IntKind.i64.wrap (i.tmod k) = i.tmod k := wrap_id (by omega) (by omega)
  exact Ev.ret ⟨_, _, rfl, e4, e5, hb, hl, by omega, by omega⟩

/-! The texts that are made. -/
def nameT : List (List UInt8) := [[97], [98], [99], [100], [120, 49], [95, 121], [113], [114]]
def numT : List (List UInt8) := [[48], [49], [50], [55], [52, 39, 98, 49, 48, 49, 48], [56, 39, 104, 102, 102], [51, 39, 115, 100, 50], [49, 95, 48]]
def unT : List (List UInt8) := [[45], [126], [33], [38], [124], [94], [126, 38], [126, 124], [126, 94]]
def opT : List (List UInt8) := [[43], [45], [42], [47], [37], [38], [124], [94], [126, 94], [60, 60], [62, 62], [60, 60, 60], [62, 62, 62], [60], [60, 61], [62], [62, 61], [61, 61], [33, 61], [38, 38], [124, 124]]
def callT : List (List UInt8) := [[102], [103], [36, 115, 105, 103, 110, 101, 100], [36, 117, 110, 115, 105, 103, 110, 101, 100]]
theorem tab_in {T : List (List UInt8)} {v : Int} (h0 : 0 ≤ v) (h1 : v < T.length) : ∃ s, s ∈ T ∧ (T.map D.str)[v.toNat]?.getD D.top = .str s := by
  have := get_in (P := fun y => ∃ s, s ∈ T ∧ y = D.str s) (xs := T.map D.str) (fun x hx => by obtain ⟨s, hs, rfl⟩ := List.mem_map.1 hx; exact ⟨s, hs, rfl⟩) h0 (by simpa using h1)
  exact this

/-- An expression. -/
def E (k : Int) (t : List UInt8) (ar : List D) : D := .agg [.int .i64 k, .int .i64 0, .int .i64 0, .int .i64 0, .str t, .lst 6 ar]
/-- Kind, text, and how many operands. -/
def shapeE (k : Int) (t : List UInt8) (m : Nat) : Prop :=
  (k = 1 ∧ t ∈ numT ∧ m = 0) ∨ (k = 2 ∧ t ∈ nameT ∧ m = 0) ∨ (k = 3 ∧ t ∈ unT ∧ m = 1) ∨ (k = 4 ∧ t ∈ opT ∧ m = 2) ∨ (k = 5 ∧ t = [] ∧ m = 3) ∨ (k = 6 ∧ t = [] ∧ 1 ≤ m ∧ m ≤ 3) ∨
  (k = 7 ∧ t = [] ∧ 2 ≤ m ∧ m ≤ 3) ∨ (k = 8 ∧ t ∈ nameT ∧ m = 1) ∨ (k = 9 ∧ t ∈ nameT ∧ m = 2) ∨ (k = 10 ∧ t ∈ callT ∧ 1 ≤ m ∧ m ≤ 2)
def wfE : Nat → D → Prop
  | 0, _ => False
  | n + 1, x => ∃ k t ar, x = E k t ar ∧ shapeE k t ar.length ∧ ∀ a ∈ ar, wfE n a

theorem name_in {b : List D} {a : Int} (hm : Mk b a) : Ev (fun n => ref09_name n (.lst 1 b) (.int .i64 a)) fun r => ∃ s a', r = (true, [.str s, .lst 1 b, .int .i64 a']) ∧ s ∈ nameT ∧ Mk b a' := by
  refine Ev.eq (fun n => ref09_name_eq n b a) ?_
  (refine Ev.bindC (next_ev (by decide) (by decide) (by assumption)) ?_; rintro _ _ ⟨v, a, h, hv0, hv1, hm⟩; cases h; refine ⟨rfl, ?_⟩)
  refine Ev.yes rfl ?_
  refine Ev.yes (and_tt (decide_eq_true hv0) (decide_eq_true hv1)) ?_
  obtain ⟨s, h1, hs⟩ := tab_in (T := nameT) hv0 hv1
  refine Ev.yes (by exact congrArg (fun x => notAny (.leaf .str) && okTy (.leaf .str) x) hs) ?_
  refine Ev.ret ⟨s, a, ?_, h1, hm⟩
  exact congrArg (fun x : D => (true, [D.str x.s, .lst 1 b, .int .i64 a])) hs
theorem number_in {b : List D} {a : Int} (hm : Mk b a) : Ev (fun n => ref09_number n (.lst 1 b) (.int .i64 a)) fun r => ∃ s a', r = (true, [.str s, .lst 1 b, .int .i64 a']) ∧ s ∈ numT ∧ Mk b a' := by
  refine Ev.eq (fun n => ref09_number_eq n b a) ?_
  (refine Ev.bindC (next_ev (by decide) (by decide) (by assumption)) ?_; rintro _ _ ⟨v, a, h, hv0, hv1, hm⟩; cases h; refine ⟨rfl, ?_⟩)
  refine Ev.yes rfl ?_
  refine Ev.yes (and_tt (decide_eq_true hv0) (decide_eq_true hv1)) ?_
  obtain ⟨s, h1, hs⟩ := tab_in (T := numT) hv0 hv1
  refine Ev.yes (by exact congrArg (fun x => notAny (.leaf .str) && okTy (.leaf .str) x) hs) ?_
  refine Ev.ret ⟨s, a, ?_, h1, hm⟩
  exact congrArg (fun x : D => (true, [D.str x.s, .lst 1 b, .int .i64 a])) hs
theorem ops_is : Ev (fun n => ref09_ops n) fun r => r = (true, [.lst 1 (opT.map D.str)]) :=
  Ev.eq (fun n => ref09_ops_eq n) (Ev.ret rfl)

theorem makeExprs_ev {d : Nat} {deep : Int} (hE : ∀ b a, Mk b a → Ev (fun n => ref09_MakeExpr n (.int .i64 deep) (.lst 1 b) (.int .i64 a)) fun r => ∃ x a', r = (true, [x, .lst 1 b, .int .i64 a']) ∧ wfE d x ∧ Mk b a')
    {c : Int} (hc : 0 ≤ c) (hc2 : c ≤ 100) {b : List D} {a : Int} (hm : Mk b a) : Ev (fun n => ref09_MakeExprs n (.int .i64 deep) (.int .i64 c) (.lst 1 b) (.int .i64 a)) fun r => ∃ xs a', r = (true, [.lst 1 b, .int .i64 a', .lst 6 xs]) ∧ xs.length = c.toNat ∧ (∀ x ∈ xs, wfE d x) ∧ Mk b a' := by
  have loop : ∀ (k : Nat) (i : Int) (a : Int) (xs : List D), c - i = k → 0 ≤ i → xs.length = i.toNat → (∀ x ∈ xs, wfE d x) → Mk b a →
      Ev (fun n => ref09_MakeExprs_L0 n (.int .i64 deep) (.int .i64 c) (.int .i64 i) (.lst 1 b) (.int .i64 a) (.lst 6 xs)) fun r => ∃ ys a', r = (false, [.int .i64 deep, .int .i64 c, .int .i64 c, .lst 1 b, .int .i64 a', .lst 6 ys]) ∧ ys.length = c.toNat ∧ (∀ x ∈ ys, wfE d x) ∧ Mk b a' := by
    intro k
    induction k with
    | zero =>
      intro i a xs hk h0 hl hx hm
      refine Ev.eq (fun n => ref09_MakeExprs_L0_eq n deep c i b a xs) ?_
      refine Ev.no (decide_eq_false (by omega)) ?_
      have : i = c := by omega
      subst this
      exact Ev.ret ⟨xs, a, rfl, hl, hx, hm⟩
    | succ k ih =>
      intro i a xs hk h0 hl hx hm
      refine Ev.eq (fun n => ref09_MakeExprs_L0_eq n deep c i b a xs) ?_
      refine Ev.yes (decide_eq_true (by omega)) ?_
      refine Ev.bindC (hE b a hm) ?_
      rintro _ _ ⟨x, a', h, hwx, hm'⟩; cases h; refine ⟨rfl, ?_⟩
      obtain ⟨dd, rfl⟩ : ∃ dd, d = dd + 1 := by cases d with | zero => exact hwx.elim | succ dd => exact ⟨dd, rfl⟩
      have hwx' := hwx
      obtain ⟨k0, t, ar, rfl, hsh, har⟩ := hwx
      refine Ev.yes rfl ?_
      refine Ev.yes (Nat.ble_eq_true_of_le (by unfold maxLst; omega)) ?_
      have e1 : IntKind.i64.wrap (i + 1) = i + 1 := wrap_id (by omega) (by omega)
      rw [e1]
      exact ih (i + 1) a' (xs ++ [E k0 t ar]) (by omega) (by omega) (by simp; omega) (fun y hy => by
        rcases List.mem_append.1 hy with hy | hy
        · exact hx y hy
        · simp at hy; subst hy; exact hwx') hm'
  refine Ev.eq (fun n => ref09_MakeExprs_eq n deep c b a) ?_
  refine Ev.bindL (loop c.toNat 0 a [] (by omega) (by omega) rfl (fun x hx => by cases hx) hm) ?_ ?_
  · rintro ds ⟨ys, a', h, _⟩; cases h
  · rintro ds ⟨ys, a', h, h1, h2, h3⟩; cases h
    refine Ev.yes rfl ?_
    exact Ev.ret ⟨ys, a', rfl, h1, h2, h3⟩
theorem makeExpr_ev : ∀ (d : Nat) (deep : Int), -1000 ≤ deep → deep ≤ d + 1 → d ≤ 100 → ∀ (b : List D) (a : Int), Mk b a →
    Ev (fun n => ref09_MakeExpr n (.int .i64 deep) (.lst 1 b) (.int .i64 a)) fun r => ∃ x a', r = (true, [x, .lst 1 b, .int .i64 a']) ∧ wfE (d + 1) x ∧ Mk b a' := by
  intro d
  induction d with
  | zero => 
    intro deep hd0 hd hd2 b a hm
    refine Ev.eq (fun n => ref09_MakeExpr_eq n deep b a) ?_
    (refine Ev.bindC (next_ev (by decide) (by decide) (by assumption)) ?_; rintro _ _ ⟨v, a, h, hv0, hv1, hm⟩; cases h; refine ⟨rfl, ?_⟩)
    refine Ev.yes rfl ?_
    refine Ev.bindL (Q := fun r => ∃ k : Int, r = (false, [.int .i64 deep, .int .i64 k, .bool true, .lst 1 b, .int .i64 a, .int .i64 0, .int .i64 0, .int .i64 0, .int .i64 0, .str [], .lst 6 []]) ∧ (k = 0 ∨ k = 1 ∨ k = 2)) (Ev.eq (fun n => ref09_MakeExpr_c10_eq n _ _ _ _ _ _ _ _ _ _ _) (Ev.yes (decide_eq_true (by simpa using hd)) (Ev.ret ⟨_, rfl, ?_⟩))) ?_ ?_
    · have e1 : 0 ≤ v.tmod 3 := Int.tmod_nonneg 3 hv0
      have e2 : v.tmod 3 < 3 := Int.tmod_lt_of_pos v (by decide)
      show v.tmod 3 = 0 ∨ v.tmod 3 = 1 ∨ v.tmod 3 = 2
      omega
    · rintro ds ⟨k, h, _⟩; cases h
    · rintro ds ⟨k, h, hk⟩; cases h
      refine Ev.yes rfl ?_
      rcases hk with rfl | rfl | rfl
      · refine Ev.yes rfl ?_
        refine Ev.bindC (name_in (by assumption)) ?_
        rintro _ _ ⟨s, a, h, hs1, hm⟩; cases h; refine ⟨rfl, ?_⟩
        refine Ev.yes rfl ?_
        exact Ev.ret ⟨E 2 s [], a, rfl, ⟨2, s, [], rfl, .inr (.inl ⟨rfl, hs1, rfl⟩), fun x hx => by cases hx⟩, hm⟩
      · refine Ev.no rfl ?_
        refine Ev.yes rfl ?_
        refine Ev.bindC (name_in (by assumption)) ?_
        rintro _ _ ⟨s, a, h, hs1, hm⟩; cases h; refine ⟨rfl, ?_⟩
        refine Ev.yes rfl ?_
        exact Ev.ret ⟨E 2 s [], a, rfl, ⟨2, s, [], rfl, .inr (.inl ⟨rfl, hs1, rfl⟩), fun x hx => by cases hx⟩, hm⟩
      · refine Ev.no rfl ?_
        refine Ev.no rfl ?_
        refine Ev.yes rfl ?_
        refine Ev.bindC (number_in (by assumption)) ?_
        rintro _ _ ⟨s, a, h, hs1, hm⟩; cases h; refine ⟨rfl, ?_⟩
        refine Ev.yes rfl ?_
        exact Ev.ret ⟨E 1 s [], a, rfl, ⟨1, s, [], rfl, .inl ⟨rfl, hs1, rfl⟩, fun x hx => by cases hx⟩, hm⟩
  | succ d ih =>
    intro deep hd0 hd hd2 b a hm
    have hd : deep ≤ (d : Int) + 1 + 1 := by simpa using hd
    have e1 : IntKind.i64.wrap (deep - 1) = deep - 1 := wrap_id (by omega) (by omega)
    have hE : -999 ≤ deep → ∀ b a, Mk b a → Ev (fun n => ref09_MakeExpr n (.int .i64 (IntKind.i64.wrap (deep - 1))) (.lst 1 b) (.int .i64 a)) fun r => ∃ x a', r = (true, [x, .lst 1 b, .int .i64 a']) ∧ wfE (d + 1) x ∧ Mk b a' := by
      intro h
      rw [e1]
      exact ih (deep - 1) (by omega) (by omega) (by omega)
    refine Ev.eq (fun n => ref09_MakeExpr_eq n deep b a) ?_
    (refine Ev.bindC (next_ev (by decide) (by decide) (by assumption)) ?_; rintro _ _ ⟨v, a, h, hv0, hv1, hm⟩; cases h; refine ⟨rfl, ?_⟩)
    refine Ev.yes rfl ?_
    refine Ev.bindL (Q := fun r => ∃ k : Int, r = (false, [.int .i64 deep, .int .i64 k, .bool (decide (deep ≤ 1)), .lst 1 b, .int .i64 a, .int .i64 0, .int .i64 0, .int .i64 0, .int .i64 0, .str [], .lst 6 []]) ∧ 0 ≤ k ∧ k ≤ 11 ∧ (2 < k → 2 ≤ deep)) (Ev.eq (fun n => ref09_MakeExpr_c10_eq n _ _ _ _ _ _ _ _ _ _ _) (Ev.test (fun hc => Ev.ret ⟨v.tmod 3, by rw [hc]; rfl, ?_⟩) (fun hc => Ev.ret ⟨v, by rw [hc]; rfl, hv0, by omega, fun _ => ?_⟩))) ?_ ?_
    · have e1 : 0 ≤ v.tmod 3 := Int.tmod_nonneg 3 hv0
      have e2 : v.tmod 3 < 3 := Int.tmod_lt_of_pos v (by decide)
      refine ⟨e1, by omega, fun h => by omega⟩
    · have := of_decide_eq_false hc; omega
    · rintro ds ⟨k, h, _⟩; cases h
    · rintro ds ⟨k, h, hk0, hk1, hk2⟩; cases h
      refine Ev.yes rfl ?_
      refine Ev.test (fun hk => ?_) (fun hn0 => ?_)
      · refine Ev.bindC (name_in (by assumption)) ?_
        rintro _ _ ⟨s, a, h, hs1, hm⟩; cases h; refine ⟨rfl, ?_⟩
        refine Ev.yes rfl ?_
        exact Ev.ret ⟨E 2 s [], a, rfl, ⟨2, s, [], rfl, .inr (.inl ⟨rfl, hs1, rfl⟩), fun x hx => by cases hx⟩, hm⟩
      refine Ev.test (fun hk => ?_) (fun hn1 => ?_)
      · refine Ev.bindC (name_in (by assumption)) ?_
        rintro _ _ ⟨s, a, h, hs1, hm⟩; cases h; refine ⟨rfl, ?_⟩
        refine Ev.yes rfl ?_
        exact Ev.ret ⟨E 2 s [], a, rfl, ⟨2, s, [], rfl, .inr (.inl ⟨rfl, hs1, rfl⟩), fun x hx => by cases hx⟩, hm⟩
      refine Ev.test (fun hk => ?_) (fun hn2 => ?_)
      · refine Ev.bindC (number_in (by assumption)) ?_
        rintro _ _ ⟨s, a, h, hs1, hm⟩; cases h; refine ⟨rfl, ?_⟩
        refine Ev.yes rfl ?_
        exact Ev.ret ⟨E 1 s [], a, rfl, ⟨1, s, [], rfl, .inl ⟨rfl, hs1, rfl⟩, fun x hx => by cases hx⟩, hm⟩
      have n0 : k ≠ 0 := by simpa [nth, D.i] using hn0
      have n1 : k ≠ 1 := by simpa [nth, D.i] using hn1
      have n2 : k ≠ 2 := by simpa [nth, D.i] using hn2
      have hE := hE (by have := hk2 (by omega); omega)
      have hbin : ∀ {b : List D} {a : Int}, Mk b a → Ev (fun n => AE.bindC (ref09_ops n) fun r3 => bif chk ref09_ops.osk r3 then (AE.bindC (ref09_Next n (.int .i64 (21 : Int)) (.lst 1 b) (.int .i64 a)) fun r4 => bif chk ref09_Next.osk r4 then (bif (decide ((0 : Int) ≤ (nth r4 0).i) && decide ((nth r4 0).i < ((nth r3 0).l.length : Int))) then (bif notAny (.leaf .str) && okTy (.leaf .str) ((nth r3 0).l[(nth r4 0).i.toNat]?.getD D.top) then (AE.bindC (ref09_MakeExprs n (.int .i64 (IntKind.i64.wrap (deep - (1 : Int)))) (.int .i64 (2 : Int)) (.lst 1 (nth r4 1).l) (.int .i64 (nth r4 2).i)) fun r5 => bif chk ref09_MakeExprs.osk r5 then (some (true, [(.agg [(.int .i64 (4 : Int)), (.int .i64 (0 : Int)), (.int .i64 (0 : Int)), (.int .i64 (0 : Int)), (.str ((nth r3 0).l[(nth r4 0).i.toNat]?.getD D.top).s), (.lst 6 (nth r5 2).l)]), (.lst 1 (nth r5 0).l), (.int .i64 (nth r5 1).i)])) else none) else none) else none) else none) else none)
          fun r => ∃ x a', r = (true, [x, .lst 1 b, .int .i64 a']) ∧ wfE (d + 1 + 1) x ∧ Mk b a' := by
        intro b a hm
        refine Ev.bindC ops_is ?_
        rintro _ _ h; cases h; refine ⟨rfl, ?_⟩
        refine Ev.yes rfl ?_
        (refine Ev.bindC (next_ev (by decide) (by decide) (by assumption)) ?_; rintro _ _ ⟨v, a, h, hv0, hv1, hm⟩; cases h; refine ⟨rfl, ?_⟩)
        refine Ev.yes rfl ?_
        (refine Ev.yes (and_tt (decide_eq_true hv0) (decide_eq_true hv1)) ?_; obtain ⟨s, hs1, hs⟩ := tab_in (T := opT) hv0 hv1; refine Ev.yes (by exact congrArg (fun x => notAny (.leaf .str) && okTy (.leaf .str) x) hs) ?_)
        (refine Ev.bindC (makeExprs_ev hE (c := 2) (by decide) (by decide) (by assumption)) ?_; rintro _ _ ⟨xs, a, h, hl, hx, hm⟩; cases h; refine ⟨rfl, ?_⟩)
        refine Ev.yes rfl ?_
        refine Ev.ret ⟨E 4 s xs, a, ?_, ⟨4, s, xs, rfl, .inr (.inr (.inr (.inl ⟨rfl, hs1, hl⟩))), hx⟩, hm⟩
        exact congrArg (fun x : D => (true, [D.agg [.int .i64 4, .int .i64 0, .int .i64 0, .int .i64 0, .str x.s, .lst 6 xs], .lst 1 b, .int .i64 a])) hs
      refine Ev.test (fun hk => ?_) (fun hn => ?_)
      · (refine Ev.bindC (next_ev (by decide) (by decide) (by assumption)) ?_; rintro _ _ ⟨v, a, h, hv0, hv1, hm⟩; cases h; refine ⟨rfl, ?_⟩)
        refine Ev.yes rfl ?_
        (refine Ev.yes (and_tt (decide_eq_true hv0) (decide_eq_true hv1)) ?_; obtain ⟨s, hs1, hs⟩ := tab_in (T := unT) hv0 hv1; refine Ev.yes (by exact congrArg (fun x => notAny (.leaf .str) && okTy (.leaf .str) x) hs) ?_)
        (refine Ev.bindC (makeExprs_ev hE (c := 1) (by decide) (by decide) (by assumption)) ?_; rintro _ _ ⟨xs, a, h, hl, hx, hm⟩; cases h; refine ⟨rfl, ?_⟩)
        refine Ev.yes rfl ?_
        refine Ev.ret ⟨E 3 s xs, a, ?_, ⟨3, s, xs, rfl, .inr (.inr (.inl ⟨rfl, hs1, hl⟩)), hx⟩, hm⟩
        exact congrArg (fun x : D => (true, [D.agg [.int .i64 3, .int .i64 0, .int .i64 0, .int .i64 0, .str x.s, .lst 6 xs], .lst 1 b, .int .i64 a])) hs
      refine Ev.test (fun hk => hbin (by assumption)) (fun hn => ?_)
      refine Ev.test (fun hk => hbin (by assumption)) (fun hn => ?_)
      refine Ev.test (fun hk => hbin (by assumption)) (fun hn => ?_)
      refine Ev.test (fun hk => ?_) (fun hn => ?_)
      · (refine Ev.bindC (makeExprs_ev hE (c := 3) (by decide) (by decide) (by assumption)) ?_; rintro _ _ ⟨xs, a, h, hl, hx, hm⟩; cases h; refine ⟨rfl, ?_⟩)
        refine Ev.yes rfl ?_
        exact Ev.ret ⟨E 5 [] xs, a, rfl, ⟨5, [], xs, rfl, .inr (.inr (.inr (.inr (.inl ⟨rfl, rfl, hl⟩)))), hx⟩, hm⟩
      refine Ev.test (fun hk => ?_) (fun hn => ?_)
      · (refine Ev.bindC (next_ev (by decide) (by decide) (by assumption)) ?_; rintro _ _ ⟨v, a, h, hv0, hv1, hm⟩; cases h; refine ⟨rfl, ?_⟩)
        refine Ev.yes rfl ?_
        have e2 : IntKind.i64.wrap (1 + v) = 1 + v := wrap_id (by omega) (by omega)
        refine Ev.bindC (makeExprs_ev hE (c := IntKind.i64.wrap (1 + v)) (by rw [e2]; omega) (by rw [e2]; omega) (by assumption)) ?_
        rintro _ _ ⟨xs, a, h, hl, hx, hm⟩; cases h; refine ⟨rfl, ?_⟩
        refine Ev.yes rfl ?_
        rw [e2] at hl
        exact Ev.ret ⟨E 6 [] xs, a, rfl, ⟨6, [], xs, rfl, .inr (.inr (.inr (.inr (.inr (.inl ⟨rfl, rfl, by omega, by omega⟩))))), hx⟩, hm⟩
      refine Ev.test (fun hk => ?_) (fun hn => ?_)
      · (refine Ev.bindC (next_ev (by decide) (by decide) (by assumption)) ?_; rintro _ _ ⟨v, a, h, hv0, hv1, hm⟩; cases h; refine ⟨rfl, ?_⟩)
        refine Ev.yes rfl ?_
        have e2 : IntKind.i64.wrap (2 + v) = 2 + v := wrap_id (by omega) (by omega)
        refine Ev.bindC (makeExprs_ev hE (c := IntKind.i64.wrap (2 + v)) (by rw [e2]; omega) (by rw [e2]; omega) (by assumption)) ?_
        rintro _ _ ⟨xs, a, h, hl, hx, hm⟩; cases h; refine ⟨rfl, ?_⟩
        refine Ev.yes rfl ?_
        rw [e2] at hl
        exact Ev.ret ⟨E 7 [] xs, a, rfl, ⟨7, [], xs, rfl, .inr (.inr (.inr (.inr (.inr (.inr (.inl ⟨rfl, rfl, by omega, by omega⟩)))))), hx⟩, hm⟩
      refine Ev.test (fun hk => ?_) (fun hn => ?_)
      · (refine Ev.bindC (next_ev (by decide) (by decide) (by assumption)) ?_; rintro _ _ ⟨v, a, h, hv0, hv1, hm⟩; cases h; refine ⟨rfl, ?_⟩)
        refine Ev.yes rfl ?_
        have hv : v = 0 ∨ v = 1 := by omega
        rcases hv with rfl | rfl
        · refine Ev.yes rfl ?_
          refine Ev.yes rfl ?_
          refine Ev.bindC (name_in (by assumption)) ?_
          rintro _ _ ⟨s, a, h, hs1, hm⟩; cases h; refine ⟨rfl, ?_⟩
          refine Ev.yes rfl ?_
          refine Ev.bindC (makeExprs_ev hE (c := IntKind.i64.wrap (1 + 0)) (by decide) (by decide) (by assumption)) ?_
          rintro _ _ ⟨xs, a, h, hl, hx, hm⟩; cases h; refine ⟨rfl, ?_⟩
          refine Ev.yes rfl ?_
          exact Ev.ret ⟨E 8 s xs, a, rfl, ⟨8, s, xs, rfl, .inr (.inr (.inr (.inr (.inr (.inr (.inr (.inl ⟨rfl, hs1, hl⟩))))))), hx⟩, hm⟩
        · refine Ev.yes rfl ?_
          refine Ev.yes rfl ?_
          refine Ev.bindC (name_in (by assumption)) ?_
          rintro _ _ ⟨s, a, h, hs1, hm⟩; cases h; refine ⟨rfl, ?_⟩
          refine Ev.yes rfl ?_
          refine Ev.bindC (makeExprs_ev hE (c := IntKind.i64.wrap (1 + 1)) (by decide) (by decide) (by assumption)) ?_
          rintro _ _ ⟨xs, a, h, hl, hx, hm⟩; cases h; refine ⟨rfl, ?_⟩
          refine Ev.yes rfl ?_
          exact Ev.ret ⟨E 9 s xs, a, rfl, ⟨9, s, xs, rfl, .inr (.inr (.inr (.inr (.inr (.inr (.inr (.inr (.inl ⟨rfl, hs1, hl⟩)))))))), hx⟩, hm⟩
      · (refine Ev.bindC (next_ev (by decide) (by decide) (by assumption)) ?_; rintro _ _ ⟨v, a, h, hv0, hv1, hm⟩; cases h; refine ⟨rfl, ?_⟩)
        refine Ev.yes rfl ?_
        (refine Ev.yes (and_tt (decide_eq_true hv0) (decide_eq_true hv1)) ?_; obtain ⟨s, hs1, hs⟩ := tab_in (T := callT) hv0 hv1; refine Ev.yes (by exact congrArg (fun x => notAny (.leaf .str) && okTy (.leaf .str) x) hs) ?_)
        refine Ev.bindC (next_ev (by decide) (by decide) (by assumption)) ?_
        rintro _ _ ⟨v2, a, h, hv20, hv21, hm⟩; cases h; refine ⟨rfl, ?_⟩
        refine Ev.yes rfl ?_
        have e2 : IntKind.i64.wrap (1 + v2) = 1 + v2 := wrap_id (by omega) (by omega)
        refine Ev.bindC (makeExprs_ev hE (c := IntKind.i64.wrap (1 + v2)) (by rw [e2]; omega) (by rw [e2]; omega) (by assumption)) ?_
        rintro _ _ ⟨xs, a, h, hl, hx, hm⟩; cases h; refine ⟨rfl, ?_⟩
        refine Ev.yes rfl ?_
        rw [e2] at hl
        refine Ev.ret ⟨E 10 s xs, a, ?_, ⟨10, s, xs, rfl, .inr (.inr (.inr (.inr (.inr (.inr (.inr (.inr (.inr ⟨rfl, hs1, by omega, by omega⟩)))))))), hx⟩, hm⟩
        exact congrArg (fun x : D => (true, [D.agg [.int .i64 10, .int .i64 0, .int .i64 0, .int .i64 0, .str x.s, .lst 6 xs], .lst 1 b, .int .i64 a])) hs
end Go.Proofs.YtalibicpmfbieaaGreatDoor
