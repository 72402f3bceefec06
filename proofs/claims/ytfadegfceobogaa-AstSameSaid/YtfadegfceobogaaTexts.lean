/- The order of texts; sorted lists of texts. -/
import Derived.Test.YtfadegfceobogaaAe0
import Derived.Test.YtfadegfceobogaaEng
namespace Go.Proofs.Ytfadegfceobogaa
open Go.AE
set_option linter.unusedVariables false
set_option linter.unusedSimpArgs false
def lt (a b : List UInt8) : Bool := Op.bytesLess a b
theorem lt_irrefl : ∀ a : List UInt8, lt a a = false
  | [] => rfl
  | x :: a => by
    have := lt_irrefl a
    simp only [lt, Op.bytesLess] at this ⊢
    simp [this]
theorem lt_trans : ∀ {a b c : List UInt8}, lt a b = true → lt b c = true → lt a c = true
  | _, [], _, h, _ => by simp [lt, Op.bytesLess] at h
  | _, _ :: _, [], _, h => by simp [lt, Op.bytesLess] at h
  | [], _ :: _, _ :: _, _, _ => rfl
  | x :: a, y :: b, z :: c, h1, h2 => by
    simp only [lt, Op.bytesLess, Bool.or_eq_true, decide_eq_true_eq, Bool.and_eq_true, beq_iff_eq] at h1 h2 ⊢
    rcases h1 with h1 | ⟨rfl, h1⟩
    · rcases h2 with h2 | ⟨rfl, h2⟩
      · exact .inl (UInt8.lt_trans h1 h2)
      · exact .inl h1
    · rcases h2 with h2 | ⟨rfl, h2⟩
      · exact .inl h2
      · exact .inr ⟨rfl, lt_trans (a := a) (b := b) (c := c) h1 h2⟩
theorem lt_total : ∀ (a b : List UInt8), lt a b = true ∨ a = b ∨ lt b a = true
  | [], [] => .inr (.inl rfl)
  | [], _ :: _ => .inl rfl
  | _ :: _, [] => .inr (.inr rfl)
  | x :: a, y :: b => by
    simp only [lt, Op.bytesLess, Bool.or_eq_true, decide_eq_true_eq, Bool.and_eq_true, beq_iff_eq]
    by_cases h : x < y
    · exact .inl (.inl h)
    · by_cases h' : y < x
      · exact .inr (.inr (.inl h'))
      · have e : x = y := UInt8.le_antisymm (UInt8.not_lt.1 h') (UInt8.not_lt.1 h)
        subst e
        rcases lt_total a b with k | k | k
        · exact .inl (.inr ⟨rfl, k⟩)
        · exact .inr (.inl (by rw [k]))
        · exact .inr (.inr (.inr ⟨rfl, k⟩))

/-- Sorted, no two alike. -/
def SS : List (List UInt8) → Prop
  | [] => True
  | x :: r => (∀ y ∈ r, lt x y = true) ∧ SS r
/-- Sorted. -/
def SW : List (List UInt8) → Prop
  | [] => True
  | x :: r => (∀ y ∈ r, lt y x = false) ∧ SW r
/-- Put into its place, if it is not there. -/
def insU (t : List UInt8) : List (List UInt8) → List (List UInt8)
  | [] => [t]
  | y :: r => if lt y t = true then y :: insU t r else if y = t then y :: r else t :: y :: r
theorem mem_insU {t x : List UInt8} : ∀ {s : List (List UInt8)}, x ∈ insU t s ↔ x = t ∨ x ∈ s
  | [] => by simp [insU]
  | y :: r => by
    unfold insU
    split
    · rw [List.mem_cons, mem_insU (s := r), List.mem_cons]; grind
    · split
      · rename_i e; subst e; simp
      · simp
theorem insU_SS {t : List UInt8} : ∀ {s : List (List UInt8)}, SS s → SS (insU t s)
  | [], _ => ⟨fun y hy => (by cases hy), trivial⟩
  | y :: r, ⟨h1, h2⟩ => by
    unfold insU
    split
    · rename_i hlt
      refine ⟨fun z hz => ?_, insU_SS h2⟩
      rcases mem_insU.1 hz with rfl | hz
      · exact hlt
      · exact h1 z hz
    · rename_i hlt
      split
      · exact ⟨h1, h2⟩
      · rename_i hne
        have h3 : lt t y = true := by
          rcases lt_total y t with k | k | k
          · exact absurd k hlt
          · exact absurd k hne
          · exact k
        refine ⟨fun z hz => ?_, h1, h2⟩
        rcases List.mem_cons.1 hz with rfl | hz
        · exact h3
        · exact lt_trans h3 (h1 z hz)
theorem SS_ext : ∀ {s r : List (List UInt8)}, SS s → SS r → (∀ x, x ∈ s ↔ x ∈ r) → s = r
  | [], [], _, _, _ => rfl
  | [], y :: r, _, _, h => by have := (h y).2 (by simp); cases this
  | x :: s, [], _, _, h => by have := (h x).1 (by simp); cases this
  | x :: s, y :: r, ⟨h1, h2⟩, ⟨k1, k2⟩, h => by
    have e : x = y := by
      rcases List.mem_cons.1 ((h x).1 (by simp)) with e | e
      · exact e
      · rcases List.mem_cons.1 ((h y).2 (by simp)) with e' | e'
        · exact e'.symm
        · have a := k1 x e
          have b := h1 y e'
          have := lt_trans a b
          rw [lt_irrefl] at this; cases this
    subst e
    congr 1
    refine SS_ext h2 k2 fun z => ⟨fun hz => ?_, fun hz => ?_⟩
    · rcases List.mem_cons.1 ((h z).1 (by simp [hz])) with e | e
      · subst e; have := h1 z hz; rw [lt_irrefl] at this; cases this
      · exact e
    · rcases List.mem_cons.1 ((h z).2 (by simp [hz])) with e | e
      · subst e; have := k1 z hz; rw [lt_irrefl] at this; cases this
      · exact e
theorem foldU_SS : ∀ {l s : List (List UInt8)}, SS s → SS (l.foldl (fun o t => insU t o) s)
  | [], _, h => h
  | t :: l, _, h => foldU_SS (l := l) (insU_SS h)
theorem mem_foldU {x : List UInt8} : ∀ {l s : List (List UInt8)}, x ∈ l.foldl (fun o t => insU t o) s ↔ x ∈ l ∨ x ∈ s
  | [], s => by simp
  | t :: l, s => by rw [List.foldl_cons, mem_foldU (l := l), mem_insU, List.mem_cons]; grind
theorem len_insU {t : List UInt8} : ∀ {s : List (List UInt8)}, (insU t s).length ≤ s.length + 1
  | [] => by simp [insU]
  | y :: r => by
    have := len_insU (t := t) (s := r)
    unfold insU
    split
    · simp; omega
    · split <;> simp
theorem len_foldU : ∀ {l s : List (List UInt8)}, (l.foldl (fun o t => insU t o) s).length ≤ s.length + l.length
  | [], _ => by simp
  | t :: l, s => by
    have := len_foldU (l := l) (s := insU t s)
    have := len_insU (t := t) (s := s)
    simp only [List.foldl_cons, List.length_cons]; omega

/-! What sort and compact come to. -/
theorem mem_insS {t x : List UInt8} : ∀ {s : List (List UInt8)}, x ∈ insS t s ↔ x = t ∨ x ∈ s
  | [] => by simp [insS]
  | y :: r => by
    simp only [insS]
    cases Op.bytesLess y t with
    | true => simp only [cond_true]; rw [List.mem_cons, mem_insS (s := r), List.mem_cons]; grind
    | false => simp
theorem insS_SW {t : List UInt8} : ∀ {s : List (List UInt8)}, SW s → SW (insS t s)
  | [], _ => ⟨fun y hy => (by cases hy), trivial⟩
  | y :: r, ⟨h1, h2⟩ => by
    simp only [insS]
    cases hb : Op.bytesLess y t with
    | true =>
      simp only [cond_true]
      refine ⟨fun z hz => ?_, insS_SW h2⟩
      rcases mem_insS.1 hz with rfl | hz
      · cases k : lt z y with
        | false => rfl
        | true => have := lt_trans hb k; rw [lt_irrefl] at this; cases this
      · exact h1 z hz
    | false =>
      simp only [cond_false]
      refine ⟨fun z hz => ?_, h1, h2⟩
      rcases List.mem_cons.1 hz with rfl | hz
      · exact hb
      · cases k : lt z t with
        | false => rfl
        | true =>
          have h3 := h1 z hz
          rcases lt_total y t with j | j | j
          · have : lt y t = false := hb
            rw [this] at j; cases j
          · subst j; rw [h3] at k; cases k
          · have := lt_trans k j; rw [h3] at this; cases this
theorem sortS_SW : ∀ l : List (List UInt8), SW (sortS l)
  | [] => trivial
  | _ :: l => insS_SW (sortS_SW l)
theorem mem_sortS {x : List UInt8} : ∀ {l : List (List UInt8)}, x ∈ sortS l ↔ x ∈ l
  | [] => by simp [sortS]
  | y :: l => by simp only [sortS, mem_insS, mem_sortS (l := l), List.mem_cons]
theorem len_insS {t : List UInt8} : ∀ {s : List (List UInt8)}, (insS t s).length = s.length + 1
  | [] => rfl
  | y :: r => by
    simp only [insS]
    cases Op.bytesLess y t with
    | true => simp [len_insS (s := r)]
    | false => simp
theorem len_sortS : ∀ l : List (List UInt8), (sortS l).length = l.length
  | [] => rfl
  | _ :: l => by simp [sortS, len_insS, len_sortS l]
theorem compS_eq (y z : List UInt8) (l : List (List UInt8)) : compS (y :: z :: l) = if y = z then compS (z :: l) else y :: compS (z :: l) := by
  by_cases e : y = z
  · subst e; rw [if_pos rfl]; conv => lhs; unfold compS
    simp
  · have : (y == z) = false := by simpa using e
    rw [if_neg e]; conv => lhs; unfold compS
    simp [this]
theorem mem_compS {x : List UInt8} : ∀ {l : List (List UInt8)}, x ∈ compS l ↔ x ∈ l
  | [] => by simp [compS]
  | [y] => by simp [compS]
  | y :: z :: l => by
    have ih := mem_compS (x := x) (l := z :: l)
    rw [compS_eq]
    split
    · rename_i e
      subst e
      rw [ih]; simp
    · rw [List.mem_cons, ih, List.mem_cons (a := x) (b := y)]
theorem compS_SS : ∀ {l : List (List UInt8)}, SW l → SS (compS l)
  | [], _ => trivial
  | [y], _ => ⟨fun z hz => (by cases hz), trivial⟩
  | y :: z :: l, ⟨h1, h2⟩ => by
    have ih := compS_SS (l := z :: l) h2
    have hm := fun x => mem_compS (x := x) (l := z :: l)
    by_cases e : y = z
    · rw [compS_eq, if_pos e]; exact ih
    · rw [compS_eq, if_neg e]
      refine ⟨fun x hx => ?_, ih⟩
      have hx := (hm x).1 hx
      have hyz : lt y z = true := by
        rcases lt_total y z with k | k | k
        · exact k
        · exact absurd k e
        · rw [h1 z (by simp)] at k; cases k
      rcases List.mem_cons.1 hx with rfl | hx
      · exact hyz
      · rcases lt_total y x with k | k | k
        · exact k
        · subst k
          have := h2.1 y hx
          rw [hyz] at this; cases this
        · rw [h1 x (by simp [hx])] at k; cases k
/-- Sorted and compacted is what putting each in its place comes to. -/
theorem comp_sort (l : List (List UInt8)) : compS (sortS l) = l.foldl (fun o t => insU t o) [] :=
  SS_ext (compS_SS (sortS_SW l)) (foldU_SS trivial) fun x => by rw [mem_compS, mem_sortS, mem_foldU]; simp
theorem len_compS : ∀ l : List (List UInt8), (compS l).length ≤ l.length
  | [] => by simp [compS]
  | [y] => by simp [compS]
  | y :: z :: l => by
    have := len_compS (z :: l)
    rw [compS_eq]
    split
    · simp only [List.length_cons] at this ⊢; omega
    · simp only [List.length_cons] at this ⊢; omega
theorem strsOf_map (l : List (List UInt8)) : strsOf (l.map D.str) = some l := by
  induction l with
  | nil => rfl
  | cons x l ih => simp [strsOf, ih]
end Go.Proofs.Ytfadegfceobogaa
