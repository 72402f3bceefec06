/- Maps from texts to numbers, as lists of pairs. -/
import Derived.Test.YthlhbocobgkdmaaGreatAe0
import Derived.Test.YthlhbocobgkdmaaGreatEng
namespace Go.Proofs.YthlhbocobgkdmaaGreat
open Go.AE
set_option linter.unusedVariables false
set_option linter.unusedSimpArgs false
abbrev Env0 := List (List UInt8 × Int)
def nmD (p : List UInt8 × Int) : D := .agg [.str p.1, .int .i64 p.2]
def lookF (t : List UInt8) : Env0 → Option Int
  | [] => none
  | p :: r => bif p.1 == t then some p.2 else lookF t r
def idxF (t : List UInt8) : Env0 → Option Nat
  | [] => none
  | p :: r => bif p.1 == t then some 0 else (idxF t r).map (· + 1)
def idxI (t : List UInt8) (l : Env0) : Int := match idxF t l with
  | some i => (i : Int)
  | none => -1
def withF (t : List UInt8) (n : Int) (l : Env0) : Env0 := match idxF t l with
  | some i => l.set i (t, n)
  | none => l ++ [(t, n)]
theorem idxF_some {t : List UInt8} : ∀ {l : Env0} {i : Nat}, idxF t l = some i → ∃ h : i < l.length, l[i].1 = t ∧ lookF t l = some l[i].2
  | [], i, h => by cases h
  | p :: r, i, h => by
    unfold idxF at h
    unfold lookF
    cases hp : p.1 == t with
    | true =>
      rw [hp] at h
      cases h
      exact ⟨by simp, eq_of_beq hp, rfl⟩
    | false =>
      rw [hp] at h
      simp only [cond_false] at h ⊢
      cases hr : idxF t r with
      | none => rw [hr] at h; cases h
      | some k =>
        rw [hr] at h
        cases h
        obtain ⟨h1, h2, h3⟩ := idxF_some hr
        exact ⟨by simp; omega, h2, h3⟩
theorem idxF_none {t : List UInt8} : ∀ {l : Env0}, idxF t l = none → lookF t l = none
  | [], h => rfl
  | p :: r, h => by
    unfold idxF at h
    unfold lookF
    cases hp : p.1 == t with
    | true => rw [hp] at h; cases h
    | false =>
      rw [hp] at h
      simp only [cond_false] at h ⊢
      cases hr : idxF t r with
      | none => exact idxF_none hr
      | some k => rw [hr] at h; cases h
theorem lookF_set {t u : List UInt8} {n : Int} : ∀ {l : Env0} {i : Nat}, idxF t l = some i → lookF u (l.set i (t, n)) = bif t == u then some n else lookF u l
  | [], i, h => by cases h
  | p :: r, i, h => by
    unfold idxF at h
    cases hp : p.1 == t with
    | true =>
      rw [hp] at h
      cases h
      have e := eq_of_beq hp
      show (bif t == u then some n else lookF u r) = bif t == u then some n else bif p.1 == u then some p.2 else lookF u r
      rw [e]
      cases t == u <;> rfl
    | false =>
      rw [hp] at h
      simp only [cond_false] at h
      cases hr : idxF t r with
      | none => rw [hr] at h; cases h
      | some k =>
        rw [hr] at h
        cases h
        show (bif p.1 == u then some p.2 else lookF u (r.set k (t, n))) = bif t == u then some n else bif p.1 == u then some p.2 else lookF u r
        rw [lookF_set hr]
        cases hu : p.1 == u with
        | false => rfl
        | true =>
          have e := eq_of_beq hu
          have : (t == u) = false := by
            cases ht : t == u with
            | false => rfl
            | true =>
              have e2 := eq_of_beq ht
              rw [e, ← e2] at hp
              simp at hp
          rw [this]; rfl
theorem lookF_app {t u : List UInt8} {n : Int} : ∀ {l : Env0}, idxF t l = none → lookF u (l ++ [(t, n)]) = bif t == u then some n else lookF u l
  | [], h => rfl
  | p :: r, h => by
    unfold idxF at h
    cases hp : p.1 == t with
    | true => rw [hp] at h; cases h
    | false =>
      rw [hp] at h
      simp only [cond_false] at h
      have hr : idxF t r = none := by
        cases hr : idxF t r with
        | none => rfl
        | some k => rw [hr] at h; cases h
      show (bif p.1 == u then some p.2 else lookF u (r ++ [(t, n)])) = bif t == u then some n else bif p.1 == u then some p.2 else lookF u r
      rw [lookF_app hr]
      cases hu : p.1 == u with
      | false => rfl
      | true =>
        have e := eq_of_beq hu
        have : (t == u) = false := by
          cases ht : t == u with
          | false => rfl
          | true =>
            have e2 := eq_of_beq ht
            rw [e, ← e2] at hp
            simp at hp
        rw [this]; rfl
theorem lookF_with (t u : List UInt8) (n : Int) (l : Env0) : lookF u (withF t n l) = bif t == u then some n else lookF u l := by
  unfold withF
  cases h : idxF t l with
  | none => exact lookF_app h
  | some i => exact lookF_set h
theorem withF_len (t : List UInt8) (n : Int) (l : Env0) : (withF t n l).length ≤ l.length + 1 := by
  unfold withF
  cases idxF t l with
  | none => simp
  | some i => simp
theorem findM_is (t : List UInt8) : ∀ l : Env0, findM (.str t) (l.map nmD) = idxF t l
  | [] => rfl
  | p :: r => by
    show (bif (t == p.1) then some 0 else (match findM (.str t) (r.map nmD) with | some i => some (i + 1) | none => none)) = bif p.1 == t then some 0 else (idxF t r).map (· + 1)
    rw [findM_is t r, BEq.comm (a := t)]
    cases idxF t r <;> rfl
theorem put_is (t : List UInt8) (m : Int) (l : Env0) : putM (.str t) (.int .i64 m) (l.map nmD) = (withF t m l).map nmD := by
  unfold putM withF
  rw [findM_is]
  cases idxF t l with
  | none => simp [nmD]
  | some i => simp [nmD, List.map_set]
theorem mget_is (t : List UInt8) (l : Env0) : getM (.int .i64 0) (.str t) (l.map nmD) = .int .i64 ((lookF t l).getD 0) := by
  unfold getM
  rw [findM_is]
  cases h : idxF t l with
  | none => rw [idxF_none h]; rfl
  | some i =>
    obtain ⟨hi, h1, h2⟩ := idxF_some h
    rw [h2]
    simp only [List.getElem?_map, List.getElem?_eq_getElem hi, Option.map_some, Option.getD_some]
    rfl
theorem mhas_is (t : List UInt8) (l : Env0) : hasM (.str t) (l.map nmD) = (lookF t l).isSome := by
  unfold hasM
  rw [findM_is]
  cases h : idxF t l with
  | none => rw [idxF_none h]; rfl
  | some i =>
    obtain ⟨hi, h1, h2⟩ := idxF_some h
    rw [h2]; rfl

/-! The keys. -/
def keysF (l : Env0) : List (List UInt8) := l.map (·.1)
theorem idxF_mem {t : List UInt8} : ∀ {l : Env0}, idxF t l = none ↔ t ∉ keysF l
  | [] => by simp [idxF, keysF]
  | p :: r => by
    have ih := idxF_mem (t := t) (l := r)
    unfold idxF
    show (bif p.1 == t then some 0 else (idxF t r).map (· + 1)) = none ↔ t ∉ p.1 :: keysF r
    cases hp : p.1 == t with
    | true =>
      have e := eq_of_beq hp
      simp [e]
    | false =>
      have e : p.1 ≠ t := by simpa using hp
      simp only [cond_false, Option.map_eq_none_iff, ih, List.mem_cons, not_or]
      exact ⟨fun h => ⟨fun k => e k.symm, h⟩, fun h => h.2⟩
theorem keysF_with (t : List UInt8) (n : Int) (l : Env0) : keysF (withF t n l) = if t ∈ keysF l then keysF l else keysF l ++ [t] := by
  unfold withF
  cases h : idxF t l with
  | none => rw [if_neg (idxF_mem.1 h)]; simp [keysF]
  | some i =>
    have hm : t ∈ keysF l := by
      rcases Classical.em (t ∈ keysF l) with k | k
      · exact k
      · rw [idxF_mem.2 k] at h; cases h
    obtain ⟨hi, h1, h2⟩ := idxF_some h
    rw [if_pos hm]
    show (l.set i (t, n)).map (·.1) = l.map (·.1)
    rw [List.map_set]
    apply List.ext_getElem?
    intro j
    rw [List.getElem?_set]
    split
    · rename_i e; subst e
      simp [hi, h1]
    · rfl
theorem mem_keysF_with {t x : List UInt8} {n : Int} {l : Env0} : x ∈ keysF (withF t n l) ↔ x = t ∨ x ∈ keysF l := by
  rw [keysF_with]
  split
  · rename_i h
    exact ⟨.inr, fun k => by rcases k with rfl | k; exact h; exact k⟩
  · simp only [List.mem_append, List.mem_singleton]
    exact ⟨Or.symm, Or.symm⟩
theorem nodup_keysF_with {t : List UInt8} {n : Int} {l : Env0} (h : (keysF l).Nodup) : (keysF (withF t n l)).Nodup := by
  rw [keysF_with]
  split
  · exact h
  · rename_i k
    refine List.nodup_append.2 ⟨h, by simp, fun a ha b hb e => ?_⟩
    simp only [List.mem_singleton] at hb
    subst hb; subst e
    exact k ha
theorem len_keysF (l : Env0) : (keysF l).length = l.length := by simp [keysF]
theorem nodup_le {α : Type} [DecidableEq α] : ∀ {a b : List α}, a.Nodup → (∀ x ∈ a, x ∈ b) → a.length ≤ b.length
  | [], _, _, _ => by simp
  | x :: a, b, h, hm => by
    obtain ⟨h1, h2⟩ := List.nodup_cons.1 h
    have hx := hm x (by simp)
    have := nodup_le (b := b.erase x) h2 fun y hy => (List.mem_erase_of_ne (fun (e : y = x) => h1 (by rw [← e]; exact hy))).2 (hm y (by simp [hy]))
    have := List.length_erase_of_mem hx
    have := List.length_pos_of_mem hx
    simp only [List.length_cons]; omega
/-- All the texts of a list, with one number. -/
def allF (v : Int) (l : List (List UInt8)) (m : Env0) : Env0 := l.foldl (fun m s => withF s v m) m
theorem allF_keys {v : Int} {x : List UInt8} : ∀ {l : List (List UInt8)} {m : Env0}, x ∈ keysF (allF v l m) ↔ x ∈ l ∨ x ∈ keysF m
  | [], m => by simp [allF]
  | s :: l, m => by
    have ih := allF_keys (v := v) (x := x) (l := l) (m := withF s v m)
    show x ∈ keysF (allF v l (withF s v m)) ↔ _
    rw [ih, mem_keysF_with, List.mem_cons]
    grind
theorem allF_nodup {v : Int} : ∀ {l : List (List UInt8)} {m : Env0}, (keysF m).Nodup → (keysF (allF v l m)).Nodup
  | [], _, h => h
  | _ :: l, _, h => allF_nodup (l := l) (nodup_keysF_with h)
theorem allF_look {v : Int} : ∀ {l : List (List UInt8)} {m : Env0}, (∀ s, s ∈ keysF m → lookF s m = some v) → ∀ s, s ∈ keysF (allF v l m) → lookF s (allF v l m) = some v
  | [], _, h => h
  | t :: l, m, h => allF_look (l := l) (m := withF t v m) fun s hs => by
    rw [lookF_with]
    cases e : t == s with
    | true => rfl
    | false =>
      rcases mem_keysF_with.1 hs with k | k
      · rw [k] at e; simp at e
      · exact h s k
theorem allF_len {v : Int} : ∀ {l : List (List UInt8)} {m : Env0}, (allF v l m).length ≤ m.length + l.length
  | [], m => by simp [allF]
  | t :: l, m => by
    have h1 := allF_len (v := v) (l := l) (m := withF t v m)
    have h2 := withF_len t v m
    show (allF v l (withF t v m)).length ≤ _
    simp only [List.length_cons]; omega
end Go.Proofs.YthlhbocobgkdmaaGreat
