/- What holds of names, their kinds and numbers. -/
import Derived.Test.YthlhbocobgkdmaaGreatZsB
namespace Go.Proofs.YthlhbocobgkdmaaGreat
open Go.AE
set_option linter.unusedVariables false
set_option linter.unusedSimpArgs false
theorem lookT_app (u : List UInt8) (t : Th) : ∀ l : List Th, lookT u (l ++ [t]) = match lookT u l with | some x => some x | none => bif t.nm == u then some t else none
  | [] => rfl
  | x :: l => by
    show (bif x.nm == u then some x else lookT u (l ++ [t])) = match (bif x.nm == u then some x else lookT u l) with | some x => some x | none => bif t.nm == u then some t else none
    cases x.nm == u with
    | true => rfl
    | false => exact lookT_app u t l
theorem lookT_out (u v : List UInt8) : ∀ l : List Th, lookT u (outT v l) = bif v == u then none else lookT u l
  | [] => by cases v == u <;> rfl
  | x :: l => by
    have h := lookT_out u v l
    cases hv : x.nm == v with
    | true =>
      have e : outT v (x :: l) = outT v l := by unfold outT; rw [List.filter_cons_of_neg (by simp [hv])]
      rw [e, h]
      cases hu : v == u with
      | true => rfl
      | false =>
        show lookT u l = bif x.nm == u then some x else lookT u l
        rw [eq_of_beq hv, hu]; rfl
    | false =>
      have e : outT v (x :: l) = x :: outT v l := by unfold outT; rw [List.filter_cons_of_pos (by simp [hv])]
      rw [e]
      show (bif x.nm == u then some x else lookT u (outT v l)) = bif v == u then none else bif x.nm == u then some x else lookT u l
      rw [h]
      cases hu : x.nm == u with
      | false => rfl
      | true =>
        have : (v == u) = false := by
          cases hh : v == u with
          | false => rfl
          | true => rw [eq_of_beq hu, ← eq_of_beq hh] at hv; simp at hv
        rw [this]; rfl
theorem lookT_now (u : List UInt8) (t : Th) (l : List Th) : lookT u (nowT t l) = bif t.nm == u then some t else lookT u l := by
  rw [nowT, lookT_app, lookT_out]
  cases t.nm == u with
  | true => rfl
  | false =>
    simp only [cond_false]
    cases lookT u l <;> rfl
def namesT (l : List Th) : List (List UInt8) := l.map (·.nm)
theorem lookT_none {u : List UInt8} : ∀ {l : List Th}, u ∉ namesT l → lookT u l = none
  | [], _ => rfl
  | x :: l, h => by
    have h1 : u ≠ x.nm ∧ u ∉ namesT l := by simpa [namesT] using h
    show (bif x.nm == u then some x else lookT u l) = none
    rw [beq_eq_false_iff_ne.2 (Ne.symm h1.1)]
    exact lookT_none h1.2
theorem nodup_now (t : Th) {l : List Th} (h : (namesT l).Nodup) : (namesT (nowT t l)).Nodup := by
  unfold namesT nowT
  rw [List.map_append, List.nodup_append]
  refine ⟨h.sublist (List.Sublist.map _ (List.filter_sublist ..)), by simp, ?_⟩
  intro a ha b hb
  obtain ⟨x, hx, rfl⟩ := List.mem_map.1 ha
  have hx := (List.mem_filter.1 hx).2
  simp only [List.map_cons, List.map_nil, List.mem_singleton] at hb
  subst hb
  simpa using hx
theorem plainF_nodup : ∀ {l : List Th} {e : Env0}, (keysF e).Nodup → (keysF (plainF e l)).Nodup
  | [], e, h => h
  | x :: l, e, h => by
    show (keysF (plainF (bif x.kd == 1 then withF x.nm x.nu e else e) l)).Nodup
    refine plainF_nodup ?_
    cases x.kd == 1 with
    | true => exact nodup_keysF_with h
    | false => exact h
theorem plainF_look (u : List UInt8) : ∀ {l : List Th} (e : Env0), (namesT l).Nodup → lookF u (plainF e l) = match lookT u l with | some x => (bif x.kd == 1 then some x.nu else lookF u e) | none => lookF u e
  | [], e, _ => rfl
  | x :: l, e, h => by
    have h : x.nm ∉ namesT l ∧ (namesT l).Nodup := by simpa [namesT] using h
    show lookF u (plainF (bif x.kd == 1 then withF x.nm x.nu e else e) l) = match (bif x.nm == u then some x else lookT u l) with | some x => (bif x.kd == 1 then some x.nu else lookF u e) | none => lookF u e
    rw [plainF_look u _ h.2]
    cases hu : x.nm == u with
    | true =>
      have hn : lookT u l = none := lookT_none (by rw [← eq_of_beq hu]; exact h.1)
      rw [hn]
      show lookF u (bif x.kd == 1 then withF x.nm x.nu e else e) = bif x.kd == 1 then some x.nu else lookF u e
      cases x.kd == 1 with
      | true =>
        show lookF u (withF x.nm x.nu e) = some x.nu
        rw [lookF_with, hu]; rfl
      | false => rfl
    | false =>
      have hn : lookF u (bif x.kd == 1 then withF x.nm x.nu e else e) = lookF u e := by
        cases x.kd == 1 with
        | true =>
          show lookF u (withF x.nm x.nu e) = _
          rw [lookF_with, hu]; rfl
        | false => rfl
      rw [hn]; rfl
structure Inv (l : List Th) (e k w : Env0) (j : Nat) : Prop where
  nd : (namesT l).Nodup
  kd : (keysF k).Nodup
  ed : (keysF e).Nodup
  ll : l.length ≤ j
  el : e.length ≤ j
  kl : k.length ≤ j
  wl : w.length ≤ j
  hk : ∀ u, lookF u k = (lookT u l).map (·.kd)
  hx : ∀ u x, lookT u l = some x → (x.kd = 1 ∨ x.kd = 2 ∨ x.kd = 3) ∧ (x.kd ≠ 3 → lookF u w = some x.nu) ∧ (x.kd = 2 → x.sw = 3)
  he : ∀ u, lookF u e = match lookT u l with | some x => (bif x.kd == 1 then some x.nu else none) | none => none
theorem Inv.mono {l : List Th} {e k w : Env0} {i j : Nat} (h : Inv l e k w i) (hij : i ≤ j) : Inv l e k w j :=
  ⟨h.nd, h.kd, h.ed, Nat.le_trans h.ll hij, Nat.le_trans h.el hij, Nat.le_trans h.kl hij, Nat.le_trans h.wl hij, h.hk, h.hx, h.he⟩
theorem Inv.nil : Inv [] [] [] [] 0 :=
  ⟨List.nodup_nil, List.nodup_nil, List.nodup_nil, Nat.le_refl _, Nat.le_refl _, Nat.le_refl _, Nat.le_refl _, fun _ => rfl, (fun _ _ h => by cases h), fun _ => rfl⟩
theorem Inv.step {l : List Th} {e e' k w : Env0} {j : Nat} (h : Inv l e k w j) (t : Th) (n : Int) (ht : t.kd = 1 ∨ t.kd = 2 ∨ t.kd = 3) (hn : t.kd ≠ 3 → t.nu = n) (hs : t.kd = 2 → t.sw = 3) (h1 : (keysF e').Nodup) (h2 : e'.length ≤ j + 1)
    (h3 : ∀ u, lookF u e' = match lookT u (nowT t l) with | some x => (bif x.kd == 1 then some x.nu else none) | none => none) : Inv (nowT t l) e' (withF t.nm t.kd k) (withF t.nm n w) (j + 1) := by
  have a1 := nowT_len t l
  have a2 := h.ll
  have a3 := withF_len t.nm t.kd k
  have a4 := h.kl
  have a5 := withF_len t.nm n w
  have a6 := h.wl
  refine ⟨nodup_now t h.nd, nodup_keysF_with h.kd, h1, by omega, h2, by omega, by omega, fun u => ?_, fun u x hx => ?_, h3⟩
  · rw [lookF_with, lookT_now, h.hk]
    cases t.nm == u <;> rfl
  · rw [lookT_now] at hx
    rw [lookF_with]
    cases hu : t.nm == u with
    | true =>
      rw [hu] at hx
      cases hx
      exact ⟨ht, fun h3 => by rw [← hn h3]; rfl, hs⟩
    | false =>
      rw [hu] at hx
      exact h.hx u x hx
theorem Inv.const {l : List Th} {e k w : Env0} {j : Nat} (h : Inv l e k w j) (u : List UInt8) (m : Int) : Inv (nowT (thC u m) l) (withF u m e) (withF u 1 k) (withF u m w) (j + 1) := by
  refine h.step (thC u m) m (.inl rfl) (fun _ => rfl) (fun h => by cases h) (nodup_keysF_with h.ed) ?_ fun v => ?_
  · have a1 := withF_len u m e
    have a2 := h.el
    omega
  · rw [lookF_with, lookT_now, h.he]
    show _ = match (bif u == v then some (thC u m) else lookT v l) with | some x => (bif x.kd == 1 then some x.nu else none) | none => none
    cases u == v <;> rfl
theorem Inv.other {l : List Th} {e k w : Env0} {j : Nat} (h : Inv l e k w j) (t : Th) (n : Int) (ht : t.kd = 2 ∨ t.kd = 3) (hn : t.kd ≠ 3 → t.nu = n) (hs : t.kd = 2 → t.sw = 3) : Inv (nowT t l) (plainF [] (nowT t l)) (withF t.nm t.kd k) (withF t.nm n w) (j + 1) := by
  refine h.step t n (.inr ht) hn hs (plainF_nodup List.nodup_nil) ?_ fun v => ?_
  · have a1 := plainF_len (nowT t l) []
    have a2 := nowT_len t l
    have a3 := h.ll
    simp only [List.length_nil] at a1
    omega
  · exact plainF_look v [] (nodup_now t h.nd)
/-- The names with a number. -/
theorem look_mem {u : List UInt8} {q : Int} : ∀ {k : Env0}, lookF u k = some q → (u, q) ∈ k
  | [], h => by cases h
  | p :: k, h => by
    have h : (bif p.1 == u then some p.2 else lookF u k) = some q := h
    cases hp : p.1 == u with
    | true =>
      rw [hp] at h
      cases h
      rw [← eq_of_beq hp]
      exact List.mem_cons_self ..
    | false =>
      rw [hp] at h
      exact List.mem_cons_of_mem _ (look_mem h)
theorem mem_look {u : List UInt8} {q : Int} : ∀ {k : Env0}, (keysF k).Nodup → (u, q) ∈ k → lookF u k = some q
  | [], _, h => absurd h (List.not_mem_nil)
  | p :: k, hn, h => by
    have hn : p.1 ∉ keysF k ∧ (keysF k).Nodup := by simpa [keysF] using hn
    show (bif p.1 == u then some p.2 else lookF u k) = some q
    rcases List.mem_cons.1 h with h | h
    · rw [← h]; simp
    · have : u ∈ keysF k := List.mem_map.2 ⟨_, h, rfl⟩
      have hp : (p.1 == u) = false := beq_eq_false_iff_ne.2 fun e => hn.1 (e ▸ this)
      rw [hp]
      exact mem_look hn.2 h
def ones (k : Env0) : List (List UInt8) := (k.filter fun p => p.2 == 1).map (·.1)
theorem mem_ones {k : Env0} {u : List UInt8} : u ∈ ones k ↔ (u, 1) ∈ k := by
  unfold ones
  rw [List.mem_map]
  constructor
  · rintro ⟨⟨a, b⟩, h, rfl⟩
    obtain ⟨h1, h2⟩ := List.mem_filter.1 h
    have h2 : (b == 1) = true := h2
    rw [eq_of_beq h2] at h1
    exact h1
  · intro h
    exact ⟨_, List.mem_filter.2 ⟨h, rfl⟩, rfl⟩
theorem Inv.count {l : List Th} {e k w : Env0} {j : Nat} (h : Inv l e k w j) : e.length = (k.filter fun p => p.2 == 1).length := by
  have hn : (ones k).Nodup := h.kd.sublist (List.Sublist.map _ (List.filter_sublist ..))
  have hl : (ones k).length = (k.filter fun p => p.2 == 1).length := by simp [ones]
  have he := len_keysF e
  have key : ∀ u, u ∈ keysF e ↔ u ∈ ones k := by
    intro u
    have h1 : u ∈ keysF e ↔ lookF u e ≠ none := by
      constructor
      · intro hu hno
        cases hi : idxF u e with
        | none => exact idxF_mem.1 hi hu
        | some i => obtain ⟨_, _, h3⟩ := idxF_some hi; rw [h3] at hno; cases hno
      · intro hu
        cases hi : idxF u e with
        | none => exact absurd (idxF_none hi) hu
        | some i =>
          obtain ⟨h3, h4, _⟩ := idxF_some hi
          exact List.mem_map.2 ⟨_, List.getElem_mem h3, h4⟩
    rw [h1, mem_ones, h.he u]
    constructor
    · intro hu
      refine look_mem ?_
      rw [h.hk u]
      cases hx : lookT u l with
      | none => rw [hx] at hu; exact absurd rfl hu
      | some x =>
        rw [hx] at hu
        cases hk : x.kd == 1 with
        | true => show some x.kd = some 1; rw [eq_of_beq hk]
        | false => simp only [hk] at hu; exact absurd rfl hu
    · intro hu
      have hu := mem_look h.kd hu
      rw [h.hk u] at hu
      cases hx : lookT u l with
      | none => rw [hx] at hu; cases hu
      | some x =>
        rw [hx] at hu
        have hu : some x.kd = some 1 := hu
        cases hu' : x.kd == 1 with
        | true => simp [hu']
        | false => rw [Option.some.inj hu] at hu'; cases hu'
  have a := nodup_le h.ed fun x hx => (key x).1 hx
  have b := nodup_le hn fun x hx => (key x).2 hx
  omega
end Go.Proofs.YthlhbocobgkdmaaGreat
