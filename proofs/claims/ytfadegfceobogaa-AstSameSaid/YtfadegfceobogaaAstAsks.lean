/- AstAsks, plain: depth and names are those of the reference. -/
import Derived.Test.YtfadegfceobogaaAstNames
import Derived.Test.YtfadegfceobogaaTexts
namespace Go.Proofs.Ytfadegfceobogaa
open Go.AE
set_option linter.unusedVariables false
set_option linter.unusedSimpArgs false
theorem sort_ev (l : List (List UInt8)) (hl : l.length ≤ maxLst) : Ev (fun n => slices_Sort_string n (.lst 1 (l.map D.str))) fun r => r = (true, [.lst 1 ((sortS l).map D.str)]) := by
  refine Ev.eq (u := fun _ => some (true, [D.lst 1 ((sortS l).map D.str)])) (fun n => slices_Sort_string_orc n _ _ ?_) (Ev.ret rfl)
  show (match strsOf (l.map D.str) with | some l => bif Nat.ble l.length maxLst then some [D.lst 1 ((sortS l).map D.str)] else none | none => none) = _
  rw [strsOf_map]
  simp only [Nat.ble_eq_true_of_le hl, cond_true]
theorem compact_ev (l : List (List UInt8)) : Ev (fun n => slices_Compact_string n (.lst 1 (l.map D.str))) fun r => r = (true, [.lst 1 ((compS l).map D.str)]) := by
  refine Ev.eq (u := fun _ => some (true, [D.lst 1 ((compS l).map D.str)])) (fun n => slices_Compact_string_orc n _ _ ?_) (Ev.ret rfl)
  show (match strsOf (l.map D.str) with | some l => some [D.lst 1 ((compS l).map D.str)] | none => none) = _
  rw [strsOf_map]
theorem pow_bound {d : Nat} (h : d ≤ 10) : 4 ^ d ≤ 1048576 := Nat.pow_le_pow_right (n := 4) (by decide) h
theorem names_ev {d : Nat} {x : D} (h : wfE d x) (hd : d ≤ 10) : Ev (fun n => ast_Names n x) fun r => r = (true, [.lst 1 ((compS (sortS (nmE d x))).map D.str)]) := by
  have hp := pow_bound hd
  cases d with
  | zero => exact h.elim
  | succ d =>
    have h0 := h
    obtain ⟨k, t, xs, rfl, hs, ha⟩ := h
    refine Ev.eq (fun n => ast_Names_eq n k 0 0 0 t xs) ?_
    refine Ev.bindC (walk_ev (d + 1) (E k t xs) [] h0 (by simp [maxLst]; omega)) ?_
    intro b ds h; cases h; refine ⟨rfl, Ev.yes rfl ?_⟩
    refine Ev.bindC (sort_ev (nmE (d + 1) (E k t xs)) (by have := nmE_le _ _ h0; simp only [maxLst]; omega)) ?_
    intro b ds h; cases h; refine ⟨rfl, Ev.yes rfl ?_⟩
    refine Ev.bindC (compact_ev _) ?_
    intro b ds h; cases h; exact ⟨rfl, Ev.yes rfl (Ev.ret rfl)⟩

/-! The reference's names. -/
theorem shapeE_text {k : Int} {t : List UInt8} {m : Nat} (h : shapeE k t m) (hk : nk k = true) : ∃ c r, t = c :: r := by
  have hne : t ≠ [] := by
    rintro rfl
    rcases h with ⟨rfl, h, _⟩ | ⟨_, h, _⟩ | ⟨rfl, h, _⟩ | ⟨rfl, h, _⟩ | ⟨rfl, h, _⟩ | ⟨rfl, h, _⟩ | ⟨rfl, h, _⟩ | ⟨_, h, _⟩ | ⟨_, h, _⟩ | ⟨_, h, _⟩ <;> first | (revert h; decide) | (revert hk; decide)
  cases t with
  | nil => exact absurd rfl hne
  | cons c r => exact ⟨c, r, rfl⟩
/-- How many stand before a text. -/
def ktw (t : List UInt8) : List (List UInt8) → Nat
  | [] => 0
  | y :: r => if lt y t = true then ktw t r + 1 else 0
theorem ktw_le (t : List UInt8) : ∀ s, ktw t s ≤ s.length
  | [] => Nat.le_refl _
  | y :: r => by have := ktw_le t r; unfold ktw; split <;> simp <;> omega
theorem ktw_before (t : List UInt8) : ∀ (s : List (List UInt8)) (j : Nat), j < ktw t s → ∃ y, s[j]? = some y ∧ lt y t = true
  | [], j, h => by simp [ktw] at h
  | y :: r, j, h => by
    unfold ktw at h
    split at h
    · rename_i hl
      cases j with
      | zero => exact ⟨y, rfl, hl⟩
      | succ j => simpa using ktw_before t r j (by omega)
    · omega
theorem ktw_at (t : List UInt8) : ∀ (s : List (List UInt8)) (y : List UInt8), s[ktw t s]? = some y → lt y t = false
  | [], y, h => by simp at h
  | x :: r, y, h => by
    unfold ktw at h
    split at h
    · exact ktw_at t r y (by simpa using h)
    · rename_i hl; simp at h; subst h; simpa using hl
theorem insU_at (t : List UInt8) : ∀ s : List (List UInt8), insU t s = if s[ktw t s]? = some t then s else s.take (ktw t s) ++ t :: s.drop (ktw t s)
  | [] => by simp [insU, ktw]
  | y :: r => by
    have ih := insU_at t r
    unfold insU ktw
    split
    · rw [ih]
      simp only [List.getElem?_cons_succ, List.take_succ_cons, List.drop_succ_cons, List.cons_append]
      split <;> rfl
    · simp only [List.getElem?_cons_zero, Option.some.injEq, List.take_zero, List.drop_zero, List.nil_append]
theorem awake_run (n : Nat) : law09_awake (n + 24) = some (true, [.bool true]) := by kernel_rfl
theorem awake09 : Ev (fun n => law09_awake n) fun r => r = (true, [.bool true]) := by
  refine ⟨_, rfl, 24, fun n hn => ?_⟩
  obtain ⟨k, rfl⟩ : ∃ k, n = k + 24 := ⟨n - 24, by omega⟩
  exact awake_run k
theorem short_ev {b : List D} (hb : Bytes b) : Ev (fun n => law09_Short n (.lst 1 b)) fun r => ∃ b', r = (true, [.lst 1 b']) ∧ Bytes b' ∧ b'.length ≤ 300 := by
  refine Ev.eq (fun n => law09_Short_eq n b) ?_
  refine Ev.test (fun h => ?_) fun h => ?_
  · have h := of_decide_eq_true h
    refine Ev.yes (by simp; omega) (Ev.ret ⟨_, rfl, fun y hy => hb y (by simpa using List.mem_of_mem_take hy), by simp; omega⟩)
  · have h := of_decide_eq_false h
    exact Ev.ret ⟨b, rfl, hb, by omega⟩
end Go.Proofs.Ytfadegfceobogaa
