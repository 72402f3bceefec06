/- Words: signs told exactly. -/
import Derived.Test.YtalibicpmfbieaaGreatDoorLexStable2
namespace Go.Proofs.YtalibicpmfbieaaGreatDoor
open Go.AE
set_option linter.unusedVariables false
set_option linter.unusedSimpArgs false
theorem idxStr_mem {sub : List UInt8} : ∀ (s : List UInt8) (j : Nat), 0 ≤ idxStr sub s j → ∀ c ∈ sub, c ∈ s
  | [], j, h => by
    unfold idxStr at h
    cases sub with
    | nil => intro c hc; simp at hc
    | cons _ _ => simp at h
  | b :: l, j, h => by
    unfold idxStr at h
    cases hp : sub.isPrefixOf (b :: l) with
    | true => intro c hc; exact (List.isPrefixOf_iff_prefix.1 hp).subset hc
    | false =>
      rw [hp] at h
      intro c hc
      exact List.mem_cons_of_mem _ (idxStr_mem l (j + 1) h c hc)
def longS : List UInt8 := [32, 60, 60, 60, 32, 62, 62, 62, 32, 60, 60, 32, 62, 62, 32, 60, 61, 32, 62, 61, 32, 61, 61, 32, 33, 61, 32, 38, 38, 32, 124, 124, 32, 126, 38, 32, 126, 124, 32, 126, 94, 32, 94, 126, 32]
/-- A text that may be a long sign. -/
def longB (t : List UInt8) : Bool := !decide (0 ≤ idxStr [32] t 0) && decide (0 ≤ idxStr ([32] ++ t ++ [32]) longS 0)
theorem blank_in : ∀ (s : List UInt8) (j : Nat), (32 : UInt8) ∈ s → 0 ≤ idxStr [32] s j
  | [], _, h => by simp at h
  | b :: l, j, h => by
    unfold idxStr
    cases hp : [(32 : UInt8)].isPrefixOf (b :: l) with
    | true => exact Int.natCast_nonneg _
    | false =>
      rcases List.mem_cons.1 h with rfl | h
      · simp at hp
      · exact blank_in l (j + 1) h
theorem longB_blank {t : List UInt8} {b : UInt8} (hb : b ∈ t) (h : blankB b = true) : longB t = false := by
  unfold longB
  rcases blankB_cases h with rfl | rfl | rfl | rfl
  · rw [decide_eq_true (blank_in t 0 hb)]; rfl
  all_goals
    cases hd : decide (0 ≤ idxStr ([32] ++ t ++ [32]) longS 0) with
    | false => simp
    | true =>
      have := idxStr_mem longS 0 (of_decide_eq_true hd) _ (List.mem_append_left _ (List.mem_append_right _ hb))
      simp [longS] at this
def oneB (b : UInt8) : Bool := decide (idxByte b [43, 45, 42, 47, 37, 38, 124, 94, 126, 33, 60, 62, 63, 58, 61, 40, 41, 91, 93, 123, 125, 59, 44, 46, 35, 64] 0 ≥ 0)
/-- How long the sign is, from j bytes downwards. -/
def signDown (s : List UInt8) : Nat → Nat
  | 0 => 0
  | 1 => 0
  | j + 2 => bif longB (s.take (j + 2)) then j + 2 else signDown s (j + 1)
def signF (s : List UInt8) : Nat := match signDown s (min 3 s.length) with
  | 0 => bif oneB (s.headD 0) then 1 else 0
  | k + 1 => k + 1
theorem signDown_is {s : List UInt8} (hs : s.length ≤ 1048576) : ∀ (j : Nat), j ≤ s.length → Ev (fun n => lex_sign_L0 n (.str s) (.int .i64 (j : Int))) fun r => (signDown s j ≠ 0 ∧ r = (true, [.int .i64 (signDown s j : Int)])) ∨ (signDown s j = 0 ∧ ∃ j', r = (false, [.str s, .int .i64 j']))
  | 0, _ => Ev.eq (fun n => lex_sign_L0_eq n _ _) (Ev.no rfl (Ev.ret (.inr ⟨rfl, _, rfl⟩)))
  | 1, _ => Ev.eq (fun n => lex_sign_L0_eq n _ _) (Ev.no rfl (Ev.ret (.inr ⟨rfl, _, rfl⟩)))
  | j + 2, hj => by
    have ih := signDown_is hs (j + 1) (by omega)
    have hw : IntKind.i64.wrap (((j + 2 : Nat) : Int) - 1) = ((j + 1 : Nat) : Int) := by rw [wrap_id (by omega) (by omega)]; omega
    have hc : (true && decide ((0 : Int) ≤ ((j + 2 : Nat) : Int)) && decide (((j + 2 : Nat) : Int) ≤ (s.length : Int))) = true := and_tt (and_tt rfl (decide_eq_true (by omega))) (decide_eq_true (by omega))
    have ht : (s.drop 0).take (((j + 2 : Nat) : Int).toNat - 0) = s.take (j + 2) := by rw [List.drop_zero, Int.toNat_natCast, Nat.sub_zero]
    have hl : (s.take (j + 2)).length ≤ 1048576 := by rw [List.length_take]; omega
    refine Ev.eq (fun n => lex_sign_L0_eq n _ _) (Ev.yes (decide_eq_true (by omega)) ?_)
    rw [ht, hw]
    refine Ev.yes hc (Ev.bindC (contains_ev (by omega) _) ?_)
    intro _ _ h; cases h
    refine ⟨rfl, Ev.yes rfl ?_⟩
    unfold signDown longB
    cases h1 : decide (0 ≤ idxStr [32] (s.take (j + 2)) 0) with
    | true => exact Ev.no rfl ih
    | false =>
      refine Ev.yes rfl (Ev.yes hc (Ev.yes (decide_eq_true (by simp only [maxStr]; omega)) (Ev.yes (decide_eq_true (by simp [maxStr]; omega)) (Ev.bindC (contains_ev (by simp) _) ?_))))
      intro _ _ h; cases h
      refine ⟨rfl, Ev.yes rfl ?_⟩
      cases h2 : decide (0 ≤ idxStr ([32] ++ s.take (j + 2) ++ [32]) longS 0) with
      | true => exact Ev.yes h2 (Ev.ret (.inl ⟨by simp, rfl⟩))
      | false => exact Ev.no h2 ih
theorem sign_is {s : List UInt8} (hs : s.length ≤ 1048576) (h0 : 0 < s.length) : Ev (fun n => lex_sign n (.str s)) fun r => r = (true, [.int .i64 (signF s : Int)]) := by
  refine Ev.eq (fun n => lex_sign_eq n s) ?_
  have hm : min (3 : Int) (s.length : Int) = ((min 3 s.length : Nat) : Int) := by omega
  rw [hm]
  unfold signF
  refine Ev.bindL (signDown_is hs (min 3 s.length) (by omega)) (fun ds h => ?_) fun ds h => ?_
  · rcases h with ⟨h1, h2⟩ | ⟨_, _, h⟩
    · cases hd : signDown s (min 3 s.length) with
      | zero => exact absurd hd h1
      | succ k => rw [hd] at h2; exact h2
    · cases h
  · rcases h with ⟨_, h⟩ | ⟨h1, _, h⟩
    · cases h
    · cases h
      rw [h1]
      cases s with
      | nil => simp at h0
      | cons b s =>
        refine Ev.yes rfl (Ev.yes (and_tt rfl (decide_eq_true (by show (0 : Int) < ((b :: s).length : Int); omega))) (Ev.bindC (indexByte_ev _ _) ?_))
        show ∀ x ds, _ = (true, [D.int .i64 (idxByte ((b.toNat : Int)).toNat.toUInt8 _ 0)]) → _
        rw [byte_back]
        intro _ _ h; cases h
        refine ⟨rfl, Ev.yes rfl ?_⟩
        cases h2 : oneB b with
        | true => exact Ev.yes h2 (Ev.ret (by simp [h2]))
        | false => exact Ev.no h2 (Ev.ret (by simp [h2]))
end Go.Proofs.YtalibicpmfbieaaGreatDoor
