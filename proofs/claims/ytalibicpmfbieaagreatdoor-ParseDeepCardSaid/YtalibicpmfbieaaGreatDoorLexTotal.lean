/- Words: every function of the lexer returns. -/
import Derived.Test.YtalibicpmfbieaaGreatDoorLitParse
namespace Go.Proofs.YtalibicpmfbieaaGreatDoor
open Go.AE
set_option linter.unusedVariables false
set_option linter.unusedSimpArgs false
theorem evfix {t : Nat → Out} {P : Bool × List D → Prop} (h : Ev t P) : ∃ r, P r ∧ Ev t (fun x => x = r) := by
  obtain ⟨r, h1, h2⟩ := h
  exact ⟨r, h1, r, rfl, h2⟩
theorem contains_ev {s : List UInt8} (hs : s.length ≤ 4294967280) (t : List UInt8) : Ev (fun n => strings_Contains n (.str s) (.str t)) fun r => r = (true, [.bool (decide (0 ≤ idxStr t s 0))]) := by
  refine Ev.eq (u := fun _ => some (true, [D.bool (decide (0 ≤ idxStr t s 0))])) (fun n => strings_Contains_orc n _ _ _ ?_) (Ev.ret rfl)
  show (bif Nat.ble s.length 4294967280 then some [D.bool (decide (0 ≤ idxStr t s 0))] else none) = _
  rw [Nat.ble_eq_true_of_le (by omega)]; rfl
def IsB (r : Bool × List D) : Prop := ∃ b, r = (true, [.bool b])
theorem letter_ev (x : Int) : Ev (fun n => lex_letter n (.int .u8 x)) IsB := by
  refine Ev.eq (fun n => lex_letter_eq n x) (Ev.test (fun _ => Ev.test (fun _ => Ev.ret ⟨_, rfl⟩) fun _ => ?_) fun _ => ?_)
  all_goals exact Ev.test (fun _ => Ev.test (fun _ => Ev.ret ⟨_, rfl⟩) fun _ => Ev.ret ⟨_, rfl⟩) fun _ => Ev.ret ⟨_, rfl⟩
theorem digit_ev (x : Int) : Ev (fun n => lex_digit n (.int .u8 x)) IsB :=
  Ev.eq (fun n => lex_digit_eq n x) (Ev.test (fun _ => Ev.ret ⟨_, rfl⟩) fun _ => Ev.ret ⟨_, rfl⟩)
theorem word1_ev (x : Int) : Ev (fun n => lex_word_1 n (.int .u8 x)) IsB := by
  refine Ev.eq (fun n => lex_word_1_eq n x) (Ev.bindC (letter_ev _) ?_)
  rintro _ _ ⟨b, h⟩; cases h; refine ⟨rfl, Ev.yes rfl (Ev.test (fun _ => Ev.ret ⟨_, rfl⟩) fun _ => Ev.bindC (digit_ev _) ?_)⟩
  rintro _ _ ⟨b, h⟩; cases h; exact ⟨rfl, Ev.yes rfl (Ev.ret ⟨_, rfl⟩)⟩
theorem number1_ev (x : Int) : Ev (fun n => lex_number_1 n (.int .u8 x)) IsB := by
  refine Ev.eq (fun n => lex_number_1_eq n x) (Ev.bindC (digit_ev _) ?_)
  rintro _ _ ⟨b, h⟩; cases h; exact ⟨rfl, Ev.yes rfl (Ev.test (fun _ => Ev.ret ⟨_, rfl⟩) fun _ => Ev.ret ⟨_, rfl⟩)⟩
theorem number2_ev (x : Int) : Ev (fun n => lex_number_2 n (.int .u8 x)) IsB := by
  refine Ev.eq (fun n => lex_number_2_eq n x) (Ev.bindC (digit_ev _) ?_)
  rintro _ _ ⟨b, h⟩; cases h; refine ⟨rfl, Ev.yes rfl (Ev.test (fun _ => Ev.ret ⟨_, rfl⟩) fun _ => Ev.bindC (letter_ev _) ?_)⟩
  rintro _ _ ⟨b, h⟩; cases h; exact ⟨rfl, Ev.yes rfl (Ev.ret ⟨_, rfl⟩)⟩
def UpTo (m : Nat) (r : Bool × List D) : Prop := ∃ k : Nat, r = (true, [.int .i64 (k : Int)]) ∧ k ≤ m
theorem span_2_ev {s : List UInt8} (hs : s.length ≤ 1048576) : Ev (fun n => lex_span_2 n (.str s)) (UpTo s.length) := by
  refine Ev.eq (fun n => lex_span_2_eq n s) ?_
  have loop : ∀ (m j : Nat), s.length - j = m → j ≤ s.length →
      Ev (fun n => lex_span_2_L0 n (.str s) (.int .i64 (j : Int))) fun r => ∃ j' : Nat, r = (false, [.str s, .int .i64 (j' : Int)]) ∧ j' ≤ s.length := by
    intro m
    induction m with
    | zero => intro j hm hj; exact Ev.eq (fun n => lex_span_2_L0_eq n _ _) (Ev.no (decide_eq_false (by omega)) (Ev.ret ⟨j, rfl, hj⟩))
    | succ m ih =>
      intro j hm hj
      have hj2 : j < s.length := by omega
      have hw : IntKind.i64.wrap ((j : Int) + 1) = ((j + 1 : Nat) : Int) := wrap_succ (by omega)
      refine Ev.eq (fun n => lex_span_2_L0_eq n _ _) (Ev.yes (decide_eq_true (by omega)) (Ev.yes (in_range hj2) (Ev.bindC (word1_ev _) ?_)))
      rintro _ _ ⟨b, h⟩; cases h; refine ⟨rfl, Ev.yes rfl (Ev.test (fun _ => ?_) fun _ => Ev.ret ⟨j, rfl, hj⟩)⟩
      rw [hw]; exact ih (j + 1) (by omega) hj2
  refine Ev.bindL (loop s.length 0 rfl (Nat.zero_le _)) (fun ds h => by obtain ⟨_, h, _⟩ := h; cases h) fun ds h => ?_
  obtain ⟨j', h, hj⟩ := h
  cases h
  exact Ev.yes rfl (Ev.ret ⟨j', rfl, hj⟩)
theorem span_3_ev {s : List UInt8} (hs : s.length ≤ 1048576) : Ev (fun n => lex_span_3 n (.str s)) (UpTo s.length) := by
  refine Ev.eq (fun n => lex_span_3_eq n s) ?_
  have loop : ∀ (m j : Nat), s.length - j = m → j ≤ s.length →
      Ev (fun n => lex_span_3_L0 n (.str s) (.int .i64 (j : Int))) fun r => ∃ j' : Nat, r = (false, [.str s, .int .i64 (j' : Int)]) ∧ j' ≤ s.length := by
    intro m
    induction m with
    | zero => intro j hm hj; exact Ev.eq (fun n => lex_span_3_L0_eq n _ _) (Ev.no (decide_eq_false (by omega)) (Ev.ret ⟨j, rfl, hj⟩))
    | succ m ih =>
      intro j hm hj
      have hj2 : j < s.length := by omega
      have hw : IntKind.i64.wrap ((j : Int) + 1) = ((j + 1 : Nat) : Int) := wrap_succ (by omega)
      refine Ev.eq (fun n => lex_span_3_L0_eq n _ _) (Ev.yes (decide_eq_true (by omega)) (Ev.yes (in_range hj2) (Ev.bindC (number1_ev _) ?_)))
      rintro _ _ ⟨b, h⟩; cases h; refine ⟨rfl, Ev.yes rfl (Ev.test (fun _ => ?_) fun _ => Ev.ret ⟨j, rfl, hj⟩)⟩
      rw [hw]; exact ih (j + 1) (by omega) hj2
  refine Ev.bindL (loop s.length 0 rfl (Nat.zero_le _)) (fun ds h => by obtain ⟨_, h, _⟩ := h; cases h) fun ds h => ?_
  obtain ⟨j', h, hj⟩ := h
  cases h
  exact Ev.yes rfl (Ev.ret ⟨j', rfl, hj⟩)
theorem span_4_ev {s : List UInt8} (hs : s.length ≤ 1048576) : Ev (fun n => lex_span_4 n (.str s)) (UpTo s.length) := by
  refine Ev.eq (fun n => lex_span_4_eq n s) ?_
  have loop : ∀ (m j : Nat), s.length - j = m → j ≤ s.length →
      Ev (fun n => lex_span_4_L0 n (.str s) (.int .i64 (j : Int))) fun r => ∃ j' : Nat, r = (false, [.str s, .int .i64 (j' : Int)]) ∧ j' ≤ s.length := by
    intro m
    induction m with
    | zero => intro j hm hj; exact Ev.eq (fun n => lex_span_4_L0_eq n _ _) (Ev.no (decide_eq_false (by omega)) (Ev.ret ⟨j, rfl, hj⟩))
    | succ m ih =>
      intro j hm hj
      have hj2 : j < s.length := by omega
      have hw : IntKind.i64.wrap ((j : Int) + 1) = ((j + 1 : Nat) : Int) := wrap_succ (by omega)
      refine Ev.eq (fun n => lex_span_4_L0_eq n _ _) (Ev.yes (decide_eq_true (by omega)) (Ev.yes (in_range hj2) (Ev.bindC (number2_ev _) ?_)))
      rintro _ _ ⟨b, h⟩; cases h; refine ⟨rfl, Ev.yes rfl (Ev.test (fun _ => ?_) fun _ => Ev.ret ⟨j, rfl, hj⟩)⟩
      rw [hw]; exact ih (j + 1) (by omega) hj2
  refine Ev.bindL (loop s.length 0 rfl (Nat.zero_le _)) (fun ds h => by obtain ⟨_, h, _⟩ := h; cases h) fun ds h => ?_
  obtain ⟨j', h, hj⟩ := h
  cases h
  exact Ev.yes rfl (Ev.ret ⟨j', rfl, hj⟩)
theorem drop_all (s : List UInt8) (k : Nat) : (s.drop k).take (s.length - k) = s.drop k := List.take_of_length_le (by simp)
theorem number_ev {s : List UInt8} (hs : s.length ≤ 1048576) : Ev (fun n => lex_number n (.str s)) (UpTo s.length) := by
  refine Ev.eq (fun n => lex_number_eq n s) (Ev.bindC (span_3_ev hs) ?_)
  rintro _ _ ⟨k, h, hk⟩; cases h
  have hw : IntKind.i64.wrap ((k : Int) + 1) = ((k + 1 : Nat) : Int) := wrap_succ (by omega)
  refine ⟨rfl, Ev.yes rfl (Ev.test (fun hl => ?_) fun _ => Ev.ret ⟨k, rfl, hk⟩)⟩
  have hl : k < s.length := by have := of_decide_eq_true hl; simp only [nth, D.i, List.getD_cons_zero] at this; omega
  refine Ev.yes (in_range hl) (Ev.test (fun _ => ?_) fun _ => Ev.ret ⟨k, rfl, hk⟩)
  simp only [nth, D.i, List.getD_cons_zero, hw, Int.toNat_natCast, drop_all]
  refine Ev.yes (and_tt (and_tt (decide_eq_true (by omega)) (decide_eq_true (by omega))) (decide_eq_true (Int.le_refl _))) (Ev.bindC (span_4_ev (by simp; omega)) ?_)
  rintro _ _ ⟨j, h, hj⟩; cases h
  simp only [List.length_drop] at hj
  refine ⟨rfl, Ev.yes rfl (Ev.ret ⟨k + (1 + j), ?_, by omega⟩)⟩
  simp only [nth, D.i, List.getD_cons_zero]
  rw [wrap_id (x := 1 + (j : Int)) (by omega) (by omega), wrap_id (by omega) (by omega)]
  rfl
theorem sign_ev {s : List UInt8} (hs : s.length ≤ 1048576) (h0 : 0 < s.length) : Ev (fun n => lex_sign n (.str s)) (UpTo s.length) := by
  refine Ev.eq (fun n => lex_sign_eq n s) ?_
  have loop : ∀ (j : Nat), j ≤ s.length → Ev (fun n => lex_sign_L0 n (.str s) (.int .i64 (j : Int))) fun r => UpTo s.length r ∨ ∃ j', r = (false, [.str s, .int .i64 j']) := by
    intro j
    induction j with
    | zero => intro hj; exact Ev.eq (fun n => lex_sign_L0_eq n _ _) (Ev.no rfl (Ev.ret (.inr ⟨_, rfl⟩)))
    | succ j ih =>
      intro hj
      have hw : IntKind.i64.wrap (((j + 1 : Nat) : Int) - 1) = (j : Int) := by rw [wrap_id (by omega) (by omega)]; omega
      have hc : (true && decide ((0 : Int) ≤ ((j + 1 : Nat) : Int)) && decide (((j + 1 : Nat) : Int) ≤ (s.length : Int))) = true := and_tt (and_tt rfl (decide_eq_true (by omega))) (decide_eq_true (by omega))
      refine Ev.eq (fun n => lex_sign_L0_eq n _ _) (Ev.test (fun _ => ?_) fun _ => Ev.ret (.inr ⟨_, rfl⟩))
      refine Ev.yes hc (Ev.bindC (contains_ev (by simp; omega) _) ?_)
      intro _ _ h; cases h; refine ⟨rfl, Ev.yes rfl (Ev.test (fun _ => ?_) fun _ => ?_)⟩
      · refine Ev.yes hc (Ev.yes (decide_eq_true (by simp [maxStr]; omega)) (Ev.yes (decide_eq_true (by simp [maxStr]; omega)) (Ev.bindC (contains_ev (by simp) _) ?_)))
        intro _ _ h; cases h; refine ⟨rfl, Ev.yes rfl (Ev.test (fun _ => Ev.ret (.inl ⟨j + 1, rfl, hj⟩)) fun _ => ?_)⟩
        rw [hw]; exact ih (by omega)
      · rw [hw]; exact ih (by omega)
  have hm : min (3 : Int) (s.length : Int) = ((min 3 s.length : Nat) : Int) := by omega
  rw [hm]
  refine Ev.bindL (loop (min 3 s.length) (by omega)) (fun ds h => ?_) fun ds h => ?_
  · rcases h with h | ⟨_, h⟩
    · exact h
    · cases h
  · rcases h with ⟨_, h, _⟩ | ⟨_, h⟩
    · cases h
    · cases h
      refine Ev.yes rfl (Ev.yes (and_tt rfl (decide_eq_true (by show (0 : Int) < (s.length : Int); omega))) (Ev.bindC (indexByte_ev _ _) ?_))
      intro _ _ h; cases h
      exact ⟨rfl, Ev.yes rfl (Ev.test (fun _ => Ev.ret ⟨1, rfl, by omega⟩) fun _ => Ev.ret ⟨0, rfl, by omega⟩)⟩
theorem parse0_ev : Ev (fun n => lit_Parse n (.str [])) fun r => r = (true, [.agg [.int .i64 0, .lst 1 [], .bool false, .bool false], .int .i64 6]) := by
  refine Ev.eq (fun n => lit_Parse_eq n []) (Ev.bindC (strCut_ev (by simp) _) ?_)
  intro _ _ h; cases h
  refine ⟨rfl, Ev.yes rfl (Ev.yes rfl (Ev.bindC (Q := fun r => r = (true, [.agg [.int .i64 0, .lst 1 [], .bool false, .bool false], .int .i64 6])) (Ev.eq (fun n => lit_plain_eq n []) (Ev.bindC (Q := fun r => r = (true, [.int .i64 6, .lst 1 []])) (Ev.eq (fun n => lit_digits_eq n [] 10) (Ev.yes rfl (Ev.ret rfl))) ?_)) ?_))⟩
  · intro _ _ h; cases h; exact ⟨rfl, Ev.yes rfl (Ev.yes rfl (Ev.ret rfl))⟩
  · intro _ _ h; cases h; exact ⟨rfl, Ev.yes rfl (Ev.ret rfl)⟩
/-- A word's kind, length and error. -/
def Word (s : List UInt8) (r : Bool × List D) : Prop := ∃ (k : Int) (n : Nat) (e : Int), r = (true, [.int .i64 k, .int .i64 (n : Int), .int .i64 e]) ∧ n ≤ s.length ∧ (e = 0 → 1 ≤ n)
theorem word_ev {s : List UInt8} (hs : s.length ≤ 1048576) (h0 : 0 < s.length) : Ev (fun n => lex_word n (.str s)) (Word s) := by
  have e7 : ∀ e : Int, e ≠ 0 → Word s (true, [.int .i64 0, .int .i64 0, .int .i64 e]) := fun e he => ⟨0, 0, e, rfl, Nat.zero_le _, fun h => absurd h he⟩
  refine Ev.eq (fun n => lex_word_eq n s) (Ev.yes (and_tt rfl (decide_eq_true (by omega))) (Ev.bindC (letter_ev _) ?_))
  have name : Ev (fun n => bif (true && decide ((1 : Int) ≤ (s.length : Int)) && decide ((s.length : Int) ≤ (s.length : Int))) then (AE.bindC (lex_span_2 n (.str ((s.drop 1).take ((s.length : Int).toNat - 1)))) fun r2 => bif chk lex_span_2.osk r2 then (bif (decide ((IntKind.i64.wrap ((1 : Int) + (nth r2 0).i)) > (40 : Int))) then (some (true, [(.int .i64 (0 : Int)), (.int .i64 (0 : Int)), (.int .i64 (9 : Int))])) else (bif (true && decide ((0 : Int) ≤ (IntKind.i64.wrap ((1 : Int) + (nth r2 0).i))) && decide ((IntKind.i64.wrap ((1 : Int) + (nth r2 0).i)) ≤ (s.length : Int))) then (bif (((s.drop 0).take ((IntKind.i64.wrap ((1 : Int) + (nth r2 0).i)).toNat - 0)) == ([36] : List UInt8)) then (some (true, [(.int .i64 (0 : Int)), (.int .i64 (0 : Int)), (.int .i64 (9 : Int))])) else (some (true, [(.int .i64 (1 : Int)), (.int .i64 (IntKind.i64.wrap ((1 : Int) + (nth r2 0).i))), (.int .i64 (0 : Int))]))) else none)) else none) else none) (Word s) := by
    refine Ev.yes (slice_ok h0) (Ev.bindC (span_2_ev (Nat.le_trans cut_one hs)) ?_)
    rintro _ _ ⟨k, h, hk⟩; cases h
    simp only [List.length_take, List.length_drop, Int.toNat_natCast] at hk
    have hw : IntKind.i64.wrap ((1 : Int) + (k : Int)) = ((1 + k : Nat) : Int) := by rw [wrap_id (by omega) (by omega)]; omega
    simp only [nth, D.i, List.getD_cons_zero, hw]
    refine ⟨trivial, Ev.yes rfl (Ev.test (fun _ => Ev.ret (e7 9 (by decide))) fun _ => Ev.yes (and_tt (and_tt rfl (decide_eq_true (by omega))) (decide_eq_true (by omega))) (Ev.test (fun _ => Ev.ret (e7 9 (by decide))) fun _ => Ev.ret ⟨1, 1 + k, 0, rfl, by omega, fun _ => by omega⟩))⟩
  have num : Ev (fun n => AE.bindC (lex_number n (.str s)) fun r3 => bif chk lex_number.osk r3 then (bif (true && decide ((0 : Int) ≤ (nth r3 0).i) && decide ((nth r3 0).i ≤ (s.length : Int))) then (AE.bindC (lit_Parse n (.str ((s.drop 0).take ((nth r3 0).i.toNat - 0)))) fun r4 => bif chk lit_Parse.osk r4 then (bif ((nth r4 1).i != (0 : Int)) then (some (true, [(.int .i64 (0 : Int)), (.int .i64 (0 : Int)), (.int .i64 (7 : Int))])) else (some (true, [(.int .i64 (2 : Int)), (.int .i64 (nth r3 0).i), (.int .i64 (0 : Int))]))) else none) else none) else none) (Word s) := by
    refine Ev.bindC (number_ev hs) ?_
    rintro _ _ ⟨k, h, hk⟩; cases h
    simp only [nth, D.i, List.getD_cons_zero, Int.toNat_natCast]
    refine ⟨trivial, Ev.yes rfl (Ev.yes (and_tt (and_tt rfl (decide_eq_true (by omega))) (decide_eq_true (by omega))) ?_)⟩
    by_cases hz : k = 0
    · subst hz
      refine Ev.bindC parse0_ev ?_
      intro _ _ h; cases h
      exact ⟨rfl, Ev.yes rfl (Ev.yes rfl (Ev.ret (e7 7 (by decide))))⟩
    · refine Ev.bindC (parse_ev (by simp; omega)) ?_
      rintro _ _ ⟨w, ws, b1, b2, e, h, hv⟩; cases h
      exact ⟨rfl, Ev.yes rfl (Ev.test (fun _ => Ev.ret (e7 7 (by decide))) fun _ => Ev.ret ⟨2, k, 0, rfl, hk, fun _ => by omega⟩)⟩
  rintro _ _ ⟨b, h⟩; cases h
  refine ⟨rfl, Ev.yes rfl (Ev.test (fun _ => name) fun _ => Ev.test (fun _ => name) fun _ => Ev.bindC (digit_ev _) ?_)⟩
  rintro _ _ ⟨b, h⟩; cases h
  refine ⟨rfl, Ev.yes rfl (Ev.test (fun _ => num) fun _ => Ev.test (fun _ => num) fun _ => Ev.bindC (sign_ev hs h0) ?_)⟩
  rintro _ _ ⟨k, h, hk⟩; cases h
  simp only [nth, D.i, List.getD_cons_zero]
  refine ⟨trivial, Ev.yes rfl (Ev.test (fun _ => Ev.ret (e7 7 (by decide))) fun hz => Ev.ret ⟨3, k, 0, rfl, hk, fun _ => ?_⟩)⟩
  cases k with
  | zero => cases hz
  | succ k => omega
end Go.Proofs.YtalibicpmfbieaaGreatDoor
