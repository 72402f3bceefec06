/- Words, what they are: spans, numbers, signs told by plain functions. -/
import Derived.Test.YtalibicpmfbieaaGreatDoorLexCovers
namespace Go.Proofs.YtalibicpmfbieaaGreatDoor
open Go.AE
set_option linter.unusedVariables false
set_option linter.unusedSimpArgs false
def letB (b : UInt8) : Bool := bif decide ((b.toNat : Int) ≥ 97) then (bif decide ((b.toNat : Int) ≤ 122) then true else (bif decide ((b.toNat : Int) ≥ 65) then (bif decide ((b.toNat : Int) ≤ 90) then true else ((b.toNat : Int) == 95)) else ((b.toNat : Int) == 95))) else (bif decide ((b.toNat : Int) ≥ 65) then (bif decide ((b.toNat : Int) ≤ 90) then true else ((b.toNat : Int) == 95)) else ((b.toNat : Int) == 95))
def digB (b : UInt8) : Bool := bif decide ((b.toNat : Int) ≥ 48) then decide ((b.toNat : Int) ≤ 57) else false
def p2 (b : UInt8) : Bool := bif letB b then true else digB b
def p3 (b : UInt8) : Bool := bif digB b then true else ((b.toNat : Int) == 95)
def p4 (b : UInt8) : Bool := bif digB b then true else letB b
theorem letX_ev (b : UInt8) : Ev (fun n => lex_letter n (.int .u8 (b.toNat : Int))) fun r => r = (true, [.bool (letB b)]) := by
  refine Ev.eq (fun n => lex_letter_eq n _) ?_
  unfold letB
  refine Ev.test (fun h1 => Ev.test (fun h2 => ?_) fun h2 => Ev.test (fun h3 => Ev.test (fun h4 => ?_) fun h4 => ?_) fun h3 => ?_) fun h1 => Ev.test (fun h3 => Ev.test (fun h4 => ?_) fun h4 => ?_) fun h3 => ?_
  all_goals (refine Ev.ret ?_; simp only [*, cond_true, cond_false])
theorem digX_ev (b : UInt8) : Ev (fun n => lex_digit n (.int .u8 (b.toNat : Int))) fun r => r = (true, [.bool (digB b)]) := by
  refine Ev.eq (fun n => lex_digit_eq n _) ?_
  unfold digB
  refine Ev.test (fun h1 => ?_) fun h1 => ?_
  all_goals (refine Ev.ret ?_; simp only [*, cond_true, cond_false])
theorem p2X_ev (b : UInt8) : Ev (fun n => lex_word_1 n (.int .u8 (b.toNat : Int))) fun r => r = (true, [.bool (p2 b)]) := by
  refine Ev.eq (fun n => lex_word_1_eq n _) (Ev.bindC (letX_ev b) ?_)
  unfold p2
  intro _ _ h; cases h; refine ⟨rfl, Ev.yes rfl (Ev.test (fun h => Ev.ret ?_) fun h => Ev.bindC (digX_ev b) ?_)⟩
  · have h : letB b = true := h
    rw [h]; rfl
  · have h : letB b = false := h
    rw [h]
    intro _ _ h; cases h; exact ⟨rfl, Ev.yes rfl (Ev.ret rfl)⟩
theorem p3X_ev (b : UInt8) : Ev (fun n => lex_number_1 n (.int .u8 (b.toNat : Int))) fun r => r = (true, [.bool (p3 b)]) := by
  refine Ev.eq (fun n => lex_number_1_eq n _) (Ev.bindC (digX_ev b) ?_)
  unfold p3
  intro _ _ h; cases h; refine ⟨rfl, Ev.yes rfl (Ev.test (fun h => Ev.ret ?_) fun h => Ev.ret ?_)⟩
  · have h : digB b = true := h
    rw [h]; rfl
  · have h : digB b = false := h
    rw [h]; rfl
theorem p4X_ev (b : UInt8) : Ev (fun n => lex_number_2 n (.int .u8 (b.toNat : Int))) fun r => r = (true, [.bool (p4 b)]) := by
  refine Ev.eq (fun n => lex_number_2_eq n _) (Ev.bindC (digX_ev b) ?_)
  unfold p4
  intro _ _ h; cases h; refine ⟨rfl, Ev.yes rfl (Ev.test (fun h => Ev.ret ?_) fun h => Ev.bindC (letX_ev b) ?_)⟩
  · have h : digB b = true := h
    rw [h]; rfl
  · have h : digB b = false := h
    rw [h]
    intro _ _ h; cases h; exact ⟨rfl, Ev.yes rfl (Ev.ret rfl)⟩
def spanN (p : UInt8 → Bool) (s : List UInt8) : Nat := (s.takeWhile p).length
theorem spanN_le (p : UInt8 → Bool) (s : List UInt8) : spanN p s ≤ s.length := List.IsPrefix.length_le (List.takeWhile_prefix p)
theorem spanN_cons {p : UInt8 → Bool} {b : UInt8} {s : List UInt8} : spanN p (b :: s) = bif p b then spanN p s + 1 else 0 := by
  unfold spanN
  rw [List.takeWhile_cons]
  cases p b <;> simp
theorem span_2_is {s : List UInt8} (hs : s.length ≤ 1048576) : Ev (fun n => lex_span_2 n (.str s)) fun r => r = (true, [.int .i64 (spanN p2 s : Int)]) := by
  refine Ev.eq (fun n => lex_span_2_eq n s) ?_
  have loop : ∀ (m j : Nat), s.length - j = m → j ≤ s.length →
      Ev (fun n => lex_span_2_L0 n (.str s) (.int .i64 (j : Int))) fun r => r = (false, [.str s, .int .i64 ((j + spanN p2 (s.drop j) : Nat) : Int)]) := by
    intro m
    induction m with
    | zero =>
      intro j hm hj
      refine Ev.eq (fun n => lex_span_2_L0_eq n _ _) (Ev.no (decide_eq_false (by omega)) (Ev.ret ?_))
      rw [List.drop_eq_nil_of_le (by omega)]; rfl
    | succ m ih =>
      intro j hm hj
      have hj2 : j < s.length := by omega
      have hw : IntKind.i64.wrap ((j : Int) + 1) = ((j + 1 : Nat) : Int) := wrap_succ (by omega)
      refine Ev.eq (fun n => lex_span_2_L0_eq n _ _) (Ev.yes (decide_eq_true (by omega)) (Ev.yes (in_range hj2) ?_))
      rw [get_str hj2, hw, drop_cons hj2, spanN_cons]
      refine Ev.bindC (p2X_ev _) ?_
      intro _ _ h; cases h
      refine ⟨rfl, Ev.yes rfl ?_⟩
      cases hB : p2 s[j] with
      | true =>
        refine (ih (j + 1) (by omega) hj2).mono fun r hr => ?_
        rw [hr, show j + 1 + spanN p2 (s.drop (j + 1)) = j + (spanN p2 (s.drop (j + 1)) + 1) by omega]; rfl
      | false => exact Ev.ret rfl
  refine Ev.bindL (loop s.length 0 rfl (Nat.zero_le _)) (fun ds h => by cases h) fun ds h => ?_
  cases h
  exact Ev.yes rfl (Ev.ret (by simp [nth, D.i]))
theorem span_3_is {s : List UInt8} (hs : s.length ≤ 1048576) : Ev (fun n => lex_span_3 n (.str s)) fun r => r = (true, [.int .i64 (spanN p3 s : Int)]) := by
  refine Ev.eq (fun n => lex_span_3_eq n s) ?_
  have loop : ∀ (m j : Nat), s.length - j = m → j ≤ s.length →
      Ev (fun n => lex_span_3_L0 n (.str s) (.int .i64 (j : Int))) fun r => r = (false, [.str s, .int .i64 ((j + spanN p3 (s.drop j) : Nat) : Int)]) := by
    intro m
    induction m with
    | zero =>
      intro j hm hj
      refine Ev.eq (fun n => lex_span_3_L0_eq n _ _) (Ev.no (decide_eq_false (by omega)) (Ev.ret ?_))
      rw [List.drop_eq_nil_of_le (by omega)]; rfl
    | succ m ih =>
      intro j hm hj
      have hj2 : j < s.length := by omega
      have hw : IntKind.i64.wrap ((j : Int) + 1) = ((j + 1 : Nat) : Int) := wrap_succ (by omega)
      refine Ev.eq (fun n => lex_span_3_L0_eq n _ _) (Ev.yes (decide_eq_true (by omega)) (Ev.yes (in_range hj2) ?_))
      rw [get_str hj2, hw, drop_cons hj2, spanN_cons]
      refine Ev.bindC (p3X_ev _) ?_
      intro _ _ h; cases h
      refine ⟨rfl, Ev.yes rfl ?_⟩
      cases hB : p3 s[j] with
      | true =>
        refine (ih (j + 1) (by omega) hj2).mono fun r hr => ?_
        rw [hr, show j + 1 + spanN p3 (s.drop (j + 1)) = j + (spanN p3 (s.drop (j + 1)) + 1) by omega]; rfl
      | false => exact Ev.ret rfl
  refine Ev.bindL (loop s.length 0 rfl (Nat.zero_le _)) (fun ds h => by cases h) fun ds h => ?_
  cases h
  exact Ev.yes rfl (Ev.ret (by simp [nth, D.i]))
theorem span_4_is {s : List UInt8} (hs : s.length ≤ 1048576) : Ev (fun n => lex_span_4 n (.str s)) fun r => r = (true, [.int .i64 (spanN p4 s : Int)]) := by
  refine Ev.eq (fun n => lex_span_4_eq n s) ?_
  have loop : ∀ (m j : Nat), s.length - j = m → j ≤ s.length →
      Ev (fun n => lex_span_4_L0 n (.str s) (.int .i64 (j : Int))) fun r => r = (false, [.str s, .int .i64 ((j + spanN p4 (s.drop j) : Nat) : Int)]) := by
    intro m
    induction m with
    | zero =>
      intro j hm hj
      refine Ev.eq (fun n => lex_span_4_L0_eq n _ _) (Ev.no (decide_eq_false (by omega)) (Ev.ret ?_))
      rw [List.drop_eq_nil_of_le (by omega)]; rfl
    | succ m ih =>
      intro j hm hj
      have hj2 : j < s.length := by omega
      have hw : IntKind.i64.wrap ((j : Int) + 1) = ((j + 1 : Nat) : Int) := wrap_succ (by omega)
      refine Ev.eq (fun n => lex_span_4_L0_eq n _ _) (Ev.yes (decide_eq_true (by omega)) (Ev.yes (in_range hj2) ?_))
      rw [get_str hj2, hw, drop_cons hj2, spanN_cons]
      refine Ev.bindC (p4X_ev _) ?_
      intro _ _ h; cases h
      refine ⟨rfl, Ev.yes rfl ?_⟩
      cases hB : p4 s[j] with
      | true =>
        refine (ih (j + 1) (by omega) hj2).mono fun r hr => ?_
        rw [hr, show j + 1 + spanN p4 (s.drop (j + 1)) = j + (spanN p4 (s.drop (j + 1)) + 1) by omega]; rfl
      | false => exact Ev.ret rfl
  refine Ev.bindL (loop s.length 0 rfl (Nat.zero_le _)) (fun ds h => by cases h) fun ds h => ?_
  cases h
  exact Ev.yes rfl (Ev.ret (by simp [nth, D.i]))
theorem span_is {s : List UInt8} (hs : s.length ≤ 1048576) : Ev (fun n => lex_span n (.str s)) fun r => r = (true, [.int .i64 (spanN blankB s : Int)]) := by
  refine Ev.eq (fun n => lex_span_eq n s) ?_
  have loop : ∀ (m j : Nat), s.length - j = m → j ≤ s.length →
      Ev (fun n => lex_span_L0 n (.str s) (.int .i64 (j : Int))) fun r => r = (false, [.str s, .int .i64 ((j + spanN blankB (s.drop j) : Nat) : Int)]) := by
    intro m
    induction m with
    | zero =>
      intro j hm hj
      refine Ev.eq (fun n => lex_span_L0_eq n _ _) (Ev.no (decide_eq_false (by omega)) (Ev.ret ?_))
      rw [List.drop_eq_nil_of_le (by omega)]; rfl
    | succ m ih =>
      intro j hm hj
      have hj2 : j < s.length := by omega
      have hw : IntKind.i64.wrap ((j : Int) + 1) = ((j + 1 : Nat) : Int) := wrap_succ (by omega)
      refine Ev.eq (fun n => lex_span_L0_eq n _ _) (Ev.yes (decide_eq_true (by omega)) (Ev.yes (in_range hj2) ?_))
      rw [get_str hj2, hw, drop_cons hj2, spanN_cons]
      refine Ev.bindC (blankX_ev _) ?_
      intro _ _ h; cases h
      refine ⟨rfl, Ev.yes rfl ?_⟩
      cases hB : blankB s[j] with
      | true =>
        refine (ih (j + 1) (by omega) hj2).mono fun r hr => ?_
        rw [hr, show j + 1 + spanN blankB (s.drop (j + 1)) = j + (spanN blankB (s.drop (j + 1)) + 1) by omega]; rfl
      | false => exact Ev.ret rfl
  refine Ev.bindL (loop s.length 0 rfl (Nat.zero_le _)) (fun ds h => by cases h) fun ds h => ?_
  cases h
  exact Ev.yes rfl (Ev.ret (by simp [nth, D.i]))
/-- Empty, or a blank in front. -/
def Gap (r : List UInt8) : Prop := ∀ b t, r = b :: t → blankB b = true
theorem gap_p {p : UInt8 → Bool} (hp : ∀ b, blankB b = true → p b = false) {r : List UInt8} (h : Gap r) : spanN p r = 0 := by
  cases r with
  | nil => rfl
  | cons b t => rw [spanN_cons, hp b (h b t rfl)]; rfl
theorem blank_p2 (b : UInt8) (h : blankB b = true) : p2 b = false := by
  rcases blankB_cases h with rfl | rfl | rfl | rfl <;> rfl
theorem blank_p3 (b : UInt8) (h : blankB b = true) : p3 b = false := by
  rcases blankB_cases h with rfl | rfl | rfl | rfl <;> rfl
theorem blank_p4 (b : UInt8) (h : blankB b = true) : p4 b = false := by
  rcases blankB_cases h with rfl | rfl | rfl | rfl <;> rfl
theorem spanN_app {p : UInt8 → Bool} : ∀ {w r : List UInt8}, (∀ b ∈ w, p b = true) → spanN p (w ++ r) = w.length + spanN p r
  | [], r, _ => by simp
  | b :: w, r, h => by
    rw [List.cons_append, spanN_cons, h b (List.mem_cons_self ..), spanN_app (w := w) fun x hx => h x (List.mem_cons_of_mem _ hx)]
    simp only [cond_true, List.length_cons]; omega
theorem spanN_all {p : UInt8 → Bool} : ∀ {w r : List UInt8}, w.length ≤ spanN p (w ++ r) → ∀ b ∈ w, p b = true
  | [], _, _ => fun b hb => by simp at hb
  | c :: w, r, h => by
    rw [List.cons_append, spanN_cons] at h
    cases hc : p c with
    | false => rw [hc] at h; simp at h
    | true =>
      rw [hc] at h
      intro b hb
      rcases List.mem_cons.1 hb with rfl | hb
      · exact hc
      · exact spanN_all (w := w) (r := r) (by simp only [cond_true, List.length_cons] at h; omega) b hb
def numF (s : List UInt8) : Nat := match s.drop (spanN p3 s) with
  | [] => spanN p3 s
  | b :: t => bif ((b.toNat : Int) == 39) then spanN p3 s + (1 + spanN p4 t) else spanN p3 s
theorem number_is {s : List UInt8} (hs : s.length ≤ 1048576) : Ev (fun n => lex_number n (.str s)) fun r => r = (true, [.int .i64 (numF s : Int)]) := by
  refine Ev.eq (fun n => lex_number_eq n s) (Ev.bindC (span_3_is hs) ?_)
  have hk := spanN_le p3 s
  unfold numF
  generalize spanN p3 s = k at hk
  intro _ _ h; cases h
  refine ⟨rfl, Ev.yes rfl (Ev.test (fun hl => ?_) fun hl => ?_)⟩
  · have hl : k < s.length := by have := of_decide_eq_true hl; simp only [nth, D.i, List.getD_cons_zero] at this; omega
    have hw : IntKind.i64.wrap ((k : Int) + 1) = ((k + 1 : Nat) : Int) := wrap_succ (by omega)
    rw [drop_cons hl]
    simp only [nth, D.i, List.getD_cons_zero, hw, Int.toNat_natCast, drop_all, List.getElem?_eq_getElem hl, Option.getD_some]
    refine Ev.yes (in_range hl) ?_
    cases hq : ((s[k].toNat : Int) == 39) with
    | false => exact Ev.ret rfl
    | true =>
      refine Ev.yes rfl (Ev.yes (and_tt (and_tt (decide_eq_true (by omega)) (decide_eq_true (by omega))) (decide_eq_true (Int.le_refl _))) (Ev.bindC (span_4_is (by simp; omega)) ?_))
      have h4 := spanN_le p4 (s.drop (k + 1))
      simp only [List.length_drop] at h4
      intro _ _ h; cases h
      refine ⟨rfl, Ev.yes rfl (Ev.ret ?_)⟩
      show (true, [D.int .i64 (IntKind.i64.wrap ((k : Int) + IntKind.i64.wrap (1 + ((spanN p4 (s.drop (k + 1)) : Nat) : Int))))]) = (true, [D.int .i64 ((k + (1 + spanN p4 (s.drop (k + 1))) : Nat) : Int)])
      rw [wrap_id (x := 1 + ((spanN p4 (s.drop (k + 1)) : Nat) : Int)) (by omega) (by omega), wrap_id (by omega) (by omega)]
      rfl
  · have hl : ¬ k < s.length := by have := of_decide_eq_false hl; simp only [nth, D.i, List.getD_cons_zero] at this; omega
    rw [List.drop_eq_nil_of_le (by omega)]
    exact Ev.ret rfl
end Go.Proofs.YtalibicpmfbieaaGreatDoor
