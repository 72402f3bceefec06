/- Words told exactly: spans, numbers, signs, single words of the program. -/
import Derived.Test.YtmklmhdgnokcmaaRefC
namespace Go.Proofs.Ytmklmhdgnokcmaa
open Go.AE
set_option linter.unusedVariables false
theorem indexByte_ev (s : List UInt8) (x : Int) : Ev (fun n => strings_IndexByte n (.str s) (.int .u8 x)) fun r => r = (true, [.int .i64 (idxByte x.toNat.toUInt8 s 0)]) := by
  refine Ev.eq (fun n => strings_IndexByte_eq n s x) ?_
  refine Ev.bindC (Q := fun r => r = (true, [.int .i64 (idxByte x.toNat.toUInt8 s 0)])) (Ev.eq (fun n => internal_stringslite_IndexByte_eq n s x) (Ev.ret rfl)) ?_
  intro b ds h; cases h; exact ⟨rfl, Ev.yes rfl (Ev.ret rfl)⟩
theorem ne_nil_len {s : List UInt8} (h : (s == []) = false) : 0 < s.length := by
  cases s with
  | nil => cases h
  | cons x s => simp
theorem cut_one {s : List UInt8} : ((s.drop 1).take ((s.length : Int).toNat - 1)).length ≤ s.length := by simp
theorem slice_ok {s : List UInt8} (h : 0 < s.length) : (true && decide ((1 : Int) ≤ (s.length : Int)) && decide ((s.length : Int) ≤ (s.length : Int))) = true := and_tt (and_tt rfl (decide_eq_true (by omega))) (decide_eq_true (Int.le_refl _))
theorem evfix {t : Nat → Out} {P : Bool × List D → Prop} (h : Ev t P) : ∃ r, P r ∧ Ev t (fun x => x = r) := by
  obtain ⟨r, h1, h2⟩ := h
  exact ⟨r, h1, r, rfl, h2⟩
theorem contains_ev {s : List UInt8} (hs : s.length ≤ 4294967280) (t : List UInt8) : Ev (fun n => strings_Contains n (.str s) (.str t)) fun r => r = (true, [.bool (decide (0 ≤ idxStr t s 0))]) := by
  refine Ev.eq (u := fun _ => some (true, [D.bool (decide (0 ≤ idxStr t s 0))])) (fun n => strings_Contains_orc n _ _ _ ?_) (Ev.ret rfl)
  show (bif Nat.ble s.length 4294967280 then some [D.bool (decide (0 ≤ idxStr t s 0))] else none) = _
  rw [Nat.ble_eq_true_of_le (by omega)]; rfl
theorem drop_all (s : List UInt8) (k : Nat) : (s.drop k).take (s.length - k) = s.drop k := List.take_of_length_le (by simp)
def blankB (b : UInt8) : Bool := decide (0 ≤ idxByte b [32, 9, 13, 10] 0)
theorem blankB_cases {b : UInt8} (h : blankB b = true) : b = 32 ∨ b = 9 ∨ b = 13 ∨ b = 10 := by
  have h : 0 ≤ idxByte b [32, 9, 13, 10] 0 := of_decide_eq_true h
  simp only [idxByte] at h
  cases h1 : (32 : UInt8) == b with
  | true => exact .inl (by simpa using h1 : (32 : UInt8) = b).symm
  | false =>
    cases h2 : (9 : UInt8) == b with
    | true => exact .inr (.inl (by simpa using h2 : (9 : UInt8) = b).symm)
    | false =>
      cases h3 : (13 : UInt8) == b with
      | true => exact .inr (.inr (.inl (by simpa using h3 : (13 : UInt8) = b).symm))
      | false =>
        cases h4 : (10 : UInt8) == b with
        | true => exact .inr (.inr (.inr (by simpa using h4 : (10 : UInt8) = b).symm))
        | false => rw [h1, h2, h3, h4] at h; exact absurd h (by decide)
theorem byte_back (b : UInt8) : ((b.toNat : Int)).toNat.toUInt8 = b := by
  rw [Int.toNat_natCast]; exact UInt8.ofNat_toNat
theorem get_str {s : List UInt8} {j : Nat} (h : j < s.length) : s[((j : Nat) : Int).toNat]?.getD 0 = s[j] := by
  rw [Int.toNat_natCast, List.getElem?_eq_getElem h]; rfl
theorem blankX_ev (b : UInt8) : Ev (fun n => lex_piece_2 n (.int .u8 (b.toNat : Int))) fun r => r = (true, [.bool (blankB b)]) := by
  refine Ev.eq (fun n => lex_piece_2_eq n _) (Ev.bindC (indexByte_ev _ _) ?_)
  rw [byte_back]
  intro _ _ h; cases h; exact ⟨rfl, Ev.yes rfl (Ev.ret rfl)⟩
def letB (b : UInt8) : Bool := bif decide ((b.toNat : Int) ≥ 97) then (bif decide ((b.toNat : Int) ≤ 122) then true else (bif decide ((b.toNat : Int) ≥ 65) then (bif decide ((b.toNat : Int) ≤ 90) then true else ((b.toNat : Int) == 95)) else ((b.toNat : Int) == 95))) else (bif decide ((b.toNat : Int) ≥ 65) then (bif decide ((b.toNat : Int) ≤ 90) then true else ((b.toNat : Int) == 95)) else ((b.toNat : Int) == 95))
def digB (b : UInt8) : Bool := bif decide ((b.toNat : Int) ≥ 48) then decide ((b.toNat : Int) ≤ 57) else false
def p2 (b : UInt8) : Bool := bif letB b then true else digB b
def p3 (b : UInt8) : Bool := bif digB b then true else ((b.toNat : Int) == 95)
def p4 (b : UInt8) : Bool := bif digB b then true else letB b
theorem letX_ev (b : UInt8) : Ev (fun n => lex_letter n (.int .u8 (b.toNat : Int))) fun r => r = (true, [.bool (letB b)]) := by
  refine Ev.eq (fun n => lex_letter_eq n _) ?_
  unfold letB
  refine Ev.test (fun h1 => Ev.test (fun h2 => ?_) fun h2 => Ev.test (fun h3 => Ev.test (fun h4 => ?_) fun h4 => ?_) fun h3 => ?_) fun h1 => Ev.test (fun h3 => Ev.test (fun h4 => ?_) fun h4 => ?_) fun h3 => ?_
  all_goals (refine Ev.ret ?_; simp only [*, cond_true, cond_false])
theorem digX_ev (b : UInt8) : Ev (fun n => lex_digit n (.int .u8 (b.toNat : Int))) fun r => r = (true, [.bool (digB b)]) := by
  refine Ev.eq (fun n => lex_digit_eq n _) ?_
  unfold digB
  refine Ev.test (fun h1 => ?_) fun h1 => ?_
  all_goals (refine Ev.ret ?_; simp only [*, cond_true, cond_false])
theorem p2X_ev (b : UInt8) : Ev (fun n => lex_word_1 n (.int .u8 (b.toNat : Int))) fun r => r = (true, [.bool (p2 b)]) := by
  refine Ev.eq (fun n => lex_word_1_eq n _) (Ev.bindC (letX_ev b) ?_)
  unfold p2
  intro _ _ h; cases h; refine ⟨rfl, Ev.yes rfl (Ev.test (fun h => Ev.ret ?_) fun h => Ev.bindC (digX_ev b) ?_)⟩
  · have h : letB b = true := h
    rw [h]; rfl
  · have h : letB b = false := h
    rw [h]
    intro _ _ h; cases h; exact ⟨rfl, Ev.yes rfl (Ev.ret rfl)⟩
theorem p3X_ev (b : UInt8) : Ev (fun n => lex_number_1 n (.int .u8 (b.toNat : Int))) fun r => r = (true, [.bool (p3 b)]) := by
  refine Ev.eq (fun n => lex_number_1_eq n _) (Ev.bindC (digX_ev b) ?_)
  unfold p3
  intro _ _ h; cases h; refine ⟨rfl, Ev.yes rfl (Ev.test (fun h => Ev.ret ?_) fun h => Ev.ret ?_)⟩
  · have h : digB b = true := h
    rw [h]; rfl
  · have h : digB b = false := h
    rw [h]; rfl
theorem p4X_ev (b : UInt8) : Ev (fun n => lex_number_2 n (.int .u8 (b.toNat : Int))) fun r => r = (true, [.bool (p4 b)]) := by
  refine Ev.eq (fun n => lex_number_2_eq n _) (Ev.bindC (digX_ev b) ?_)
  unfold p4
  intro _ _ h; cases h; refine ⟨rfl, Ev.yes rfl (Ev.test (fun h => Ev.ret ?_) fun h => Ev.bindC (letX_ev b) ?_)⟩
  · have h : digB b = true := h
    rw [h]; rfl
  · have h : digB b = false := h
    rw [h]
    intro _ _ h; cases h; exact ⟨rfl, Ev.yes rfl (Ev.ret rfl)⟩
def spanN (p : UInt8 → Bool) (s : List UInt8) : Nat := (s.takeWhile p).length
theorem spanN_le (p : UInt8 → Bool) (s : List UInt8) : spanN p s ≤ s.length := List.IsPrefix.length_le (List.takeWhile_prefix p)
theorem spanN_cons {p : UInt8 → Bool} {b : UInt8} {s : List UInt8} : spanN p (b :: s) = bif p b then spanN p s + 1 else 0 := by
  unfold spanN
  rw [List.takeWhile_cons]
  cases p b <;> simp
theorem span_2_is {s : List UInt8} (hs : s.length ≤ 1048576) : Ev (fun n => lex_span_2 n (.str s)) fun r => r = (true, [.int .i64 (spanN p2 s : Int)]) := by
  refine Ev.eq (fun n => lex_span_2_eq n s) ?_
  have loop : ∀ (m j : Nat), s.length - j = m → j ≤ s.length →
      Ev (fun n => lex_span_2_L0 n (.str s) (.int .i64 (j : Int))) fun r => r = (false, [.str s, .int .i64 ((j + spanN p2 (s.drop j) : Nat) : Int)]) := by
    intro m
    induction m with
    | zero =>
      intro j hm hj
      refine Ev.eq (fun n => lex_span_2_L0_eq n _ _) (Ev.no (decide_eq_false (by omega)) (Ev.ret ?_))
      rw [List.drop_eq_nil_of_le (by omega)]; rfl
    | succ m ih =>
      intro j hm hj
      have hj2 : j < s.length := by omega
      have hw : IntKind.i64.wrap ((j : Int) + 1) = ((j + 1 : Nat) : Int) := wrap_succ (by omega)
      refine Ev.eq (fun n => lex_span_2_L0_eq n _ _) (Ev.yes (decide_eq_true (by omega)) (Ev.yes (in_range hj2) ?_))
      rw [get_str hj2, hw, drop_cons hj2, spanN_cons]
      refine Ev.bindC (p2X_ev _) ?_
      intro _ _ h; cases h
      refine ⟨rfl, Ev.yes rfl ?_⟩
      cases hB : p2 s[j] with
      | true =>
        refine (ih (j + 1) (by omega) hj2).mono fun r hr => ?_
        rw [hr, show j + 1 + spanN p2 (s.drop (j + 1)) = j + (spanN p2 (s.drop (j + 1)) + 1) by omega]; rfl
      | false => exact Ev.ret rfl
  refine Ev.bindL (loop s.length 0 rfl (Nat.zero_le _)) (fun ds h => by cases h) fun ds h => ?_
  cases h
  exact Ev.yes rfl (Ev.ret (by simp [nth, D.i]))
theorem span_3_is {s : List UInt8} (hs : s.length ≤ 1048576) : Ev (fun n => lex_span_3 n (.str s)) fun r => r = (true, [.int .i64 (spanN p3 s : Int)]) := by
  refine Ev.eq (fun n => lex_span_3_eq n s) ?_
  have loop : ∀ (m j : Nat), s.length - j = m → j ≤ s.length →
      Ev (fun n => lex_span_3_L0 n (.str s) (.int .i64 (j : Int))) fun r => r = (false, [.str s, .int .i64 ((j + spanN p3 (s.drop j) : Nat) : Int)]) := by
    intro m
    induction m with
    | zero =>
      intro j hm hj
      refine Ev.eq (fun n => lex_span_3_L0_eq n _ _) (Ev.no (decide_eq_false (by omega)) (Ev.ret ?_))
      rw [List.drop_eq_nil_of_le (by omega)]; rfl
    | succ m ih =>
      intro j hm hj
      have hj2 : j < s.length := by omega
      have hw : IntKind.i64.wrap ((j : Int) + 1) = ((j + 1 : Nat) : Int) := wrap_succ (by omega)
      refine Ev.eq (fun n => lex_span_3_L0_eq n _ _) (Ev.yes (decide_eq_true (by omega)) (Ev.yes (in_range hj2) ?_))
      rw [get_str hj2, hw, drop_cons hj2, spanN_cons]
      refine Ev.bindC (p3X_ev _) ?_
      intro _ _ h; cases h
      refine ⟨rfl, Ev.yes rfl ?_⟩
      cases hB : p3 s[j] with
      | true =>
        refine (ih (j + 1) (by omega) hj2).mono fun r hr => ?_
        rw [hr, show j + 1 + spanN p3 (s.drop (j + 1)) = j + (spanN p3 (s.drop (j + 1)) + 1) by omega]; rfl
      | false => exact Ev.ret rfl
  refine Ev.bindL (loop s.length 0 rfl (Nat.zero_le _)) (fun ds h => by cases h) fun ds h => ?_
  cases h
  exact Ev.yes rfl (Ev.ret (by simp [nth, D.i]))
theorem span_4_is {s : List UInt8} (hs : s.length ≤ 1048576) : Ev (fun n => lex_span_4 n (.str s)) fun r => r = (true, [.int .i64 (spanN p4 s : Int)]) := by
  refine Ev.eq (fun n => lex_span_4_eq n s) ?_
  have loop : ∀ (m j : Nat), s.length - j = m → j ≤ s.length →
      Ev (fun n => lex_span_4_L0 n (.str s) (.int .i64 (j : Int))) fun r => r = (false, [.str s, .int .i64 ((j + spanN p4 (s.drop j) : Nat) : Int)]) := by
    intro m
    induction m with
    | zero =>
      intro j hm hj
      refine Ev.eq (fun n => lex_span_4_L0_eq n _ _) (Ev.no (decide_eq_false (by omega)) (Ev.ret ?_))
      rw [List.drop_eq_nil_of_le (by omega)]; rfl
    | succ m ih =>
      intro j hm hj
      have hj2 : j < s.length := by omega
      have hw : IntKind.i64.wrap ((j : Int) + 1) = ((j + 1 : Nat) : Int) := wrap_succ (by omega)
      refine Ev.eq (fun n => lex_span_4_L0_eq n _ _) (Ev.yes (decide_eq_true (by omega)) (Ev.yes (in_range hj2) ?_))
      rw [get_str hj2, hw, drop_cons hj2, spanN_cons]
      refine Ev.bindC (p4X_ev _) ?_
      intro _ _ h; cases h
      refine ⟨rfl, Ev.yes rfl ?_⟩
      cases hB : p4 s[j] with
      | true =>
        refine (ih (j + 1) (by omega) hj2).mono fun r hr => ?_
        rw [hr, show j + 1 + spanN p4 (s.drop (j + 1)) = j + (spanN p4 (s.drop (j + 1)) + 1) by omega]; rfl
      | false => exact Ev.ret rfl
  refine Ev.bindL (loop s.length 0 rfl (Nat.zero_le _)) (fun ds h => by cases h) fun ds h => ?_
  cases h
  exact Ev.yes rfl (Ev.ret (by simp [nth, D.i]))
theorem span_is {s : List UInt8} (hs : s.length ≤ 1048576) : Ev (fun n => lex_span n (.str s)) fun r => r = (true, [.int .i64 (spanN blankB s : Int)]) := by
  refine Ev.eq (fun n => lex_span_eq n s) ?_
  have loop : ∀ (m j : Nat), s.length - j = m → j ≤ s.length →
      Ev (fun n => lex_span_L0 n (.str s) (.int .i64 (j : Int))) fun r => r = (false, [.str s, .int .i64 ((j + spanN blankB (s.drop j) : Nat) : Int)]) := by
    intro m
    induction m with
    | zero =>
      intro j hm hj
      refine Ev.eq (fun n => lex_span_L0_eq n _ _) (Ev.no (decide_eq_false (by omega)) (Ev.ret ?_))
      rw [List.drop_eq_nil_of_le (by omega)]; rfl
    | succ m ih =>
      intro j hm hj
      have hj2 : j < s.length := by omega
      have hw : IntKind.i64.wrap ((j : Int) + 1) = ((j + 1 : Nat) : Int) := wrap_succ (by omega)
      refine Ev.eq (fun n => lex_span_L0_eq n _ _) (Ev.yes (decide_eq_true (by omega)) (Ev.yes (in_range hj2) ?_))
      rw [get_str hj2, hw, drop_cons hj2, spanN_cons]
      refine Ev.bindC (blankX_ev _) ?_
      intro _ _ h; cases h
      refine ⟨rfl, Ev.yes rfl ?_⟩
      cases hB : blankB s[j] with
      | true =>
        refine (ih (j + 1) (by omega) hj2).mono fun r hr => ?_
        rw [hr, show j + 1 + spanN blankB (s.drop (j + 1)) = j + (spanN blankB (s.drop (j + 1)) + 1) by omega]; rfl
      | false => exact Ev.ret rfl
  refine Ev.bindL (loop s.length 0 rfl (Nat.zero_le _)) (fun ds h => by cases h) fun ds h => ?_
  cases h
  exact Ev.yes rfl (Ev.ret (by simp [nth, D.i]))
def numF (s : List UInt8) : Nat := match s.drop (spanN p3 s) with
  | [] => spanN p3 s
  | b :: t => bif ((b.toNat : Int) == 39) then spanN p3 s + (1 + spanN p4 t) else spanN p3 s
theorem number_is {s : List UInt8} (hs : s.length ≤ 1048576) : Ev (fun n => lex_number n (.str s)) fun r => r = (true, [.int .i64 (numF s : Int)]) := by
  refine Ev.eq (fun n => lex_number_eq n s) (Ev.bindC (span_3_is hs) ?_)
  have hk := spanN_le p3 s
  unfold numF
  generalize spanN p3 s = k at hk
  intro _ _ h; cases h
  refine ⟨rfl, Ev.yes rfl (Ev.test (fun hl => ?_) fun hl => ?_)⟩
  · have hl : k < s.length := by have := of_decide_eq_true hl; simp only [nth, D.i, List.getD_cons_zero] at this; omega
    have hw : IntKind.i64.wrap ((k : Int) + 1) = ((k + 1 : Nat) : Int) := wrap_succ (by omega)
    rw [drop_cons hl]
    simp only [nth, D.i, List.getD_cons_zero, hw, Int.toNat_natCast, drop_all, List.getElem?_eq_getElem hl, Option.getD_some]
    refine Ev.yes (in_range hl) ?_
    cases hq : ((s[k].toNat : Int) == 39) with
    | false => exact Ev.ret rfl
    | true =>
      refine Ev.yes rfl (Ev.yes (and_tt (and_tt (decide_eq_true (by omega)) (decide_eq_true (by omega))) (decide_eq_true (Int.le_refl _))) (Ev.bindC (span_4_is (by simp; omega)) ?_))
      have h4 := spanN_le p4 (s.drop (k + 1))
      simp only [List.length_drop] at h4
      intro _ _ h; cases h
      refine ⟨rfl, Ev.yes rfl (Ev.ret ?_)⟩
      show (true, [D.int .i64 (IntKind.i64.wrap ((k : Int) + IntKind.i64.wrap (1 + ((spanN p4 (s.drop (k + 1)) : Nat) : Int))))]) = (true, [D.int .i64 ((k + (1 + spanN p4 (s.drop (k + 1))) : Nat) : Int)])
      rw [wrap_id (x := 1 + ((spanN p4 (s.drop (k + 1)) : Nat) : Int)) (by omega) (by omega), wrap_id (by omega) (by omega)]
      rfl
  · have hl : ¬ k < s.length := by have := of_decide_eq_false hl; simp only [nth, D.i, List.getD_cons_zero] at this; omega
    rw [List.drop_eq_nil_of_le (by omega)]
    exact Ev.ret rfl
theorem idxStr_mem {sub : List UInt8} : ∀ (s : List UInt8) (j : Nat), 0 ≤ idxStr sub s j → ∀ c ∈ sub, c ∈ s
  | [], j, h => by
    unfold idxStr at h
    cases sub with
    | nil => intro c hc; simp at hc
    | cons _ _ => simp at h
  | b :: l, j, h => by
    unfold idxStr at h
    cases hp : sub.isPrefixOf (b :: l) with
    | true => intro c hc; exact (List.isPrefixOf_iff_prefix.1 hp).subset hc
    | false =>
      rw [hp] at h
      intro c hc
      exact List.mem_cons_of_mem _ (idxStr_mem l (j + 1) h c hc)
def longS : List UInt8 := [32, 60, 60, 60, 32, 62, 62, 62, 32, 60, 60, 32, 62, 62, 32, 60, 61, 32, 62, 61, 32, 61, 61, 32, 33, 61, 32, 38, 38, 32, 124, 124, 32, 126, 38, 32, 126, 124, 32, 126, 94, 32, 94, 126, 32]
/-- A text that may be a long sign. -/
def longB (t : List UInt8) : Bool := !decide (0 ≤ idxStr [32] t 0) && decide (0 ≤ idxStr ([32] ++ t ++ [32]) longS 0)
theorem blank_in : ∀ (s : List UInt8) (j : Nat), (32 : UInt8) ∈ s → 0 ≤ idxStr [32] s j
  | [], _, h => by simp at h
  | b :: l, j, h => by
    unfold idxStr
    cases hp : [(32 : UInt8)].isPrefixOf (b :: l) with
    | true => exact Int.natCast_nonneg _
    | false =>
      rcases List.mem_cons.1 h with rfl | h
      · simp at hp
      · exact blank_in l (j + 1) h
theorem longB_blank {t : List UInt8} {b : UInt8} (hb : b ∈ t) (h : blankB b = true) : longB t = false := by
  unfold longB
  rcases blankB_cases h with rfl | rfl | rfl | rfl
  · rw [decide_eq_true (blank_in t 0 hb)]; rfl
  all_goals
    cases hd : decide (0 ≤ idxStr ([32] ++ t ++ [32]) longS 0) with
    | false => simp
    | true =>
      have := idxStr_mem longS 0 (of_decide_eq_true hd) _ (List.mem_append_left _ (List.mem_append_right _ hb))
      simp [longS] at this
def oneB (b : UInt8) : Bool := decide (idxByte b [43, 45, 42, 47, 37, 38, 124, 94, 126, 33, 60, 62, 63, 58, 61, 40, 41, 91, 93, 123, 125, 59, 44, 46, 35, 64] 0 ≥ 0)
/-- How long the sign is, from j bytes downwards. -/
def signDown (s : List UInt8) : Nat → Nat
  | 0 => 0
  | 1 => 0
  | j + 2 => bif longB (s.take (j + 2)) then j + 2 else signDown s (j + 1)
def signF (s : List UInt8) : Nat := match signDown s (min 3 s.length) with
  | 0 => bif oneB (s.headD 0) then 1 else 0
  | k + 1 => k + 1
theorem signDown_is {s : List UInt8} (hs : s.length ≤ 1048576) : ∀ (j : Nat), j ≤ s.length → Ev (fun n => lex_sign_L0 n (.str s) (.int .i64 (j : Int))) fun r => (signDown s j ≠ 0 ∧ r = (true, [.int .i64 (signDown s j : Int)])) ∨ (signDown s j = 0 ∧ ∃ j', r = (false, [.str s, .int .i64 j']))
  | 0, _ => Ev.eq (fun n => lex_sign_L0_eq n _ _) (Ev.no rfl (Ev.ret (.inr ⟨rfl, _, rfl⟩)))
  | 1, _ => Ev.eq (fun n => lex_sign_L0_eq n _ _) (Ev.no rfl (Ev.ret (.inr ⟨rfl, _, rfl⟩)))
  | j + 2, hj => by
    have ih := signDown_is hs (j + 1) (by omega)
    have hw : IntKind.i64.wrap (((j + 2 : Nat) : Int) - 1) = ((j + 1 : Nat) : Int) := by rw [wrap_id (by omega) (by omega)]; omega
    have hc : (true && decide ((0 : Int) ≤ ((j + 2 : Nat) : Int)) && decide (((j + 2 : Nat) : Int) ≤ (s.length : Int))) = true := and_tt (and_tt rfl (decide_eq_true (by omega))) (decide_eq_true (by omega))
    have ht : (s.drop 0).take (((j + 2 : Nat) : Int).toNat - 0) = s.take (j + 2) := by rw [List.drop_zero, Int.toNat_natCast, Nat.sub_zero]
    have hl : (s.take (j + 2)).length ≤ 1048576 := by rw [List.length_take]; omega
    refine Ev.eq (fun n => lex_sign_L0_eq n _ _) (Ev.yes (decide_eq_true (by omega)) ?_)
    rw [ht, hw]
    refine Ev.yes hc (Ev.bindC (contains_ev (by omega) _) ?_)
    intro _ _ h; cases h
    refine ⟨rfl, Ev.yes rfl ?_⟩
    unfold signDown longB
    cases h1 : decide (0 ≤ idxStr [32] (s.take (j + 2)) 0) with
    | true => exact Ev.no rfl ih
    | false =>
      refine Ev.yes rfl (Ev.yes hc (Ev.yes (decide_eq_true (by simp only [maxStr]; omega)) (Ev.yes (decide_eq_true (by simp [maxStr]; omega)) (Ev.bindC (contains_ev (by simp) _) ?_))))
      intro _ _ h; cases h
      refine ⟨rfl, Ev.yes rfl ?_⟩
      cases h2 : decide (0 ≤ idxStr ([32] ++ s.take (j + 2) ++ [32]) longS 0) with
      | true => exact Ev.yes h2 (Ev.ret (.inl ⟨by simp, rfl⟩))
      | false => exact Ev.no h2 ih
theorem sign_is {s : List UInt8} (hs : s.length ≤ 1048576) (h0 : 0 < s.length) : Ev (fun n => lex_sign n (.str s)) fun r => r = (true, [.int .i64 (signF s : Int)]) := by
  refine Ev.eq (fun n => lex_sign_eq n s) ?_
  have hm : min (3 : Int) (s.length : Int) = ((min 3 s.length : Nat) : Int) := by omega
  rw [hm]
  unfold signF
  refine Ev.bindL (signDown_is hs (min 3 s.length) (by omega)) (fun ds h => ?_) fun ds h => ?_
  · rcases h with ⟨h1, h2⟩ | ⟨_, _, h⟩
    · cases hd : signDown s (min 3 s.length) with
      | zero => exact absurd hd h1
      | succ k => rw [hd] at h2; exact h2
    · cases h
  · rcases h with ⟨_, h⟩ | ⟨h1, _, h⟩
    · cases h
    · cases h
      rw [h1]
      cases s with
      | nil => simp at h0
      | cons b s =>
        refine Ev.yes rfl (Ev.yes (and_tt rfl (decide_eq_true (by show (0 : Int) < ((b :: s).length : Int); omega))) (Ev.bindC (indexByte_ev _ _) ?_))
        show ∀ x ds, _ = (true, [D.int .i64 (idxByte ((b.toNat : Int)).toNat.toUInt8 _ 0)]) → _
        rw [byte_back]
        intro _ _ h; cases h
        refine ⟨rfl, Ev.yes rfl ?_⟩
        cases h2 : oneB b with
        | true => exact Ev.yes h2 (Ev.ret (by simp [h2]))
        | false => exact Ev.no h2 (Ev.ret (by simp [h2]))
theorem signDown_one (s : List UInt8) : ∀ j, signDown s j ≠ 1 ∧ signDown s j ≤ j
  | 0 => ⟨by simp [signDown], by simp [signDown]⟩
  | 1 => ⟨by simp [signDown], by simp [signDown]⟩
  | j + 2 => by
    have ih := signDown_one s (j + 1)
    unfold signDown
    cases longB (s.take (j + 2)) with
    | true => exact ⟨by simp, by simp⟩
    | false => exact ⟨ih.1, by have := ih.2; show signDown s (j + 1) ≤ j + 2; omega⟩
def isNm (c : UInt8) : Bool := bif letB c then true else ((c.toNat : Int) == 36)
def isNu (c : UInt8) : Bool := bif digB c then true else ((c.toNat : Int) == 39)
def nameR (s : List UInt8) (n : Nat) : List D := bif decide ((n : Int) > 40) then [.int .i64 0, .int .i64 0, .int .i64 9] else (bif s.take n == [36] then [.int .i64 0, .int .i64 0, .int .i64 9] else [.int .i64 1, .int .i64 (n : Int), .int .i64 0])
theorem cons_ok (c : UInt8) (t : List UInt8) : (true && decide ((0 : Int) < ((c :: t).length : Int))) = true := and_tt rfl (decide_eq_true (by simp only [List.length_cons]; omega))
theorem word_name {c : UInt8} {t : List UInt8} (hs : (c :: t).length ≤ 1048576) (hc : isNm c = true) : Ev (fun n => lex_word n (.str (c :: t))) fun r => r = (true, nameR (c :: t) (1 + spanN p2 t)) := by
  have hle := spanN_le p2 t
  have htl : t.length ≤ 1048576 := by simp only [List.length_cons] at hs; omega
  have hd : ((c :: t).drop 1).take (((c :: t).length : Int).toNat - 1) = t := by
    show t.take _ = t
    rw [List.take_of_length_le (by simp only [List.length_cons]; omega)]
  have name : Ev (fun n => bif (true && decide ((1 : Int) ≤ ((c :: t).length : Int)) && decide (((c :: t).length : Int) ≤ ((c :: t).length : Int))) then (AE.bindC (lex_span_2 n (.str (((c :: t).drop 1).take (((c :: t).length : Int).toNat - 1)))) fun r2 => bif chk lex_span_2.osk r2 then (bif (decide ((IntKind.i64.wrap ((1 : Int) + (nth r2 0).i)) > (40 : Int))) then (some (true, [(.int .i64 (0 : Int)), (.int .i64 (0 : Int)), (.int .i64 (9 : Int))])) else (bif (true && decide ((0 : Int) ≤ (IntKind.i64.wrap ((1 : Int) + (nth r2 0).i))) && decide ((IntKind.i64.wrap ((1 : Int) + (nth r2 0).i)) ≤ ((c :: t).length : Int))) then (bif ((((c :: t).drop 0).take ((IntKind.i64.wrap ((1 : Int) + (nth r2 0).i)).toNat - 0)) == ([36] : List UInt8)) then (some (true, [(.int .i64 (0 : Int)), (.int .i64 (0 : Int)), (.int .i64 (9 : Int))])) else (some (true, [(.int .i64 (1 : Int)), (.int .i64 (IntKind.i64.wrap ((1 : Int) + (nth r2 0).i))), (.int .i64 (0 : Int))]))) else none)) else none) else none) fun r => r = (true, nameR (c :: t) (1 + spanN p2 t)) := by
    rw [hd]
    refine Ev.yes (slice_ok (by simp)) (Ev.bindC (span_2_is htl) ?_)
    intro _ _ h; cases h
    have hw : IntKind.i64.wrap ((1 : Int) + ((spanN p2 t : Nat) : Int)) = ((1 + spanN p2 t : Nat) : Int) := by rw [wrap_id (by omega) (by omega)]; omega
    simp only [nth, D.i, List.getD_cons_zero, hw, Int.toNat_natCast, List.drop_zero, Nat.sub_zero]
    refine ⟨trivial, Ev.yes rfl ?_⟩
    unfold nameR
    cases h1 : decide (((1 + spanN p2 t : Nat) : Int) > 40) with
    | true => exact Ev.yes rfl (Ev.ret rfl)
    | false =>
      refine Ev.no rfl (Ev.yes (and_tt (and_tt rfl (decide_eq_true (by omega))) (decide_eq_true (by simp only [List.length_cons]; omega))) ?_)
      cases h2 : (c :: t).take (1 + spanN p2 t) == [36] with
      | true => exact Ev.yes rfl (Ev.ret rfl)
      | false => exact Ev.no rfl (Ev.ret rfl)
  refine Ev.eq (fun n => lex_word_eq n (c :: t)) (Ev.yes (cons_ok c t) (Ev.bindC (letX_ev c) ?_))
  intro _ _ h; cases h
  refine ⟨rfl, Ev.yes rfl (Ev.test (fun _ => name) fun h1 => Ev.test (fun _ => name) fun h2 => ?_)⟩
  exfalso
  have h1 : letB c = false := h1
  have h2 : ((c.toNat : Int) == 36) = false := h2
  unfold isNm at hc
  rw [h1, h2] at hc
  cases hc
theorem word_num {c : UInt8} {t : List UInt8} (hs : (c :: t).length ≤ 1048576) (hc : isNm c = false) (hn : isNu c = true) (hle : numF (c :: t) ≤ (c :: t).length) {x : D} {e : Int} (hp : Ev (fun n => lit_Parse n (.str ((c :: t).take (numF (c :: t))))) fun r => r = (true, [x, .int .i64 e])) (hx : ∃ w ws b1 b2, x = .agg [.int .i64 w, .lst 1 ws, .bool b1, .bool b2]) :
    Ev (fun n => lex_word n (.str (c :: t))) fun r => r = (true, bif (e != 0) then [.int .i64 0, .int .i64 0, .int .i64 7] else [.int .i64 2, .int .i64 (numF (c :: t) : Int), .int .i64 0]) := by
  obtain ⟨w, ws, b1, b2, rfl⟩ := hx
  have num : Ev (fun n => AE.bindC (lex_number n (.str (c :: t))) fun r3 => bif chk lex_number.osk r3 then (bif (true && decide ((0 : Int) ≤ (nth r3 0).i) && decide ((nth r3 0).i ≤ ((c :: t).length : Int))) then (AE.bindC (lit_Parse n (.str (((c :: t).drop 0).take ((nth r3 0).i.toNat - 0)))) fun r4 => bif chk lit_Parse.osk r4 then (bif ((nth r4 1).i != (0 : Int)) then (some (true, [(.int .i64 (0 : Int)), (.int .i64 (0 : Int)), (.int .i64 (7 : Int))])) else (some (true, [(.int .i64 (2 : Int)), (.int .i64 (nth r3 0).i), (.int .i64 (0 : Int))]))) else none) else none) else none) fun r => r = (true, bif (e != 0) then [.int .i64 0, .int .i64 0, .int .i64 7] else [.int .i64 2, .int .i64 (numF (c :: t) : Int), .int .i64 0]) := by
    refine Ev.bindC (number_is hs) ?_
    generalize numF (c :: t) = k at hp hle
    intro _ _ h; cases h
    simp only [nth, D.i, List.getD_cons_zero, Int.toNat_natCast, List.drop_zero, Nat.sub_zero]
    refine ⟨trivial, Ev.yes rfl (Ev.yes (and_tt (and_tt rfl (decide_eq_true (by omega))) (decide_eq_true (by omega))) (Ev.bindC hp ?_))⟩
    intro _ _ h; cases h
    refine ⟨rfl, Ev.yes rfl ?_⟩
    cases he : e != 0 with
    | true => exact Ev.yes he (Ev.ret rfl)
    | false => exact Ev.no he (Ev.ret rfl)
  unfold isNm at hc
  have h1 : letB c = false := by cases h : letB c with | false => rfl | true => rw [h] at hc; cases hc
  have h2 : ((c.toNat : Int) == 36) = false := by rw [h1] at hc; exact hc
  refine Ev.eq (fun n => lex_word_eq n (c :: t)) (Ev.yes (cons_ok c t) (Ev.bindC (letX_ev c) ?_))
  intro _ _ h; cases h
  refine ⟨rfl, Ev.yes rfl (Ev.no h1 (Ev.no h2 (Ev.bindC (digX_ev c) ?_)))⟩
  intro _ _ h; cases h
  refine ⟨rfl, Ev.yes rfl (Ev.test (fun _ => num) fun h3 => Ev.test (fun _ => num) fun h4 => ?_)⟩
  exfalso
  have h3 : digB c = false := h3
  have h4 : ((c.toNat : Int) == 39) = false := h4
  unfold isNu at hn
  rw [h3, h4] at hn
  cases hn
theorem word_sign {c : UInt8} {t : List UInt8} (hs : (c :: t).length ≤ 1048576) (hc : isNm c = false) (hn : isNu c = false) :
    Ev (fun n => lex_word n (.str (c :: t))) fun r => r = (true, bif ((signF (c :: t) : Int) == 0) then [.int .i64 0, .int .i64 0, .int .i64 7] else [.int .i64 3, .int .i64 (signF (c :: t) : Int), .int .i64 0]) := by
  unfold isNm at hc
  have h1 : letB c = false := by cases h : letB c with | false => rfl | true => rw [h] at hc; cases hc
  have h2 : ((c.toNat : Int) == 36) = false := by rw [h1] at hc; exact hc
  unfold isNu at hn
  have h3 : digB c = false := by cases h : digB c with | false => rfl | true => rw [h] at hn; cases hn
  have h4 : ((c.toNat : Int) == 39) = false := by rw [h3] at hn; exact hn
  refine Ev.eq (fun n => lex_word_eq n (c :: t)) (Ev.yes (cons_ok c t) (Ev.bindC (letX_ev c) ?_))
  intro _ _ h; cases h
  refine ⟨rfl, Ev.yes rfl (Ev.no h1 (Ev.no h2 (Ev.bindC (digX_ev c) ?_)))⟩
  intro _ _ h; cases h
  refine ⟨rfl, Ev.yes rfl (Ev.no h3 (Ev.no h4 (Ev.bindC (sign_is hs (by simp)) ?_)))⟩
  intro _ _ h; cases h
  refine ⟨rfl, Ev.yes rfl ?_⟩
  cases h5 : ((signF (c :: t) : Int) == 0) with
  | true => exact Ev.yes h5 (Ev.ret rfl)
  | false => exact Ev.no h5 (Ev.ret rfl)
theorem numF_le (s : List UInt8) : numF s ≤ s.length := by
  unfold numF
  have h1 := spanN_le p3 s
  generalize spanN p3 s = k at h1
  cases hd : s.drop k with
  | nil => exact h1
  | cons b t =>
    have hl : t.length + 1 = s.length - k := by have := congrArg List.length hd; simpa using this.symm
    have h4 := spanN_le p4 t
    cases hq : ((b.toNat : Int) == 39) with
    | false => simp only [hq, cond_false]; exact h1
    | true => simp only [hq, cond_true]; omega
theorem awake_run (n : Nat) : law08_awake (n + 60) = some (true, [.bool true]) := by kernel_rfl
theorem awake08 : Ev (fun n => law08_awake n) fun r => r = (true, [.bool true]) := by
  refine ⟨_, rfl, 60, fun n hn => ?_⟩
  obtain ⟨k, rfl⟩ : ∃ k, n = k + 60 := ⟨n - 60, by omega⟩
  exact awake_run k
def Toks (ts : List D) : Prop := ∀ y ∈ ts, ∃ (k : Int) (t : List UInt8) (a b c : Int), y = .agg [.int .i64 k, .str t, .int .i64 a, .int .i64 b, .int .i64 c]
def pieceD (t : List UInt8) (p0 p1 p2 : Int) (fx : Bool) : D := .agg [.str t, .int .i64 p0, .int .i64 p1, .int .i64 p2, .bool fx]
def IsP (L : Nat) (y : D) : Prop := ∃ (t : List UInt8) (p0 p1 p2 : Int) (fx : Bool), y = pieceD t p0 p1 p2 fx ∧ t.length ≤ L
end Go.Proofs.Ytmklmhdgnokcmaa
