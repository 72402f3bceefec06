/- LexMany, plain: a text of many signs, at the limit of words and beyond. -/
import Derived.Test.YtmklmhdgnokcmaaLexAll
namespace Go.Proofs.Ytmklmhdgnokcmaa
open Go.AE
set_option linter.unusedVariables false
theorem letter_semi : Ev (fun n => lex_letter n (.int .u8 59)) fun r => r = (true, [.bool false]) :=
  Ev.eq (fun n => lex_letter_eq n 59) (Ev.no rfl (Ev.no rfl (Ev.ret rfl)))
theorem digit_semi : Ev (fun n => lex_digit n (.int .u8 59)) fun r => r = (true, [.bool false]) :=
  Ev.eq (fun n => lex_digit_eq n 59) (Ev.yes rfl (Ev.ret rfl))
theorem blank_semi : Ev (fun n => lex_piece_2 n (.int .u8 59)) fun r => r = (true, [.bool false]) := by
  refine Ev.eq (fun n => lex_piece_2_eq n 59) (Ev.bindC (indexByte_ev _ _) ?_)
  intro b ds h; cases h; exact ⟨rfl, Ev.yes rfl (Ev.ret rfl)⟩
theorem span_semi (m : Nat) : Ev (fun n => lex_span n (.str (List.replicate m 59))) fun r => r = (true, [.int .i64 ((0 : Nat) : Int)]) := by
  refine Ev.eq (fun n => lex_span_eq n _) (Ev.bindL (Q := fun r => r = (false, [.str (List.replicate m 59), .int .i64 0])) ?_ (fun ds h => by cases h) fun ds h => ?_)
  · refine Ev.eq (fun n => lex_span_L0_eq n _ _) ?_
    cases m with
    | zero => exact Ev.no rfl (Ev.ret rfl)
    | succ m =>
      refine Ev.yes (decide_eq_true (by rw [List.length_replicate]; omega)) (Ev.yes (and_tt rfl (decide_eq_true (by rw [List.length_replicate]; omega))) (Ev.bindC (blank_semi) ?_))
      intro _ _ h; cases h; exact ⟨rfl, Ev.yes rfl (Ev.no rfl (Ev.ret rfl))⟩
  · cases h; exact Ev.yes rfl (Ev.ret rfl)
theorem take_semi {m j : Nat} (h : j ≤ m) : ((List.replicate m (59 : UInt8)).drop 0).take (((j : Nat) : Int).toNat - 0) = List.replicate j 59 := by
  rw [List.drop_zero, Int.toNat_natCast, Nat.sub_zero, List.take_replicate, Nat.min_eq_left h]
theorem sign_semi (m : Nat) (hm : m < 100000) : Ev (fun n => lex_sign n (.str (List.replicate (m + 1) 59))) fun r => r = (true, [.int .i64 1]) := by
  refine Ev.eq (fun n => lex_sign_eq n _) ?_
  have loop : ∀ (j : Nat), j ≤ m + 1 → j ≤ 3 → 1 ≤ j → Ev (fun n => lex_sign_L0 n (.str (List.replicate (m + 1) 59)) (.int .i64 (j : Int))) fun r => ∃ j', r = (false, [.str (List.replicate (m + 1) 59), .int .i64 j']) := by
    intro j
    induction j with
    | zero => intro _ _ h; omega
    | succ j ih =>
      intro hj h3 _
      have hw : IntKind.i64.wrap (((j + 1 : Nat) : Int) - 1) = (j : Int) := by rw [wrap_id (by omega) (by omega)]; omega
      have hc : (true && decide ((0 : Int) ≤ ((j + 1 : Nat) : Int)) && decide (((j + 1 : Nat) : Int) ≤ ((List.replicate (m + 1) (59 : UInt8)).length : Int))) = true := and_tt (and_tt rfl (decide_eq_true (by omega))) (decide_eq_true (by simp; omega))
      refine Ev.eq (fun n => lex_sign_L0_eq n _ _) (Ev.test (fun h1 => ?_) fun _ => Ev.ret ⟨_, rfl⟩)
      have h1 := of_decide_eq_true h1
      rw [take_semi hj]
      refine Ev.yes hc (Ev.bindC (contains_ev (by simp; omega) _) ?_)
      have e1 : decide (0 ≤ idxStr [32] (List.replicate (j + 1) 59) 0) = false := by
        have : j = 1 ∨ j = 2 := by omega
        rcases this with rfl | rfl <;> rfl
      have e2 : decide (0 ≤ idxStr ([32] ++ List.replicate (j + 1) 59 ++ [32]) [32, 60, 60, 60, 32, 62, 62, 62, 32, 60, 60, 32, 62, 62, 32, 60, 61, 32, 62, 61, 32, 61, 61, 32, 33, 61, 32, 38, 38, 32, 124, 124, 32, 126, 38, 32, 126, 124, 32, 126, 94, 32, 94, 126, 32] 0) = false := by
        have : j = 1 ∨ j = 2 := by omega
        rcases this with rfl | rfl <;> rfl
      rw [e1]
      intro _ _ h; cases h
      refine ⟨rfl, Ev.yes rfl (Ev.yes rfl (Ev.yes hc (Ev.yes (decide_eq_true (by simp [maxStr]; omega)) (Ev.yes (decide_eq_true (by simp [maxStr]; omega)) (Ev.bindC (contains_ev (by simp) _) ?_)))))⟩
      rw [e2]
      intro _ _ h; cases h
      refine ⟨rfl, Ev.yes rfl (Ev.no rfl ?_)⟩
      rw [hw]
      exact ih (by omega) (by omega) (by omega)
  have hmin : min (3 : Int) ((List.replicate (m + 1) (59 : UInt8)).length : Int) = ((min 3 (m + 1) : Nat) : Int) := by simp; omega
  rw [hmin]
  refine Ev.bindL (loop (min 3 (m + 1)) (by omega) (by omega) (by omega)) (fun ds h => by obtain ⟨_, h⟩ := h; cases h) fun ds h => ?_
  obtain ⟨_, h⟩ := h
  cases h
  refine Ev.yes rfl (Ev.yes (and_tt rfl (decide_eq_true (by show (0 : Int) < ((List.replicate (m + 1) (59 : UInt8)).length : Int); rw [List.length_replicate]; omega))) (Ev.bindC (indexByte_ev _ _) ?_))
  intro _ _ h; cases h
  exact ⟨rfl, Ev.yes rfl (Ev.yes rfl (Ev.ret rfl))⟩
theorem word_semi (m : Nat) (hm : m < 100000) : Ev (fun n => lex_word n (.str (List.replicate (m + 1) 59))) fun r => r = (true, [.int .i64 3, .int .i64 ((1 : Nat) : Int), .int .i64 0]) := by
  refine Ev.eq (fun n => lex_word_eq n _) (Ev.yes (and_tt rfl (decide_eq_true (by rw [List.length_replicate]; omega))) (Ev.bindC letter_semi ?_))
  intro _ _ h; cases h
  refine ⟨rfl, Ev.yes rfl (Ev.no rfl (Ev.no rfl (Ev.bindC digit_semi ?_)))⟩
  intro _ _ h; cases h
  refine ⟨rfl, Ev.yes rfl (Ev.no rfl (Ev.no rfl (Ev.bindC (sign_semi m hm) ?_)))⟩
  intro _ _ h; cases h
  exact ⟨rfl, Ev.yes rfl (Ev.no rfl (Ev.ret rfl))⟩
theorem move_none (a b c : Int) : Ev (fun n => lex_move n (.agg [.int .i64 a, .int .i64 b, .int .i64 c]) (.str [])) fun r => r = (true, [.agg [.int .i64 a, .int .i64 b, .int .i64 c]]) := by
  refine Ev.eq (fun n => lex_move_eq n a b c []) (Ev.bindL (Q := fun r => r = (false, [.str [], .int .i64 0, .int .i64 0, .int .i64 a, .int .i64 b, .int .i64 c, .int .i64 0, .int .i64 0, .int .i64 0])) (Ev.eq (fun n => lex_move_L0_eq n _ _ _ _ _ _ _ _ _) (Ev.no rfl (Ev.ret rfl))) (fun ds h => by cases h) fun ds h => ?_)
  cases h; exact Ev.yes rfl (Ev.ret rfl)
theorem move_semi (a b c : Int) (h0 : 0 ≤ c) (h1 : c < 100000) : Ev (fun n => lex_move n (.agg [.int .i64 a, .int .i64 b, .int .i64 c]) (.str [59])) fun r => r = (true, [.agg [.int .i64 a, .int .i64 b, .int .i64 (c + 1)]]) := by
  refine Ev.eq (fun n => lex_move_eq n a b c [59]) (Ev.bindL (Q := fun r => r = (false, [.str [59], .int .i64 1, .int .i64 1, .int .i64 a, .int .i64 b, .int .i64 (c + 1), .int .i64 0, .int .i64 0, .int .i64 0])) ?_ (fun ds h => by cases h) fun ds h => ?_)
  · refine Ev.eq (fun n => lex_move_L0_eq n _ _ _ _ _ _ _ _ _) (Ev.yes rfl (Ev.yes rfl (Ev.no rfl ?_)))
    rw [wrap_id (x := c + 1) (by omega) (by omega)]
    exact Ev.eq (fun n => lex_move_L0_eq n _ _ _ _ _ _ _ _ _) (Ev.no rfl (Ev.ret rfl))
  · cases h; exact Ev.yes rfl (Ev.ret rfl)
theorem step_semi {m m' k : Nat} (hk : k ≤ 1) (hm : m = m' + k) (x : List UInt8) (p0 p1 p2 a b : Int) {c c' : Int} (h0 : 0 ≤ c) (h1 : c < 100000) (hc' : c' = c + k) :
    Ev (fun n => lex_piece_1 n (.int .i64 (k : Int)) (.str x) (.int .i64 p0) (.int .i64 p1) (.int .i64 p2) (.bool false) (.int .i64 a) (.int .i64 b) (.int .i64 c) (.str (List.replicate m 59))) fun r =>
      r = (true, [.str x, .int .i64 p0, .int .i64 p1, .int .i64 p2, .bool false, .int .i64 a, .int .i64 b, .int .i64 c', .str (List.replicate m' 59)]) := by
  refine Ev.eq (fun n => lex_piece_1_eq n _ _ _ _ _ _ _ _ _ _) (Ev.yes rfl ?_)
  rw [take_semi (show k ≤ m by omega)]
  have hl : (List.replicate m (59 : UInt8)).length = m := List.length_replicate
  have hc : (decide ((0 : Int) ≤ (k : Int)) && decide ((k : Int) ≤ ((List.replicate m (59 : UInt8)).length : Int)) && decide (((List.replicate m (59 : UInt8)).length : Int) ≤ ((List.replicate m (59 : UInt8)).length : Int))) = true := and_tt (and_tt (decide_eq_true (by omega)) (decide_eq_true (by omega))) (decide_eq_true (Int.le_refl _))
  have hd : ((List.replicate m (59 : UInt8)).drop ((k : Nat) : Int).toNat).take (((List.replicate m (59 : UInt8)).length : Int).toNat - ((k : Nat) : Int).toNat) = List.replicate m' 59 := by
    rw [Int.toNat_natCast, Int.toNat_natCast, drop_all, List.drop_replicate]
    congr 1; omega
  refine Ev.yes (and_tt (and_tt rfl (decide_eq_true (by omega))) (decide_eq_true (by omega))) ?_
  rw [hd]
  have hk : k = 0 ∨ k = 1 := by omega
  rcases hk with rfl | rfl
  · have hc' : c' = c := by omega
    subst hc'
    refine Ev.bindC (move_none a b c') ?_
    intro _ _ h; cases h
    exact ⟨rfl, Ev.yes rfl (Ev.yes hc (Ev.ret rfl))⟩
  · have hc' : c' = c + 1 := by omega
    subst hc'
    refine Ev.bindC (move_semi a b c h0 h1) ?_
    intro _ _ h; cases h
    exact ⟨rfl, Ev.yes rfl (Ev.yes hc (Ev.ret rfl))⟩
theorem pieceMany : ∀ (m : Nat) (out : List D) (c : Int) (x : List UInt8) (p0 p1 p2 : Int), out.length ≤ 12000 → m ≤ 20000 → c = (out.length : Int) + 1 → Toks out →
    Ev (fun n => lex_piece_L0 n (.int .i64 0) (.lst 5 out) (.lst 5 []) (.int .i64 0) (.int .i64 0) (.int .i64 0) (.str (List.replicate m 59)) (.int .i64 1) (.int .i64 1) (.int .i64 c) (.str x) (.int .i64 p0) (.int .i64 p1) (.int .i64 p2) (.bool false)) fun r =>
      (out.length + m ≤ 12000 ∧ ∃ ts, r = pieceOut none ts [] ∧ ts.length = out.length + m ∧ Toks ts) ∨ (12000 < out.length + m ∧ r = pieceOut (some (1, 1, 12001, 19)) [] []) := by
  intro m
  induction m with
  | zero =>
    intro out c x p0 p1 p2 ho hm hc ht
    refine Ev.eq (fun n => lex_piece_L0_eq n _ _ _ _ _ _ _ _ _ _ _ _ _ _ _) (Ev.bindC (span_semi 0) ?_)
    intro _ _ h; cases h
    refine ⟨rfl, Ev.yes rfl (Ev.bindC (step_semi (k := 0) (m' := 0) (c' := c) (by omega) rfl x p0 p1 p2 1 1 (by omega) (by omega) (by omega)) ?_)⟩
    intro _ _ h; cases h
    exact ⟨rfl, Ev.yes rfl (Ev.yes rfl (Ev.ret (.inl ⟨by omega, out, by simp [pieceOut], rfl, ht⟩)))⟩
  | succ m ih =>
    intro out c x p0 p1 p2 ho hm hc ht
    refine Ev.eq (fun n => lex_piece_L0_eq n _ _ _ _ _ _ _ _ _ _ _ _ _ _ _) (Ev.bindC (span_semi (m + 1)) ?_)
    intro _ _ h; cases h
    refine ⟨rfl, Ev.yes rfl (Ev.bindC (step_semi (k := 0) (m' := m + 1) (c' := c) (by omega) rfl x p0 p1 p2 1 1 (by omega) (by omega) (by omega)) ?_)⟩
    intro _ _ h; cases h
    refine ⟨rfl, Ev.yes rfl (Ev.no rfl (Ev.bindC (word_semi m (by omega)) ?_))⟩
    intro _ _ h; cases h
    refine ⟨rfl, Ev.yes rfl (Ev.yes rfl (Ev.test (fun h => ?_) fun h => ?_))⟩
    · have h : (out.length : Int) = 12000 := by simpa using h
      have hc : c = 12001 := by omega
      subst hc
      exact Ev.ret (.inr ⟨by omega, rfl⟩)
    · have h : (out.length : Int) ≠ 12000 := by simpa using h
      refine Ev.no rfl (Ev.yes (and_tt rfl (decide_eq_true (by show (1 : Int) ≤ ((List.replicate (m + 1) (59 : UInt8)).length : Int); simp; omega))) (Ev.yes (Nat.ble_eq_true_of_le (by simp only [maxLst]; omega)) (Ev.bindC (step_semi (k := 1) (m' := m) (c := c) (c' := c + 1) (Nat.le_refl _) rfl x p0 p1 p2 1 1 (by omega) (by omega) rfl) ?_)))
      intro _ _ h; cases h
      refine ⟨rfl, Ev.yes rfl ?_⟩
      have hl : (out ++ [D.agg [.int .i64 3, .str [59], .int .i64 1, .int .i64 1, .int .i64 c]]).length = out.length + 1 := by simp
      have := ih (out ++ [.agg [.int .i64 3, .str [59], .int .i64 1, .int .i64 1, .int .i64 c]]) (c + 1) x p0 p1 p2 (by omega) (by omega) (by rw [hl, hc]; omega) (fun y hy => (List.mem_append.1 hy).elim (ht y) fun hy => ⟨_, _, _, _, _, List.mem_singleton.1 hy⟩)
      rw [hl] at this
      refine Ev.mono this ?_
      rintro r (⟨h1, ts, h2, h3, h4⟩ | ⟨h1, h2⟩)
      · exact .inl ⟨by omega, ts, h2, by omega, h4⟩
      · exact .inr ⟨by omega, h2⟩
theorem lexMany_lex (m : Nat) (hm : m ≤ 20000) : Ev (fun n => lex_Lex n (.lst 5 [.agg [.str (List.replicate m 59), .int .i64 1, .int .i64 1, .int .i64 1, .bool false]])) fun r =>
    (m ≤ 12000 ∧ ∃ ts, r = pieceOut none ts [] ∧ ts.length = m ∧ Toks ts) ∨ (12000 < m ∧ r = pieceOut (some (1, 1, 12001, 19)) [] []) := by
  have hp : Ev (fun n => lex_piece n (.agg [.str (List.replicate m 59), .int .i64 1, .int .i64 1, .int .i64 1, .bool false]) (.lst 5 [])) fun r =>
      (m ≤ 12000 ∧ ∃ ts, r = pieceOut none ts [] ∧ ts.length = m ∧ Toks ts) ∨ (12000 < m ∧ r = pieceOut (some (1, 1, 12001, 19)) [] []) := by
    have := pieceMany m [] 1 (List.replicate m 59) 1 1 1 (by simp) hm rfl (fun y hy => by simp at hy)
    simp only [List.length_nil, Nat.zero_add] at this
    refine Ev.eq (fun n => lex_piece_eq n _ _ _ _ _ _) (Ev.bindL this (fun ds h => h) fun ds h => ?_)
    rcases h with ⟨_, _, h, _⟩ | ⟨_, h⟩ <;> cases h
  refine Ev.eq (fun n => lex_Lex_eq n _) ?_
  have loop : Ev (fun n => lex_Lex_L0 n (.lst 5 [.agg [.str (List.replicate m 59), .int .i64 1, .int .i64 1, .int .i64 1, .bool false]]) (.int .i64 1) (.int .i64 0) (.int .i64 0) (.int .i64 0) (.int .i64 0) (.lst 5 [])) fun r =>
      (m ≤ 12000 ∧ ∃ ts, r = (false, [.lst 5 [.agg [.str (List.replicate m 59), .int .i64 1, .int .i64 1, .int .i64 1, .bool false]], .int .i64 1, .int .i64 1, .int .i64 0, .int .i64 0, .int .i64 0, .lst 5 ts]) ∧ ts.length = m ∧ Toks ts) ∨ (12000 < m ∧ r = pieceOut (some (1, 1, 12001, 19)) [] []) := by
    refine Ev.eq (fun n => lex_Lex_L0_eq n _ _ _ _ _ _ _) (Ev.yes rfl (Ev.yes rfl (Ev.yes rfl (Ev.bindC hp ?_))))
    rintro _ _ (⟨h1, ts, h, h3, h4⟩ | ⟨h1, h⟩)
    · cases h
      refine ⟨rfl, Ev.yes rfl (Ev.no rfl (Ev.eq (fun n => lex_Lex_L0_eq n _ _ _ _ _ _ _) (Ev.no rfl (Ev.ret (.inl ⟨h1, ts, ?_, h3, h4⟩)))))⟩
      simp [nth, D.l]; rfl
    · cases h
      exact ⟨rfl, Ev.yes rfl (Ev.yes rfl (Ev.ret (.inr ⟨h1, rfl⟩)))⟩
  refine Ev.bindL loop (fun ds h => ?_) fun ds h => ?_
  · rcases h with ⟨_, _, h, _⟩ | ⟨h1, h⟩
    · cases h
    · exact .inr ⟨h1, h⟩
  · rcases h with ⟨h1, ts, h, h3, h4⟩ | ⟨h1, h⟩
    · cases h
      exact Ev.yes rfl (Ev.ret (.inl ⟨h1, ts, by simp [pieceOut, nth, D.l], h3, h4⟩))
    · cases h
theorem toks_plainM {ts : List D} (h : Toks ts) : ts.all plainD = true := List.all_eq_true.2 fun y hy => by
  obtain ⟨k, t, a, b, c, rfl⟩ := h y hy
  rfl
theorem plain3M {sk : Sk} {e : Int} {ts : List D} {xs : List D} (h : Toks ts) : plainDs sk [.agg xs, .int .i64 e, .lst 5 ts] = true := by simp [plainDs, toks_plainM h]
theorem bytes_semi : ∀ m, allBytes (List.replicate m (D.int .u8 59)) = true
  | 0 => rfl
  | m + 1 => bytes_semi m
theorem lexMany_plain (k : Int) (hk0 : -9223372036854775808 ≤ k) (hk1 : k ≤ 9223372036854775807) : Ev (fun n => law08_LexMany n (.int .i64 k)) fun r => r = (true, [.bool true]) := by
  refine Ev.eq (fun n => law08_LexMany_eq n k) (Ev.bindC awake08 ?_)
  intro _ _ h; cases h
  refine ⟨rfl, Ev.yes rfl (Ev.no rfl ?_)⟩
  obtain ⟨q, hq, hq20⟩ : ∃ q : Nat, max (0 : Int) (min k 20) = (q : Int) ∧ q ≤ 20 := ⟨(max (0 : Int) (min k 20)).toNat, by omega, by omega⟩
  rw [hq, wrap_id (x := 11990 + (q : Int)) (by omega) (by omega)]
  have hN : (11990 : Int) + (q : Int) = ((11990 + q : Nat) : Int) := by omega
  rw [hN]
  have loop : ∀ (m j : Nat), j + m = 11990 + q →
      Ev (fun n => law08_LexMany_L0 n (.int .i64 (q : Int)) (.int .i64 ((11990 + q : Nat) : Int)) (.int .i64 (j : Int)) (.lst 1 (List.replicate j (.int .u8 59)))) fun r =>
        ∃ j' : Int, r = (false, [.int .i64 (q : Int), .int .i64 ((11990 + q : Nat) : Int), .int .i64 j', .lst 1 (List.replicate (11990 + q) (.int .u8 59))]) := by
    intro m
    induction m with
    | zero => intro j hj; refine Ev.eq (fun n => law08_LexMany_L0_eq n _ _ _ _) (Ev.no (decide_eq_false (by omega)) (Ev.ret ⟨(j : Int), ?_⟩)); rw [show 11990 + q = j by omega]
    | succ m ih =>
      intro j hj
      have hw : IntKind.i64.wrap ((j : Int) + 1) = ((j + 1 : Nat) : Int) := wrap_succ (by omega)
      refine Ev.eq (fun n => law08_LexMany_L0_eq n _ _ _ _) (Ev.yes (decide_eq_true (by omega)) (Ev.yes (Nat.ble_eq_true_of_le (by simp [maxLst]; omega)) ?_))
      rw [hw, ← List.replicate_succ']
      exact ih (j + 1) (by omega)
  refine Ev.bindL (loop (11990 + q) 0 (by omega)) (fun ds h => by obtain ⟨_, h⟩ := h; cases h) fun ds h => ?_
  obtain ⟨j', h⟩ := h
  cases h
  have hb : allBytes (List.replicate (11990 + q) (D.int .u8 59)) = true := bytes_semi _
  have hmap : (List.replicate (11990 + q) (D.int .u8 59)).map toByte = List.replicate (11990 + q) 59 := by rw [List.map_replicate]; rfl
  refine Ev.yes rfl (Ev.yes hb ?_)
  show Ev (fun n => AE.bindC (lex_Lex n (.lst 5 ([(.agg [(.str ((List.replicate (11990 + q) (D.int .u8 59)).map toByte)), (.int .i64 1), (.int .i64 1), (.int .i64 1), (.bool false)])] : List D))) fun r3 => _) _
  rw [hmap]
  refine Ev.bindC (lexMany_lex (11990 + q) (by omega)) ?_
  rintro _ _ (⟨h1, ts, h, h3, h4⟩ | ⟨h1, h⟩)
  · cases h
    refine ⟨rfl, Ev.yes (and_tt rfl (plain3M (by simpa using h4))) (Ev.no (decide_eq_false (by show ¬ ((q : Int) > 10); omega)) (Ev.yes rfl (Ev.ret ?_)))⟩
    simp only [nth, D.i, D.l, List.getD_cons_zero, List.getD_cons_succ, List.append_nil]
    rw [wrap_id (x := 11990 + (q : Int)) (by omega) (by omega)]
    have : ((ts.length : Int) == 11990 + (q : Int)) = true := by simp; omega
    rw [this]
  · cases h
    exact ⟨rfl, Ev.yes rfl (Ev.yes (decide_eq_true (by show (q : Int) > 10; omega)) (Ev.yes rfl (Ev.yes rfl (Ev.ret rfl))))⟩
end Go.Proofs.Ytmklmhdgnokcmaa
