/- LexCovers, plain: each byte is a blank, or a word's that stands there. -/
import Derived.Test.YtalibicpmfbieaaGreatDoorLexAll
namespace Go.Proofs.YtalibicpmfbieaaGreatDoor
open Go.AE
set_option linter.unusedVariables false
set_option linter.unusedSimpArgs false
def blankB (b : UInt8) : Bool := decide (0 ≤ idxByte b [32, 9, 13, 10] 0)
theorem blankB_cases {b : UInt8} (h : blankB b = true) : b = 32 ∨ b = 9 ∨ b = 13 ∨ b = 10 := by
  have h : 0 ≤ idxByte b [32, 9, 13, 10] 0 := of_decide_eq_true h
  simp only [idxByte] at h
  cases h1 : (32 : UInt8) == b with
  | true => exact .inl (by simpa using h1 : (32 : UInt8) = b).symm
  | false =>
    cases h2 : (9 : UInt8) == b with
    | true => exact .inr (.inl (by simpa using h2 : (9 : UInt8) = b).symm)
    | false =>
      cases h3 : (13 : UInt8) == b with
      | true => exact .inr (.inr (.inl (by simpa using h3 : (13 : UInt8) = b).symm))
      | false =>
        cases h4 : (10 : UInt8) == b with
        | true => exact .inr (.inr (.inr (by simpa using h4 : (10 : UInt8) = b).symm))
        | false => rw [h1, h2, h3, h4] at h; exact absurd h (by decide)
def mvB (p : Int × Int) (b : UInt8) : Int × Int := bif ((b.toNat : Int) == 10) then (p.1 + 1, 1) else (p.1, p.2 + 1)
def mv (p : Int × Int) (s : List UInt8) : Int × Int := s.foldl mvB p
theorem mv_append (p : Int × Int) (a b : List UInt8) : mv p (a ++ b) = mv (mv p a) b := List.foldl_append
/-- A place in a text of m bytes yet to come. -/
def Room (p : Int × Int) (m : Nat) : Prop := 1 ≤ p.1 ∧ 1 ≤ p.2 ∧ p.1 + m ≤ 1000000 ∧ p.2 + m ≤ 1000000
theorem room_mvB {p : Int × Int} {m : Nat} (h : Room p (m + 1)) (b : UInt8) : Room (mvB p b) m := by
  obtain ⟨h1, h2, h3, h4⟩ := h
  unfold mvB
  cases ((b.toNat : Int) == 10)
  · exact ⟨h1, by show 1 ≤ p.2 + 1; omega, by show p.1 + (m : Int) ≤ 1000000; omega, by show p.2 + 1 + (m : Int) ≤ 1000000; omega⟩
  · exact ⟨by show 1 ≤ p.1 + 1; omega, by show (1 : Int) ≤ 1; omega, by show p.1 + 1 + (m : Int) ≤ 1000000; omega, by show 1 + (m : Int) ≤ 1000000; omega⟩
theorem room_mv : ∀ {s : List UInt8} {p : Int × Int} {m : Nat}, Room p (m + s.length) → Room (mv p s) m
  | [], _, _, h => h
  | b :: s, p, m, h => room_mv (s := s) (room_mvB (m := m + s.length) h b)
def After (p q : Int × Int) : Prop := p.1 < q.1 ∨ (p.1 = q.1 ∧ p.2 < q.2)
theorem after_mvB (p : Int × Int) (b : UInt8) : After p (mvB p b) := by
  unfold mvB
  cases ((b.toNat : Int) == 10)
  · exact .inr ⟨rfl, by show p.2 < p.2 + 1; omega⟩
  · exact .inl (by show p.1 < p.1 + 1; omega)
theorem after_trans {p q r : Int × Int} (h : After p q) (h2 : After q r) : After p r := by
  unfold After at *; omega
theorem after_mv : ∀ (s : List UInt8) (p : Int × Int) (b : UInt8), After p (mv p (b :: s))
  | [], p, b => after_mvB p b
  | c :: s, p, b => after_trans (after_mvB p b) (after_mv s (mvB p b) c)
inductive Cov : Int × Int → List UInt8 → List D → Prop
  | nil {p s} : (∀ b ∈ s, blankB b = true) → Cov p s []
  | cons {p k bl w rest ts} : (∀ b ∈ bl, blankB b = true) → w ≠ [] → Cov (mv (mv p bl) w) rest ts →
      Cov p (bl ++ (w ++ rest)) (.agg [.int .i64 k, .str w, .int .i64 1, .int .i64 (mv p bl).1, .int .i64 (mv p bl).2] :: ts)
theorem byte_back (b : UInt8) : ((b.toNat : Int)).toNat.toUInt8 = b := by
  rw [Int.toNat_natCast]; exact UInt8.ofNat_toNat
theorem get_str {s : List UInt8} {j : Nat} (h : j < s.length) : s[((j : Nat) : Int).toNat]?.getD 0 = s[j] := by
  rw [Int.toNat_natCast, List.getElem?_eq_getElem h]; rfl
theorem blankX_ev (b : UInt8) : Ev (fun n => lex_piece_2 n (.int .u8 (b.toNat : Int))) fun r => r = (true, [.bool (blankB b)]) := by
  refine Ev.eq (fun n => lex_piece_2_eq n _) (Ev.bindC (indexByte_ev _ _) ?_)
  rw [byte_back]
  intro _ _ h; cases h; exact ⟨rfl, Ev.yes rfl (Ev.ret rfl)⟩
theorem spanX_ev {s : List UInt8} (hs : s.length ≤ 1048576) : Ev (fun n => lex_span n (.str s)) fun r => ∃ k : Nat, r = (true, [.int .i64 (k : Int)]) ∧ k ≤ s.length ∧ ∀ b ∈ s.take k, blankB b = true := by
  refine Ev.eq (fun n => lex_span_eq n s) ?_
  have loop : ∀ (m j : Nat), s.length - j = m → j ≤ s.length → (∀ b ∈ s.take j, blankB b = true) →
      Ev (fun n => lex_span_L0 n (.str s) (.int .i64 (j : Int))) fun r => ∃ k : Nat, r = (false, [.str s, .int .i64 (k : Int)]) ∧ k ≤ s.length ∧ ∀ b ∈ s.take k, blankB b = true := by
    intro m
    induction m with
    | zero => intro j hm hj hb; exact Ev.eq (fun n => lex_span_L0_eq n _ _) (Ev.no (decide_eq_false (by omega)) (Ev.ret ⟨j, rfl, hj, hb⟩))
    | succ m ih =>
      intro j hm hj hb
      have hj2 : j < s.length := by omega
      have hw : IntKind.i64.wrap ((j : Int) + 1) = ((j + 1 : Nat) : Int) := wrap_succ (by omega)
      refine Ev.eq (fun n => lex_span_L0_eq n _ _) (Ev.yes (decide_eq_true (by omega)) (Ev.yes (in_range hj2) ?_))
      rw [get_str hj2, hw]
      refine Ev.bindC (blankX_ev _) ?_
      intro _ _ h; cases h; refine ⟨rfl, Ev.yes rfl (Ev.test (fun hB => ?_) fun _ => Ev.ret ⟨j, rfl, hj, hb⟩)⟩
      refine ih (j + 1) (by omega) hj2 fun b h => ?_
      rw [List.take_succ_eq_append_getElem hj2] at h
      rcases List.mem_append.1 h with h | h
      · exact hb b h
      · rw [List.mem_singleton.1 h]; exact hB
  refine Ev.bindL (loop s.length 0 rfl (Nat.zero_le _) (fun b h => by simp at h)) (fun ds h => by obtain ⟨_, h, _⟩ := h; cases h) fun ds h => ?_
  obtain ⟨k, h, hk, hb⟩ := h
  cases h
  exact Ev.yes rfl (Ev.ret ⟨k, rfl, hk, hb⟩)
theorem moveX_ev (f : Int) {p : Int × Int} {s : List UInt8} (hr : Room p s.length) : Ev (fun n => lex_move n (.agg [.int .i64 f, .int .i64 p.1, .int .i64 p.2]) (.str s)) fun r => r = (true, [.agg [.int .i64 f, .int .i64 (mv p s).1, .int .i64 (mv p s).2]]) := by
  refine Ev.eq (fun n => lex_move_eq n f p.1 p.2 s) ?_
  have hsl : s.length ≤ 1000000 := by obtain ⟨r1, r2, r3, r4⟩ := hr; omega
  have loop : ∀ (m j : Nat) (q : Int × Int), s.length - j = m → j ≤ s.length → Room q m →
      Ev (fun n => lex_move_L0 n (.str s) (.int .i64 (s.length : Int)) (.int .i64 (j : Int)) (.int .i64 f) (.int .i64 q.1) (.int .i64 q.2) (.int .i64 0) (.int .i64 0) (.int .i64 0)) fun r => ∃ j' : Int, r = (false, [.str s, .int .i64 (s.length : Int), .int .i64 j', .int .i64 f, .int .i64 (mv q (s.drop j)).1, .int .i64 (mv q (s.drop j)).2, .int .i64 0, .int .i64 0, .int .i64 0]) := by
    intro m
    induction m with
    | zero =>
      intro j q hm hj hr
      refine Ev.eq (fun n => lex_move_L0_eq n _ _ _ _ _ _ _ _ _) (Ev.no (decide_eq_false (by omega)) (Ev.ret ⟨(j : Int), ?_⟩))
      rw [List.drop_eq_nil_of_le (by omega)]; rfl
    | succ m ih =>
      intro j q hm hj hr
      have hj2 : j < s.length := by omega
      have hw : IntKind.i64.wrap ((j : Int) + 1) = ((j + 1 : Nat) : Int) := wrap_succ (by omega)
      have hr' := hr
      obtain ⟨r1, r2, r3, r4⟩ := hr'
      refine Ev.eq (fun n => lex_move_L0_eq n _ _ _ _ _ _ _ _ _) (Ev.yes (decide_eq_true (by omega)) (Ev.yes (in_range hj2) ?_))
      rw [get_str hj2, hw, drop_cons hj2, wrap_id (x := q.1 + 1) (by omega) (by omega), wrap_id (x := q.2 + 1) (by omega) (by omega)]
      have hn := ih (j + 1) (mvB q s[j]) (by omega) hj2 (room_mvB hr _)
      refine Ev.test (fun h => ?_) fun h => ?_
      · have e : mvB q s[j] = (q.1 + 1, 1) := by unfold mvB; rw [h]; rfl
        have hn2 := hn
        rw [e] at hn2
        show Ev _ fun r => ∃ j' : Int, r = (false, [.str s, .int .i64 (s.length : Int), .int .i64 j', .int .i64 f, .int .i64 (mv (mvB q s[j]) (s.drop (j + 1))).1, .int .i64 (mv (mvB q s[j]) (s.drop (j + 1))).2, .int .i64 0, .int .i64 0, .int .i64 0])
        rw [e]; exact hn2
      · have e : mvB q s[j] = (q.1, q.2 + 1) := by unfold mvB; rw [h]; rfl
        have hn2 := hn
        rw [e] at hn2
        show Ev _ fun r => ∃ j' : Int, r = (false, [.str s, .int .i64 (s.length : Int), .int .i64 j', .int .i64 f, .int .i64 (mv (mvB q s[j]) (s.drop (j + 1))).1, .int .i64 (mv (mvB q s[j]) (s.drop (j + 1))).2, .int .i64 0, .int .i64 0, .int .i64 0])
        rw [e]; exact hn2
  refine Ev.bindL (loop s.length 0 p rfl (Nat.zero_le _) hr) (fun ds h => by obtain ⟨_, h⟩ := h; cases h) fun ds h => ?_
  obtain ⟨j', h⟩ := h
  cases h
  exact Ev.yes rfl (Ev.ret rfl)
theorem stepX_ev {s : List UInt8} {k : Nat} (hk : k ≤ s.length) (x : List UInt8) (p0 p1 p2 f : Int) {q : Int × Int} (hr : Room q s.length) :
    Ev (fun n => lex_piece_1 n (.int .i64 (k : Int)) (.str x) (.int .i64 p0) (.int .i64 p1) (.int .i64 p2) (.bool false) (.int .i64 f) (.int .i64 q.1) (.int .i64 q.2) (.str s)) fun r =>
      r = (true, [.str x, .int .i64 p0, .int .i64 p1, .int .i64 p2, .bool false, .int .i64 f, .int .i64 (mv q (s.take k)).1, .int .i64 (mv q (s.take k)).2, .str (s.drop k)]) := by
  have hc : (decide ((0 : Int) ≤ (k : Int)) && decide ((k : Int) ≤ (s.length : Int)) && decide ((s.length : Int) ≤ (s.length : Int))) = true := and_tt (and_tt (decide_eq_true (by omega)) (decide_eq_true (by omega))) (decide_eq_true (Int.le_refl _))
  refine Ev.eq (fun n => lex_piece_1_eq n _ _ _ _ _ _ _ _ _ _) (Ev.yes rfl ?_)
  simp only [Int.toNat_natCast, drop_all, List.drop_zero, Nat.sub_zero]
  refine Ev.yes (and_tt (and_tt rfl (decide_eq_true (by omega))) (decide_eq_true (by omega))) (Ev.bindC (moveX_ev f (p := q) (s := s.take k) ?_) ?_)
  · obtain ⟨r1, r2, r3, r4⟩ := hr
    refine ⟨r1, r2, ?_, ?_⟩ <;> simp only [List.length_take] <;> omega
  · intro _ _ h; cases h
    exact ⟨rfl, Ev.yes rfl (Ev.yes hc (Ev.ret rfl))⟩
theorem pieceX_ev : ∀ (m : Nat) (s x : List UInt8) (p0 p1 p2 : Int) (q : Int × Int) (out : List D), s.length ≤ m → Room q s.length → out.length + s.length ≤ 12000 → Toks out →
    Ev (fun n => lex_piece_L0 n (.int .i64 0) (.lst 5 out) (.lst 5 []) (.int .i64 0) (.int .i64 0) (.int .i64 0) (.str s) (.int .i64 1) (.int .i64 q.1) (.int .i64 q.2) (.str x) (.int .i64 p0) (.int .i64 p1) (.int .i64 p2) (.bool false)) fun r =>
      (∃ ts, r = pieceOut none out ts ∧ Toks (out ++ ts) ∧ Cov q s ts) ∨ ∃ b c e : Int, r = pieceOut (some (1, b, c, e)) [] [] ∧ e ≠ 0 ∧ 1 ≤ b ∧ 1 ≤ c := by
  intro m
  induction m with
  | zero =>
    intro s x p0 p1 p2 q out hm hr hl ht
    have : s = [] := List.eq_nil_of_length_eq_zero (by omega)
    subst this
    refine Ev.eq (fun n => lex_piece_L0_eq n _ _ _ _ _ _ _ _ _ _ _ _ _ _ _) (Ev.bindC (spanX_ev (by simp)) ?_)
    rintro _ _ ⟨k, h, hk, _⟩; cases h
    refine ⟨rfl, Ev.yes rfl (Ev.bindC (stepX_ev hk x p0 p1 p2 1 hr) ?_)⟩
    intro _ _ h; cases h
    have : k = 0 := Nat.le_zero.1 hk
    subst this
    exact ⟨rfl, Ev.yes rfl (Ev.yes rfl (Ev.ret (.inl ⟨[], by simp [pieceOut], by simpa using ht, .nil (by simp)⟩)))⟩
  | succ m ih =>
    intro s x p0 p1 p2 q out hm hr hl ht
    have hlen := hr
    obtain ⟨r1, r2, r3, r4⟩ := hlen
    refine Ev.eq (fun n => lex_piece_L0_eq n _ _ _ _ _ _ _ _ _ _ _ _ _ _ _) (Ev.bindC (spanX_ev (by omega)) ?_)
    rintro _ _ ⟨k, h, hk, hb⟩; cases h
    refine ⟨rfl, Ev.yes rfl (Ev.bindC (stepX_ev hk x p0 p1 p2 1 hr) ?_)⟩
    intro _ _ h; cases h
    have hr2 : Room (mv q (s.take k)) (s.drop k).length := room_mv (s := s.take k) (m := (s.drop k).length) (by rw [List.length_drop, List.length_take, Nat.min_eq_left hk, Nat.sub_add_cancel hk]; exact hr)
    refine ⟨rfl, Ev.yes rfl (Ev.test (fun hz => Ev.ret (.inl ⟨[], by simp [pieceOut], by simpa using ht, ?_⟩)) fun hz => ?_)⟩
    · have hz : s.drop k = [] := by simpa [nth, D.s] using hz
      refine .nil fun b h => hb b ?_
      rw [← List.take_append_drop k s, hz, List.append_nil] at h
      exact h
    have hz : (s.drop k == []) = false := hz
    have hz' := ne_nil_len hz
    have hd : (s.drop k).length ≤ s.length := by simp
    obtain ⟨s1, s2, s3, s4⟩ := hr2
    refine Ev.bindC (word_ev (s := s.drop k) (by omega) hz') ?_
    rintro _ _ ⟨wk, wn, we, h, hwn, hw1⟩; cases h
    refine ⟨rfl, Ev.yes rfl ?_⟩
    by_cases he : we = 0
    · subst he
      have hn1 := hw1 rfl
      refine Ev.yes rfl (Ev.no ?_ (Ev.no rfl (Ev.yes (and_tt (and_tt rfl (decide_eq_true ?_)) (decide_eq_true ?_)) (Ev.yes (Nat.ble_eq_true_of_le (by simp only [maxLst]; omega)) (Ev.bindC (stepX_ev (s := s.drop k) hwn x p0 p1 p2 1 (q := mv q (s.take k)) ⟨s1, s2, s3, s4⟩) ?_)))))
      · have : (out.length : Int) ≠ 12000 := by omega
        simpa using this
      · show (0 : Int) ≤ (wn : Int); omega
      · show (wn : Int) ≤ ((s.drop k).length : Int); omega
      intro _ _ h; cases h
      refine ⟨rfl, Ev.yes rfl ?_⟩
      have hw : (((s.drop k).drop 0).take (((wn : Nat) : Int).toNat - 0)) = (s.drop k).take wn := by rw [List.drop_zero, Int.toNat_natCast, Nat.sub_zero]
      have hl2 : ((s.drop k).drop wn).length + 1 ≤ s.length := by simp only [List.length_drop] at *; omega
      have hr3 : Room (mv (mv q (s.take k)) ((s.drop k).take wn)) ((s.drop k).drop wn).length := room_mv (s := (s.drop k).take wn) (m := ((s.drop k).drop wn).length) (by rw [List.length_drop, List.length_take, Nat.min_eq_left hwn, Nat.sub_add_cancel hwn]; exact ⟨s1, s2, s3, s4⟩)
      have hne : (s.drop k).take wn ≠ [] := fun h => by
        have : ((s.drop k).take wn).length = 0 := by rw [h]; rfl
        rw [List.length_take, Nat.min_eq_left hwn] at this
        omega
      have hi := ih ((s.drop k).drop wn) x p0 p1 p2 (mv (mv q (s.take k)) ((s.drop k).take wn)) (out ++ [.agg [.int .i64 wk, .str ((s.drop k).take wn), .int .i64 1, .int .i64 (mv q (s.take k)).1, .int .i64 (mv q (s.take k)).2]]) (by omega) hr3 (by simp only [List.length_append, List.length_singleton]; omega)
        (fun y hy => (List.mem_append.1 hy).elim (ht y) fun hy => ⟨_, _, _, _, _, List.mem_singleton.1 hy⟩)
      show Ev (fun n => lex_piece_L0 n (.int .i64 0) (.lst 5 (out ++ [.agg [.int .i64 wk, .str (((s.drop k).drop 0).take (((wn : Nat) : Int).toNat - 0)), .int .i64 1, .int .i64 (mv q (s.take k)).1, .int .i64 (mv q (s.take k)).2]])) (.lst 5 []) (.int .i64 0) (.int .i64 0) (.int .i64 0) (.str ((s.drop k).drop wn)) (.int .i64 1) (.int .i64 (mv (mv q (s.take k)) ((s.drop k).take wn)).1) (.int .i64 (mv (mv q (s.take k)) ((s.drop k).take wn)).2) (.str x) (.int .i64 p0) (.int .i64 p1) (.int .i64 p2) (.bool false)) _
      rw [hw]
      refine hi.mono ?_
      rintro r (⟨ts, h1, h2, h3⟩ | h)
      · have e : s = s.take k ++ ((s.drop k).take wn ++ (s.drop k).drop wn) := by rw [List.take_append_drop, List.take_append_drop]
        have hc := Cov.cons (k := wk) hb hne h3
        rw [← e] at hc
        exact .inl ⟨.agg [.int .i64 wk, .str ((s.drop k).take wn), .int .i64 1, .int .i64 (mv q (s.take k)).1, .int .i64 (mv q (s.take k)).2] :: ts, by rw [h1]; simp [pieceOut], by simpa using h2, hc⟩
      · exact .inr h
    · refine Ev.no (by simpa [nth, D.i] using he) (Ev.yes (by simpa [nth, D.i] using he) (Ev.ret (.inr ⟨(mv q (s.take k)).1, (mv q (s.take k)).2, we, rfl, he, s1, s2⟩)))
theorem lexX_ev {s : List UInt8} (hs : s.length ≤ 12000) : Ev (fun n => lex_Lex n (.lst 5 [.agg [.str s, .int .i64 1, .int .i64 1, .int .i64 1, .bool false]])) fun r =>
    (∃ ts, r = (true, [.agg [.int .i64 0, .int .i64 0, .int .i64 0], .int .i64 0, .lst 5 ts]) ∧ Toks ts ∧ Cov (1, 1) s ts) ∨ ∃ b c e : Int, r = (true, [.agg [.int .i64 1, .int .i64 b, .int .i64 c], .int .i64 e, .lst 5 []]) ∧ e ≠ 0 ∧ 1 ≤ b ∧ 1 ≤ c := by
  have hp : Ev (fun n => lex_piece n (.agg [.str s, .int .i64 1, .int .i64 1, .int .i64 1, .bool false]) (.lst 5 [])) fun r =>
      (∃ ts, r = (true, [.agg [.int .i64 0, .int .i64 0, .int .i64 0], .int .i64 0, .lst 5 ts]) ∧ Toks ts ∧ Cov (1, 1) s ts) ∨ ∃ b c e : Int, r = (true, [.agg [.int .i64 1, .int .i64 b, .int .i64 c], .int .i64 e, .lst 5 []]) ∧ e ≠ 0 ∧ 1 ≤ b ∧ 1 ≤ c := by
    refine Ev.eq (fun n => lex_piece_eq n _ _ _ _ _ _) (Ev.bindL (pieceX_ev s.length s s 1 1 1 (1, 1) [] (Nat.le_refl _) ⟨Int.le_refl _, Int.le_refl _, by show (1 : Int) + _ ≤ _; omega, by show (1 : Int) + _ ≤ _; omega⟩ (by simpa using hs) (fun y hy => by simp at hy)) (fun ds h => ?_) fun ds h => ?_)
    · rcases h with ⟨ts, h1, h2, h3⟩ | ⟨b, c, e, h1, h2⟩
      · exact .inl ⟨ts, by simpa [pieceOut] using h1, by simpa using h2, h3⟩
      · exact .inr ⟨b, c, e, by simpa [pieceOut] using h1, h2⟩
    · rcases h with ⟨_, h, _⟩ | ⟨_, _, _, h, _⟩ <;> cases h
  refine Ev.eq (fun n => lex_Lex_eq n _) ?_
  have loop : Ev (fun n => lex_Lex_L0 n (.lst 5 [.agg [.str s, .int .i64 1, .int .i64 1, .int .i64 1, .bool false]]) (.int .i64 1) (.int .i64 0) (.int .i64 0) (.int .i64 0) (.int .i64 0) (.lst 5 [])) fun r =>
      (∃ ts, r = (false, [.lst 5 [.agg [.str s, .int .i64 1, .int .i64 1, .int .i64 1, .bool false]], .int .i64 1, .int .i64 1, .int .i64 0, .int .i64 0, .int .i64 0, .lst 5 ts]) ∧ Toks ts ∧ Cov (1, 1) s ts) ∨ ∃ b c e : Int, r = (true, [.agg [.int .i64 1, .int .i64 b, .int .i64 c], .int .i64 e, .lst 5 []]) ∧ e ≠ 0 ∧ 1 ≤ b ∧ 1 ≤ c := by
    refine Ev.eq (fun n => lex_Lex_L0_eq n _ _ _ _ _ _ _) (Ev.yes rfl (Ev.yes rfl (Ev.yes rfl (Ev.bindC hp ?_))))
    rintro _ _ (⟨ts, h, h3, h4⟩ | ⟨b, c, e, h, h1, h2⟩)
    · cases h
      exact ⟨rfl, Ev.yes rfl (Ev.no rfl (Ev.eq (fun n => lex_Lex_L0_eq n _ _ _ _ _ _ _) (Ev.no rfl (Ev.ret (.inl ⟨ts, rfl, h3, h4⟩)))))⟩
    · cases h
      exact ⟨rfl, Ev.yes rfl (Ev.yes (by simpa [nth, D.i] using h1) (Ev.ret (.inr ⟨b, c, e, rfl, h1, h2⟩)))⟩
  refine Ev.bindL loop (fun ds h => ?_) fun ds h => ?_
  · rcases h with ⟨_, h, _⟩ | h
    · cases h
    · exact .inr h
  · rcases h with ⟨ts, h, h3, h4⟩ | ⟨_, _, _, h, _⟩
    · cases h
      exact Ev.yes rfl (Ev.ret (.inl ⟨ts, rfl, h3, h4⟩))
    · cases h
end Go.Proofs.YtalibicpmfbieaaGreatDoor
