/- LexCovers, plain: each byte is a blank, or a word's that stands there. -/
import Derived.Test.YtalibicpmfbieaaGreatDoorLexAll
namespace Go.Proofs.YtalibicpmfbieaaGreatDoor
open Go.AE
set_option linter.unusedVariables false
set_option linter.unusedSimpArgs false
def blankB (b : UInt8) : Bool := decide (0 ≤ idxByte b [32, 9, 13, 10] 0)
theorem blankB_cases {b : UInt8} (h : blankB b = true) : b = 32 ∨ b = 9 ∨ b = 13 ∨ b = 10 := by
  have h : 0 ≤ idxByte b [32, 9, 13, 10] 0 := of_decide_eq_true h
  simp only [idxByte] at h
  cases h1 : (32 : UInt8) == b with
  | true => exact .inl (by simpa using h1 : (32 : UInt8) = b).symm
  | false =>
    cases h2 : (9 : UInt8) == b with
    | true => exact .inr (.inl (by simpa using h2 : (9 : UInt8) = b).symm)
    | false =>
      cases h3 : (13 : UInt8) == b with
      | true => exact .inr (.inr (.inl (by simpa using h3 : (13 : UInt8) = b).symm))
      | false =>
        cases h4 : (10 : UInt8) == b with
        | true => exact .inr (.inr (.inr (by simpa using h4 : (10 : UInt8) = b).symm))
        | false => rw [h1, h2, h3, h4] at h; exact absurd h (by decide)
def mvB (p : Int × Int) (b : UInt8) : Int × Int := bif ((b.toNat : Int) == 10) then (p.1 + 1, 1) else (p.1, p.2 + 1)
def mv (p : Int × Int) (s : List UInt8) : Int × Int := s.foldl mvB p
/-- A place in a text of m bytes yet to come. -/
def Room (p : Int × Int) (m : Nat) : Prop := 1 ≤ p.1 ∧ 1 ≤ p.2 ∧ p.1 + m ≤ 1000000 ∧ p.2 + m ≤ 1000000
theorem room_mvB {p : Int × Int} {m : Nat} (h : Room p (m + 1)) (b : UInt8) : Room (mvB p b) m := by
  obtain ⟨h1, h2, h3, h4⟩ := h
  unfold mvB
  cases ((b.toNat : Int) == 10)
  · exact ⟨h1, by show 1 ≤ p.2 + 1; omega, by show p.1 + (m : Int) ≤ 1000000; omega, by show p.2 + 1 + (m : Int) ≤ 1000000; omega⟩
  · exact ⟨by show 1 ≤ p.1 + 1; omega, by show (1 : Int) ≤ 1; omega, by show p.1 + 1 + (m : Int) ≤ 1000000; omega, by show 1 + (m : Int) ≤ 1000000; omega⟩
theorem room_mv : ∀ {s : List UInt8} {p : Int × Int} {m : Nat}, Room p (m + s.length) → Room (mv p s) m
  | [], _, _, h => h
  | b :: s, p, m, h => room_mv (s := s) (room_mvB (m := m + s.length) h b)
inductive Cov : Int × Int → List UInt8 → List D → Prop
  | nil {p s} : (∀ b ∈ s, blankB b = true) → Cov p s []
  | cons {p k bl w rest ts} : (∀ b ∈ bl, blankB b = true) → w ≠ [] → Cov (mv (mv p bl) w) rest ts →
      Cov p (bl ++ (w ++ rest)) (.agg [.int .i64 k, .str w, .int .i64 1, .int .i64 (mv p bl).1, .int .i64 (mv p bl).2] :: ts)
theorem byte_back (b : UInt8) : ((b.toNat : Int)).toNat.toUInt8 = b := by
  rw [Int.toNat_natCast]; exact UInt8.ofNat_toNat
theorem get_str {s : List UInt8} {j : Nat} (h : j < s.length) : s[((j : Nat) : Int).toNat]?.getD 0 = s[j] := by
  rw [Int.toNat_natCast, List.getElem?_eq_getElem h]; rfl
theorem blankX_ev (b : UInt8) : Ev (fun n => lex_piece_2 n (.int .u8 (b.toNat : Int))) fun r => r = (true, [.bool (blankB b)]) := by
  refine Ev.eq (fun n => lex_piece_2_eq n _) (Ev.bindC (indexByte_ev _ _) ?_)
  rw [byte_back]
  intro _ _ h; cases h; exact ⟨rfl, Ev.yes rfl (Ev.ret rfl)⟩
theorem moveX_ev (f : Int) {p : Int × Int} {s : List UInt8} (hr : Room p s.length) : Ev (fun n => lex_move n (.agg [.int .i64 f, .int .i64 p.1, .int .i64 p.2]) (.str s)) fun r => r = (true, [.agg [.int .i64 f, .int .i64 (mv p s).1, .int .i64 (mv p s).2]]) := by
  refine Ev.eq (fun n => lex_move_eq n f p.1 p.2 s) ?_
  have hsl : s.length ≤ 1000000 := by obtain ⟨r1, r2, r3, r4⟩ := hr; omega
  have loop : ∀ (m j : Nat) (q : Int × Int), s.length - j = m → j ≤ s.length → Room q m →
      Ev (fun n => lex_move_L0 n (.str s) (.int .i64 (s.length : Int)) (.int .i64 (j : Int)) (.int .i64 f) (.int .i64 q.1) (.int .i64 q.2) (.int .i64 0) (.int .i64 0) (.int .i64 0)) fun r => ∃ j' : Int, r = (false, [.str s, .int .i64 (s.length : Int), .int .i64 j', .int .i64 f, .int .i64 (mv q (s.drop j)).1, .int .i64 (mv q (s.drop j)).2, .int .i64 0, .int .i64 0, .int .i64 0]) := by
    intro m
    induction m with
    | zero =>
      intro j q hm hj hr
      refine Ev.eq (fun n => lex_move_L0_eq n _ _ _ _ _ _ _ _ _) (Ev.no (decide_eq_false (by omega)) (Ev.ret ⟨(j : Int), ?_⟩))
      rw [List.drop_eq_nil_of_le (by omega)]; rfl
    | succ m ih =>
      intro j q hm hj hr
      have hj2 : j < s.length := by omega
      have hw : IntKind.i64.wrap ((j : Int) + 1) = ((j + 1 : Nat) : Int) := wrap_succ (by omega)
      have hr' := hr
      obtain ⟨r1, r2, r3, r4⟩ := hr'
      refine Ev.eq (fun n => lex_move_L0_eq n _ _ _ _ _ _ _ _ _) (Ev.yes (decide_eq_true (by omega)) (Ev.yes (in_range hj2) ?_))
      rw [get_str hj2, hw, drop_cons hj2, wrap_id (x := q.1 + 1) (by omega) (by omega), wrap_id (x := q.2 + 1) (by omega) (by omega)]
      have hn := ih (j + 1) (mvB q s[j]) (by omega) hj2 (room_mvB hr _)
      refine Ev.test (fun h => ?_) fun h => ?_
      · have e : mvB q s[j] = (q.1 + 1, 1) := by unfold mvB; rw [h]; rfl
        have hn2 := hn
        rw [e] at hn2
        show Ev _ fun r => ∃ j' : Int, r = (false, [.str s, .int .i64 (s.length : Int), .int .i64 j', .int .i64 f, .int .i64 (mv (mvB q s[j]) (s.drop (j + 1))).1, .int .i64 (mv (mvB q s[j]) (s.drop (j + 1))).2, .int .i64 0, .int .i64 0, .int .i64 0])
        rw [e]; exact hn2
      · have e : mvB q s[j] = (q.1, q.2 + 1) := by unfold mvB; rw [h]; rfl
        have hn2 := hn
        rw [e] at hn2
        show Ev _ fun r => ∃ j' : Int, r = (false, [.str s, .int .i64 (s.length : Int), .int .i64 j', .int .i64 f, .int .i64 (mv (mvB q s[j]) (s.drop (j + 1))).1, .int .i64 (mv (mvB q s[j]) (s.drop (j + 1))).2, .int .i64 0, .int .i64 0, .int .i64 0])
        rw [e]; exact hn2
  refine Ev.bindL (loop s.length 0 p rfl (Nat.zero_le _) hr) (fun ds h => by obtain ⟨_, h⟩ := h; cases h) fun ds h => ?_
  obtain ⟨j', h⟩ := h
  cases h
  exact Ev.yes rfl (Ev.ret rfl)
theorem stepX_ev {s : List UInt8} {k : Nat} (hk : k ≤ s.length) (x : List UInt8) (p0 p1 p2 f : Int) {q : Int × Int} (hr : Room q s.length) :
    Ev (fun n => lex_piece_1 n (.int .i64 (k : Int)) (.str x) (.int .i64 p0) (.int .i64 p1) (.int .i64 p2) (.bool false) (.int .i64 f) (.int .i64 q.1) (.int .i64 q.2) (.str s)) fun r =>
      r = (true, [.str x, .int .i64 p0, .int .i64 p1, .int .i64 p2, .bool false, .int .i64 f, .int .i64 (mv q (s.take k)).1, .int .i64 (mv q (s.take k)).2, .str (s.drop k)]) := by
  have hc : (decide ((0 : Int) ≤ (k : Int)) && decide ((k : Int) ≤ (s.length : Int)) && decide ((s.length : Int) ≤ (s.length : Int))) = true := and_tt (and_tt (decide_eq_true (by omega)) (decide_eq_true (by omega))) (decide_eq_true (Int.le_refl _))
  refine Ev.eq (fun n => lex_piece_1_eq n _ _ _ _ _ _ _ _ _ _) (Ev.yes rfl ?_)
  simp only [Int.toNat_natCast, drop_all, List.drop_zero, Nat.sub_zero]
  refine Ev.yes (and_tt (and_tt rfl (decide_eq_true (by omega))) (decide_eq_true (by omega))) (Ev.bindC (moveX_ev f (p := q) (s := s.take k) ?_) ?_)
  · obtain ⟨r1, r2, r3, r4⟩ := hr
    refine ⟨r1, r2, ?_, ?_⟩ <;> simp only [List.length_take] <;> omega
  · intro _ _ h; cases h
    exact ⟨rfl, Ev.yes rfl (Ev.yes hc (Ev.ret rfl))⟩
end Go.Proofs.YtalibicpmfbieaaGreatDoor
