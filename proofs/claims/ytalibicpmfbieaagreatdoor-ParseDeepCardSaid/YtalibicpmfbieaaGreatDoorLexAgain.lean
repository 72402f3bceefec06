/- Words: what Lex reads are stable words, and stable words with blanks between are read again. -/
import Derived.Test.YtalibicpmfbieaaGreatDoorLexWord
namespace Go.Proofs.YtalibicpmfbieaaGreatDoor
open Go.AE
set_option linter.unusedVariables false
set_option linter.unusedSimpArgs false
def tokD (k : Int) (w : List UInt8) (a b c : Int) : D := .agg [.int .i64 k, .str w, .int .i64 a, .int .i64 b, .int .i64 c]
def WToks (ts : List D) : Prop := ∀ y ∈ ts, ∃ (k : Int) (w : List UInt8) (a b c : Int), y = tokD k w a b c ∧ Wd w k
theorem WToks.append {a b : List D} (ha : WToks a) (hb : WToks b) : WToks (a ++ b) := fun y hy => (List.mem_append.1 hy).elim (ha y) (hb y)
theorem WToks.nil : WToks [] := fun y hy => by simp at hy
def wholeW (a b c e : Int) (all : List D) : Bool × List D := (true, [.agg [.int .i64 a, .int .i64 b, .int .i64 c], .int .i64 e, .lst 5 all])
inductive Again : Int × Int → List UInt8 → List D → Prop
  | nil {p} : Again p [] []
  | cons {p k bl w rest ts} : (∀ b ∈ bl, blankB b = true) → Wd w k → Gap rest → Again (mv (mv p bl) w) rest ts → Again p (bl ++ (w ++ rest)) (tokD k w 1 (mv p bl).1 (mv p bl).2 :: ts)
theorem spanN_wd {w rest : List UInt8} {k : Int} (h : Wd w k) : spanN blankB (w ++ rest) = 0 := by
  cases w with
  | nil => exact absurd rfl h.ne
  | cons b w => rw [List.cons_append, spanN_cons, h.nb b (List.mem_cons_self ..)]; rfl
theorem again_ev : ∀ {q : Int × Int} {s : List UInt8} {ts : List D}, Again q s ts → ∀ (x : List UInt8) (p0 p1 p2 : Int) (out : List D), Room q s.length → out.length + s.length ≤ 12000 →
    Ev (fun n => lex_piece_L0 n (.int .i64 0) (.lst 5 out) (.lst 5 []) (.int .i64 0) (.int .i64 0) (.int .i64 0) (.str s) (.int .i64 1) (.int .i64 q.1) (.int .i64 q.2) (.str x) (.int .i64 p0) (.int .i64 p1) (.int .i64 p2) (.bool false)) fun r => r = pieceOut none out ts := by
  intro q s ts h
  induction h with
  | nil =>
    intro x p0 p1 p2 out hr hl
    refine Ev.eq (fun n => lex_piece_L0_eq n _ _ _ _ _ _ _ _ _ _ _ _ _ _ _) (Ev.bindC (span_is (by simp)) ?_)
    intro _ _ h; cases h
    refine ⟨rfl, Ev.yes rfl (Ev.bindC (stepX_ev (k := 0) (Nat.zero_le _) x p0 p1 p2 1 hr) ?_)⟩
    intro _ _ h; cases h
    exact ⟨rfl, Ev.yes rfl (Ev.yes rfl (Ev.ret (by simp [pieceOut])))⟩
  | @cons q k bl w rest ts hbl hW hg _ ih =>
    intro x p0 p1 p2 out hr hl
    have hlen : (bl ++ (w ++ rest)).length = bl.length + (w.length + rest.length) := by simp only [List.length_append]
    rw [hlen] at hl
    have hw1 : 1 ≤ w.length := List.length_pos_iff.2 hW.ne
    have hsp : spanN blankB (bl ++ (w ++ rest)) = bl.length := by rw [spanN_app hbl, spanN_wd hW]; omega
    have hr2 : Room (mv q bl) (w ++ rest).length := room_mv (s := bl) (m := (w ++ rest).length) (by rw [Nat.add_comm, ← List.length_append]; exact hr)
    have hr3 : Room (mv (mv q bl) w) rest.length := room_mv (s := w) (m := rest.length) (by rw [Nat.add_comm, ← List.length_append]; exact hr2)
    have hz : (w ++ rest == []) = false := by
      cases hw : w with
      | nil => exact absurd hw hW.ne
      | cons _ _ => rfl
    have hs1 : Ev (fun n => lex_piece_1 n (.int .i64 (bl.length : Int)) (.str x) (.int .i64 p0) (.int .i64 p1) (.int .i64 p2) (.bool false) (.int .i64 1) (.int .i64 q.1) (.int .i64 q.2) (.str (bl ++ (w ++ rest)))) fun r =>
        r = (true, [.str x, .int .i64 p0, .int .i64 p1, .int .i64 p2, .bool false, .int .i64 1, .int .i64 (mv q bl).1, .int .i64 (mv q bl).2, .str (w ++ rest)]) := by
      have h := stepX_ev (s := bl ++ (w ++ rest)) (k := bl.length) (by rw [hlen]; omega) x p0 p1 p2 1 hr
      rw [List.take_left, List.drop_left] at h
      exact h
    have hs2 : Ev (fun n => lex_piece_1 n (.int .i64 (w.length : Int)) (.str x) (.int .i64 p0) (.int .i64 p1) (.int .i64 p2) (.bool false) (.int .i64 1) (.int .i64 (mv q bl).1) (.int .i64 (mv q bl).2) (.str (w ++ rest))) fun r =>
        r = (true, [.str x, .int .i64 p0, .int .i64 p1, .int .i64 p2, .bool false, .int .i64 1, .int .i64 (mv (mv q bl) w).1, .int .i64 (mv (mv q bl) w).2, .str rest]) := by
      have h := stepX_ev (s := w ++ rest) (k := w.length) (by rw [List.length_append]; omega) x p0 p1 p2 1 hr2
      rw [List.take_left, List.drop_left] at h
      exact h
    refine Ev.eq (fun n => lex_piece_L0_eq n _ _ _ _ _ _ _ _ _ _ _ _ _ _ _) (Ev.bindC (span_is (by rw [hlen]; omega)) ?_)
    rw [hsp]
    intro _ _ h; cases h
    refine ⟨rfl, Ev.yes rfl (Ev.bindC hs1 ?_)⟩
    intro _ _ h; cases h
    refine ⟨rfl, Ev.yes rfl (Ev.no hz (Ev.bindC (hW.go rest hg (by rw [List.length_append]; omega)) ?_))⟩
    intro _ _ h; cases h
    refine ⟨rfl, Ev.yes rfl (Ev.yes rfl (Ev.no ?_ (Ev.no rfl (Ev.yes (and_tt (and_tt rfl (decide_eq_true ?_)) (decide_eq_true ?_)) (Ev.yes (Nat.ble_eq_true_of_le (by simp only [maxLst]; omega)) (Ev.bindC hs2 ?_))))))⟩
    · have : (out.length : Int) ≠ 12000 := by omega
      simpa using this
    · show (0 : Int) ≤ (w.length : Int); omega
    · show (w.length : Int) ≤ ((w ++ rest).length : Int); rw [List.length_append]; omega
    intro _ _ h; cases h
    refine ⟨rfl, Ev.yes rfl ?_⟩
    have hwt : (((w ++ rest).drop 0).take (((w.length : Nat) : Int).toNat - 0)) = w := by rw [List.drop_zero, Int.toNat_natCast, Nat.sub_zero, List.take_left]
    have hi := ih x p0 p1 p2 (out ++ [tokD k w 1 (mv q bl).1 (mv q bl).2]) hr3 (by simp only [List.length_append, List.length_singleton]; omega)
    show Ev (fun n => lex_piece_L0 n (.int .i64 0) (.lst 5 (out ++ [.agg [.int .i64 k, .str (((w ++ rest).drop 0).take (((w.length : Nat) : Int).toNat - 0)), .int .i64 1, .int .i64 (mv q bl).1, .int .i64 (mv q bl).2]])) (.lst 5 []) (.int .i64 0) (.int .i64 0) (.int .i64 0) (.str rest) (.int .i64 1) (.int .i64 (mv (mv q bl) w).1) (.int .i64 (mv (mv q bl) w).2) (.str x) (.int .i64 p0) (.int .i64 p1) (.int .i64 p2) (.bool false)) _
    rw [hwt]
    refine hi.mono fun r hr => ?_
    rw [hr]; simp [pieceOut]
theorem lexAgain_ev {s : List UInt8} {ts : List D} (hs : s.length ≤ 12000) (ha : Again (1, 1) s ts) : Ev (fun n => lex_Lex n (.lst 5 [.agg [.str s, .int .i64 1, .int .i64 1, .int .i64 1, .bool false]])) fun r => r = wholeW 0 0 0 0 ts := by
  have hp : Ev (fun n => lex_piece n (.agg [.str s, .int .i64 1, .int .i64 1, .int .i64 1, .bool false]) (.lst 5 [])) fun r => r = wholeW 0 0 0 0 ts := by
    refine Ev.eq (fun n => lex_piece_eq n _ _ _ _ _ _) (Ev.bindL (again_ev ha s 1 1 1 [] ⟨Int.le_refl _, Int.le_refl _, by show (1 : Int) + _ ≤ _; omega, by show (1 : Int) + _ ≤ _; omega⟩ (by simpa using hs)) (fun ds h => ?_) fun ds h => ?_)
    · rw [h]; simp [pieceOut, wholeW]
    · cases h
  refine Ev.eq (fun n => lex_Lex_eq n _) ?_
  have loop : Ev (fun n => lex_Lex_L0 n (.lst 5 [.agg [.str s, .int .i64 1, .int .i64 1, .int .i64 1, .bool false]]) (.int .i64 1) (.int .i64 0) (.int .i64 0) (.int .i64 0) (.int .i64 0) (.lst 5 [])) fun r =>
      r = (false, [.lst 5 [.agg [.str s, .int .i64 1, .int .i64 1, .int .i64 1, .bool false]], .int .i64 1, .int .i64 1, .int .i64 0, .int .i64 0, .int .i64 0, .lst 5 ts]) := by
    refine Ev.eq (fun n => lex_Lex_L0_eq n _ _ _ _ _ _ _) (Ev.yes rfl (Ev.yes rfl (Ev.yes rfl (Ev.bindC hp ?_))))
    intro _ _ h; cases h
    exact ⟨rfl, Ev.yes rfl (Ev.no rfl (Ev.eq (fun n => lex_Lex_L0_eq n _ _ _ _ _ _ _) (Ev.no rfl (Ev.ret rfl))))⟩
  refine Ev.bindL loop (fun ds h => by cases h) fun ds h => ?_
  cases h
  exact Ev.yes rfl (Ev.ret rfl)
/-- A token's kind and text. -/
def kw (y : D) : Int × List UInt8 := ((y.at_ 0).i, (y.at_ 1).s)
def words (ts : List D) : List (List UInt8) := ts.map fun y => (y.at_ 1).s
end Go.Proofs.YtalibicpmfbieaaGreatDoor
