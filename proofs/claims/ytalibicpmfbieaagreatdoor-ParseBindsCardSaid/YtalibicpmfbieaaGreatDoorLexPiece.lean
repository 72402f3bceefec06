/- Words: pieces and their words. -/
import Derived.Test.YtalibicpmfbieaaGreatDoorLexTotal
namespace Go.Proofs.YtalibicpmfbieaaGreatDoor
open Go.AE
set_option linter.unusedVariables false
set_option linter.unusedSimpArgs false
theorem move_ev (p0 p1 p2 : Int) {s : List UInt8} (hs : s.length ≤ 1048576) : Ev (fun n => lex_move n (.agg [.int .i64 p0, .int .i64 p1, .int .i64 p2]) (.str s)) fun r => ∃ u0 u1 u2 : Int, r = (true, [.agg [.int .i64 u0, .int .i64 u1, .int .i64 u2]]) := by
  refine Ev.eq (fun n => lex_move_eq n p0 p1 p2 s) ?_
  have loop : ∀ (m j : Nat) (a b c : Int), s.length - j = m → j ≤ s.length →
      Ev (fun n => lex_move_L0 n (.str s) (.int .i64 (s.length : Int)) (.int .i64 (j : Int)) (.int .i64 a) (.int .i64 b) (.int .i64 c) (.int .i64 0) (.int .i64 0) (.int .i64 0)) fun r => ∃ j' u0 u1 u2 : Int, r = (false, [.str s, .int .i64 (s.length : Int), .int .i64 j', .int .i64 u0, .int .i64 u1, .int .i64 u2, .int .i64 0, .int .i64 0, .int .i64 0]) := by
    intro m
    induction m with
    | zero => intro j a b c hm hj; exact Ev.eq (fun n => lex_move_L0_eq n _ _ _ _ _ _ _ _ _) (Ev.no (decide_eq_false (by omega)) (Ev.ret ⟨_, _, _, _, rfl⟩))
    | succ m ih =>
      intro j a b c hm hj
      have hj2 : j < s.length := by omega
      have hw : IntKind.i64.wrap ((j : Int) + 1) = ((j + 1 : Nat) : Int) := wrap_succ (by omega)
      refine Ev.eq (fun n => lex_move_L0_eq n _ _ _ _ _ _ _ _ _) (Ev.yes (decide_eq_true (by omega)) (Ev.yes (in_range hj2) ?_))
      rw [hw]
      exact Ev.test (fun _ => ih (j + 1) _ _ _ (by omega) hj2) fun _ => ih (j + 1) _ _ _ (by omega) hj2
  refine Ev.bindL (loop s.length 0 p0 p1 p2 rfl (Nat.zero_le _)) (fun ds h => by obtain ⟨_, _, _, _, h⟩ := h; cases h) fun ds h => ?_
  obtain ⟨_, u0, u1, u2, h⟩ := h
  cases h
  exact Ev.yes rfl (Ev.ret ⟨u0, u1, u2, rfl⟩)
theorem step_ev {s : List UInt8} (hs : s.length ≤ 1048576) {k : Nat} (hk : k ≤ s.length) (x : List UInt8) (p0 p1 p2 : Int) (fx : Bool) (q0 q1 q2 : Int) : ∃ u0 u1 u2 : Int,
    Ev (fun n => lex_piece_1 n (.int .i64 (k : Int)) (.str x) (.int .i64 p0) (.int .i64 p1) (.int .i64 p2) (.bool fx) (.int .i64 q0) (.int .i64 q1) (.int .i64 q2) (.str s)) fun r =>
      r = (true, [.str x, .int .i64 p0, .int .i64 p1, .int .i64 p2, .bool fx, .int .i64 u0, .int .i64 u1, .int .i64 u2, .str (s.drop k)]) := by
  have h : Ev (fun n => lex_piece_1 n (.int .i64 (k : Int)) (.str x) (.int .i64 p0) (.int .i64 p1) (.int .i64 p2) (.bool fx) (.int .i64 q0) (.int .i64 q1) (.int .i64 q2) (.str s)) fun r =>
      ∃ u0 u1 u2 : Int, r = (true, [.str x, .int .i64 p0, .int .i64 p1, .int .i64 p2, .bool fx, .int .i64 u0, .int .i64 u1, .int .i64 u2, .str (s.drop k)]) := by
    refine Ev.eq (fun n => lex_piece_1_eq n _ _ _ _ _ _ _ _ _ _) ?_
    have hc : (decide ((0 : Int) ≤ (k : Int)) && decide ((k : Int) ≤ (s.length : Int)) && decide ((s.length : Int) ≤ (s.length : Int))) = true := and_tt (and_tt (decide_eq_true (by omega)) (decide_eq_true (by omega))) (decide_eq_true (Int.le_refl _))
    simp only [Int.toNat_natCast, drop_all]
    refine Ev.test (fun _ => Ev.yes (and_tt (and_tt rfl (decide_eq_true (by omega))) (decide_eq_true (by omega))) (Ev.bindC (move_ev _ _ _ (by simp; omega)) ?_)) fun _ => Ev.yes hc (Ev.ret ⟨_, _, _, rfl⟩)
    rintro _ _ ⟨u0, u1, u2, h⟩; cases h
    exact ⟨rfl, Ev.yes rfl (Ev.yes hc (Ev.ret ⟨_, _, _, rfl⟩))⟩
  obtain ⟨r, ⟨u0, u1, u2, hr⟩, he⟩ := evfix h
  exact ⟨u0, u1, u2, he.mono fun x hx => hx.trans hr⟩
def Toks (ts : List D) : Prop := ∀ y ∈ ts, ∃ (k : Int) (t : List UInt8) (a b c : Int), y = .agg [.int .i64 k, .str t, .int .i64 a, .int .i64 b, .int .i64 c]
def pieceOut (R : Option (Int × Int × Int × Int)) (out ts : List D) : Bool × List D := match R with
  | none => (true, [.agg [.int .i64 0, .int .i64 0, .int .i64 0], .int .i64 0, .lst 5 (out ++ ts)])
  | some (a, b, c, e) => (true, [.agg [.int .i64 a, .int .i64 b, .int .i64 c], .int .i64 e, .lst 5 []])
theorem pieceL_ev : ∀ (m : Nat) (s x : List UInt8) (p0 p1 p2 : Int) (fx : Bool) (q0 q1 q2 : Int), s.length ≤ m → s.length ≤ 12000 →
    ∃ (R : Option (Int × Int × Int × Int)) (ts : List D), Toks ts ∧ ts.length ≤ s.length ∧ (∀ a b c e, R = some (a, b, c, e) → e ≠ 0) ∧ ∀ out : List D, out.length + s.length ≤ 12000 →
      Ev (fun n => lex_piece_L0 n (.int .i64 0) (.lst 5 out) (.lst 5 []) (.int .i64 0) (.int .i64 0) (.int .i64 0) (.str s) (.int .i64 q0) (.int .i64 q1) (.int .i64 q2) (.str x) (.int .i64 p0) (.int .i64 p1) (.int .i64 p2) (.bool fx)) fun r => r = pieceOut R out ts := by
  intro m
  induction m with
  | zero =>
    intro s x p0 p1 p2 fx q0 q1 q2 hm hs
    have : s = [] := List.eq_nil_of_length_eq_zero (by omega)
    subst this
    refine ⟨none, [], (fun y hy => by simp at hy), Nat.le_refl _, (fun _ _ _ _ h => by cases h), fun out ho => ?_⟩
    obtain ⟨u0, u1, u2, hst⟩ := step_ev (s := []) (by simp) (k := 0) (Nat.le_refl _) x p0 p1 p2 fx q0 q1 q2
    refine Ev.eq (fun n => lex_piece_L0_eq n _ _ _ _ _ _ _ _ _ _ _ _ _ _ _) (Ev.bindC (span_ev (by simp)) ?_)
    rintro _ _ ⟨k, h, hk⟩; cases h
    have : k = 0 := Nat.le_zero.1 hk
    subst this
    refine ⟨rfl, Ev.yes rfl (Ev.bindC hst ?_)⟩
    intro _ _ h; cases h
    exact ⟨rfl, Ev.yes rfl (Ev.yes rfl (Ev.ret (by simp [pieceOut])))⟩
  | succ m ih =>
    intro s x p0 p1 p2 fx q0 q1 q2 hm hs
    obtain ⟨r, ⟨k, hr, hk⟩, hsp⟩ := evfix (span_ev (s := s) (by omega))
    subst hr
    obtain ⟨u0, u1, u2, hst⟩ := step_ev (s := s) (by omega) hk x p0 p1 p2 fx q0 q1 q2
    cases hz : s.drop k == [] with
    | true =>
      have hz' : s.drop k = [] := by simpa using hz
      refine ⟨none, [], (fun y hy => by simp at hy), Nat.zero_le _, (fun _ _ _ _ h => by cases h), fun out ho => ?_⟩
      refine Ev.eq (fun n => lex_piece_L0_eq n _ _ _ _ _ _ _ _ _ _ _ _ _ _ _) (Ev.bindC hsp ?_)
      intro _ _ h; cases h; refine ⟨rfl, Ev.yes rfl (Ev.bindC hst ?_)⟩
      intro _ _ h; cases h
      exact ⟨rfl, Ev.yes rfl (Ev.yes hz (Ev.ret (by simp [pieceOut])))⟩
    | false =>
      have hz' := ne_nil_len hz
      have hd : (s.drop k).length ≤ s.length := by simp
      obtain ⟨r, ⟨wk, wn, we, hr, hwn, hw1⟩, hwd⟩ := evfix (word_ev (s := s.drop k) (by omega) hz')
      subst hr
      by_cases he : we = 0
      · subst he
        have hn1 := hw1 rfl
        obtain ⟨v0, v1, v2, hst2⟩ := step_ev (s := s.drop k) (by omega) hwn x p0 p1 p2 fx u0 u1 u2
        have hl2 : ((s.drop k).drop wn).length + 1 ≤ s.length := by simp only [List.length_drop] at *; omega
        obtain ⟨R, ts, ht, htl, hR, hev⟩ := ih ((s.drop k).drop wn) x p0 p1 p2 fx v0 v1 v2 (by omega) (by omega)
        refine ⟨R, .agg [.int .i64 wk, .str (((s.drop k).drop 0).take (((wn : Nat) : Int).toNat - 0)), .int .i64 u0, .int .i64 u1, .int .i64 u2] :: ts, ?_, by simp only [List.length_cons]; omega, hR, fun out ho => ?_⟩
        · intro y hy
          rcases List.mem_cons.1 hy with rfl | hy
          · exact ⟨_, _, _, _, _, rfl⟩
          · exact ht y hy
        refine Ev.eq (fun n => lex_piece_L0_eq n _ _ _ _ _ _ _ _ _ _ _ _ _ _ _) (Ev.bindC hsp ?_)
        intro _ _ h; cases h; refine ⟨rfl, Ev.yes rfl (Ev.bindC hst ?_)⟩
        intro _ _ h; cases h; refine ⟨rfl, Ev.yes rfl (Ev.no hz (Ev.bindC hwd ?_))⟩
        intro _ _ h; cases h; refine ⟨rfl, Ev.yes rfl (Ev.yes rfl (Ev.no ?_ (Ev.no rfl (Ev.yes (and_tt (and_tt rfl (decide_eq_true ?_)) (decide_eq_true ?_)) (Ev.yes (Nat.ble_eq_true_of_le (by simp only [maxLst]; omega)) (Ev.bindC hst2 ?_))))))⟩
        · have : (out.length : Int) ≠ 12000 := by omega
          simpa using this
        · show (0 : Int) ≤ (wn : Int); omega
        · show (wn : Int) ≤ ((s.drop k).length : Int); omega
        intro _ _ h; cases h
        refine ⟨rfl, Ev.yes rfl ((hev _ (by simp only [List.length_append, List.length_singleton]; omega)).mono ?_)⟩
        intro r hr; rw [hr]
        cases R with
        | none => simp [pieceOut, nth, D.i, D.s]
        | some q => rfl
      · refine ⟨some (u0, u1, u2, we), [], (fun y hy => by simp at hy), Nat.zero_le _, (fun _ _ _ _ h => by cases h; exact he), fun out ho => ?_⟩
        refine Ev.eq (fun n => lex_piece_L0_eq n _ _ _ _ _ _ _ _ _ _ _ _ _ _ _) (Ev.bindC hsp ?_)
        intro _ _ h; cases h; refine ⟨rfl, Ev.yes rfl (Ev.bindC hst ?_)⟩
        intro _ _ h; cases h; refine ⟨rfl, Ev.yes rfl (Ev.no hz (Ev.bindC hwd ?_))⟩
        intro _ _ h; cases h
        exact ⟨rfl, Ev.yes rfl (Ev.no (by simpa [nth, D.i] using he) (Ev.yes (by simpa [nth, D.i] using he) (Ev.ret rfl)))⟩
def pieceD (t : List UInt8) (p0 p1 p2 : Int) (fx : Bool) : D := .agg [.str t, .int .i64 p0, .int .i64 p1, .int .i64 p2, .bool fx]
theorem piece_ev {t : List UInt8} (ht : t.length ≤ 12000) (p0 p1 p2 : Int) (fx : Bool) :
    ∃ (R : Option (Int × Int × Int × Int)) (ts : List D), Toks ts ∧ ts.length ≤ t.length ∧ (∀ a b c e, R = some (a, b, c, e) → e ≠ 0) ∧ ∀ out : List D, out.length + t.length ≤ 12000 →
      Ev (fun n => lex_piece n (pieceD t p0 p1 p2 fx) (.lst 5 out)) fun r => r = pieceOut R out ts := by
  obtain ⟨R, ts, h1, h2, h3, h4⟩ := pieceL_ev t.length t t p0 p1 p2 fx p0 p1 p2 (Nat.le_refl _) ht
  refine ⟨R, ts, h1, h2, h3, fun out ho => ?_⟩
  refine Ev.eq (fun n => lex_piece_eq n _ _ _ _ _ _) (Ev.bindL (h4 out ho) (fun ds h => h) fun ds h => ?_)
  cases R <;> cases h
end Go.Proofs.YtalibicpmfbieaaGreatDoor
