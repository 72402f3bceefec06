/- Words: what Lex reads are stable words, and stable words with blanks between are read again. -/
import Derived.Test.YtalibicpmfbieaaGreatDoorLexWord
namespace Go.Proofs.YtalibicpmfbieaaGreatDoor
open Go.AE
set_option linter.unusedVariables false
set_option linter.unusedSimpArgs false
def tokD (k : Int) (w : List UInt8) (a b c : Int) : D := .agg [.int .i64 k, .str w, .int .i64 a, .int .i64 b, .int .i64 c]
def WToks (ts : List D) : Prop := ∀ y ∈ ts, ∃ (k : Int) (w : List UInt8) (a b c : Int), y = tokD k w a b c ∧ Wd w k
def wl : List D → Nat
  | [] => 0
  | y :: ts => (y.at_ 1).s.length + wl ts
theorem wl_append : ∀ (a b : List D), wl (a ++ b) = wl a + wl b
  | [], b => by simp [wl]
  | y :: a, b => by simp only [List.cons_append, wl, wl_append a b]; omega
theorem WToks.toks {ts : List D} (h : WToks ts) : Toks ts := fun y hy => by
  obtain ⟨k, w, a, b, c, rfl, _⟩ := h y hy
  exact ⟨k, w, a, b, c, rfl⟩
theorem WToks.append {a b : List D} (ha : WToks a) (hb : WToks b) : WToks (a ++ b) := fun y hy => (List.mem_append.1 hy).elim (ha y) (hb y)
theorem WToks.nil : WToks [] := fun y hy => by simp at hy
theorem pieceLW_ev : ∀ (m : Nat) (s x : List UInt8) (p0 p1 p2 : Int) (fx : Bool) (q0 q1 q2 : Int), s.length ≤ m → s.length ≤ 12000 →
    ∃ (R : Option (Int × Int × Int × Int)) (ts : List D), WToks ts ∧ ts.length ≤ s.length ∧ wl ts ≤ s.length ∧ (∀ a b c e, R = some (a, b, c, e) → e ≠ 0) ∧ ∀ out : List D, out.length + s.length ≤ 12000 →
      Ev (fun n => lex_piece_L0 n (.int .i64 0) (.lst 5 out) (.lst 5 []) (.int .i64 0) (.int .i64 0) (.int .i64 0) (.str s) (.int .i64 q0) (.int .i64 q1) (.int .i64 q2) (.str x) (.int .i64 p0) (.int .i64 p1) (.int .i64 p2) (.bool fx)) fun r => r = pieceOut R out ts := by
  intro m
  induction m with
  | zero =>
    intro s x p0 p1 p2 fx q0 q1 q2 hm hs
    obtain ⟨R, ts, h1, h2, h3, h4⟩ := pieceL_ev 0 s x p0 p1 p2 fx q0 q1 q2 hm hs
    have : ts = [] := List.eq_nil_of_length_eq_zero (by omega)
    subst this
    exact ⟨R, [], WToks.nil, h2, Nat.zero_le _, h3, h4⟩
  | succ m ih =>
    intro s x p0 p1 p2 fx q0 q1 q2 hm hs
    obtain ⟨r, ⟨k, hr, hk⟩, hsp⟩ := evfix (span_ev (s := s) (by omega))
    subst hr
    obtain ⟨u0, u1, u2, hst⟩ := step_ev (s := s) (by omega) hk x p0 p1 p2 fx q0 q1 q2
    cases hz : s.drop k == [] with
    | true =>
      have hz' : s.drop k = [] := by simpa using hz
      refine ⟨none, [], WToks.nil, Nat.zero_le _, Nat.zero_le _, (fun _ _ _ _ h => by cases h), fun out ho => ?_⟩
      refine Ev.eq (fun n => lex_piece_L0_eq n _ _ _ _ _ _ _ _ _ _ _ _ _ _ _) (Ev.bindC hsp ?_)
      intro _ _ h; cases h; refine ⟨rfl, Ev.yes rfl (Ev.bindC hst ?_)⟩
      intro _ _ h; cases h
      exact ⟨rfl, Ev.yes rfl (Ev.yes hz (Ev.ret (by simp [pieceOut])))⟩
    | false =>
      have hz' := ne_nil_len hz
      have hd : (s.drop k).length ≤ s.length := by simp
      obtain ⟨r, ⟨wk, wn, we, hr, hwn, hw1⟩, hwd⟩ := evfix (word_ev (s := s.drop k) (by omega) hz')
      subst hr
      by_cases he : we = 0
      · subst he
        have hn1 := hw1 rfl
        have hW : Wd ((s.drop k).take wn) wk := by
          cases hsd : s.drop k with
          | nil => rw [hsd] at hz'; simp at hz'
          | cons c t =>
            rw [hsd] at hwd hd
            exact (word_stable (by omega) hwd).2.2
        obtain ⟨v0, v1, v2, hst2⟩ := step_ev (s := s.drop k) (by omega) hwn x p0 p1 p2 fx u0 u1 u2
        have hl2 : ((s.drop k).drop wn).length + wn ≤ s.length := by simp only [List.length_drop] at *; omega
        obtain ⟨R, ts, ht, htl, htw, hR, hev⟩ := ih ((s.drop k).drop wn) x p0 p1 p2 fx v0 v1 v2 (by omega) (by omega)
        have hw : (((s.drop k).drop 0).take (((wn : Nat) : Int).toNat - 0)) = (s.drop k).take wn := by rw [List.drop_zero, Int.toNat_natCast, Nat.sub_zero]
        refine ⟨R, tokD wk ((s.drop k).take wn) u0 u1 u2 :: ts, ?_, by simp only [List.length_cons]; omega, ?_, hR, fun out ho => ?_⟩
        · intro y hy
          rcases List.mem_cons.1 hy with rfl | hy
          · exact ⟨_, _, _, _, _, rfl, hW⟩
          · exact ht y hy
        · show ((s.drop k).take wn).length + wl ts ≤ _
          rw [List.length_take, Nat.min_eq_left hwn]; omega
        refine Ev.eq (fun n => lex_piece_L0_eq n _ _ _ _ _ _ _ _ _ _ _ _ _ _ _) (Ev.bindC hsp ?_)
        intro _ _ h; cases h; refine ⟨rfl, Ev.yes rfl (Ev.bindC hst ?_)⟩
        intro _ _ h; cases h; refine ⟨rfl, Ev.yes rfl (Ev.no hz (Ev.bindC hwd ?_))⟩
        intro _ _ h; cases h; refine ⟨rfl, Ev.yes rfl (Ev.yes rfl (Ev.no ?_ (Ev.no rfl (Ev.yes (and_tt (and_tt rfl (decide_eq_true ?_)) (decide_eq_true ?_)) (Ev.yes (Nat.ble_eq_true_of_le (by simp only [maxLst]; omega)) (Ev.bindC hst2 ?_))))))⟩
        · have : (out.length : Int) ≠ 12000 := by omega
          simpa using this
        · show (0 : Int) ≤ (wn : Int); omega
        · show (wn : Int) ≤ ((s.drop k).length : Int); omega
        intro _ _ h; cases h
        refine ⟨rfl, Ev.yes rfl ((hev _ (by simp only [List.length_append, List.length_singleton]; omega)).mono ?_)⟩
        intro r hr; rw [hr, ← hw]
        cases R with
        | none => simp [pieceOut, nth, D.i, D.s, tokD]
        | some q => rfl
      · refine ⟨some (u0, u1, u2, we), [], WToks.nil, Nat.zero_le _, Nat.zero_le _, (fun _ _ _ _ h => by cases h; exact he), fun out ho => ?_⟩
        refine Ev.eq (fun n => lex_piece_L0_eq n _ _ _ _ _ _ _ _ _ _ _ _ _ _ _) (Ev.bindC hsp ?_)
        intro _ _ h; cases h; refine ⟨rfl, Ev.yes rfl (Ev.bindC hst ?_)⟩
        intro _ _ h; cases h; refine ⟨rfl, Ev.yes rfl (Ev.no hz (Ev.bindC hwd ?_))⟩
        intro _ _ h; cases h
        exact ⟨rfl, Ev.yes rfl (Ev.no (by simpa [nth, D.i] using he) (Ev.yes (by simpa [nth, D.i] using he) (Ev.ret rfl)))⟩
theorem pieceIsW {y : D} (h : IsP 300 y) : ∃ p, PieceIs y p ∧ WToks p.2 ∧ wl p.2 ≤ 300 := by
  obtain ⟨t, p0, p1, p2, fx, rfl, ht⟩ := h
  obtain ⟨R, ts, h1, h2, h3, h4, h5⟩ := pieceLW_ev t.length t t p0 p1 p2 fx p0 p1 p2 (Nat.le_refl _) (by omega)
  refine ⟨(R, ts), ⟨h1.toks, Nat.le_trans h2 ht, h4, fun out ho => ?_⟩, h1, Nat.le_trans h3 ht⟩
  refine Ev.eq (fun n => lex_piece_eq n _ _ _ _ _ _) (Ev.bindL (h5 out (by omega)) (fun ds h => h) fun ds h => ?_)
  cases R <;> cases h
theorem all2W_of : ∀ {ys : List D}, (∀ y ∈ ys, IsP 300 y) → ∃ ps, All2 ys ps ∧ ∀ p ∈ ps, WToks p.2 ∧ wl p.2 ≤ 300 ∧ p.2.length ≤ 300 ∧ ∀ a b c e, p.1 = some (a, b, c, e) → e ≠ 0
  | [], _ => ⟨[], .nil, fun p hp => by simp at hp⟩
  | y :: ys, h => by
    obtain ⟨p, hp, hw, hl⟩ := pieceIsW (h y (List.mem_cons_self ..))
    obtain ⟨ps, hps, hq⟩ := all2W_of (ys := ys) fun z hz => h z (List.mem_cons_of_mem _ hz)
    refine ⟨p :: ps, .cons (h y (List.mem_cons_self ..)) hp hps, fun q hq' => ?_⟩
    rcases List.mem_cons.1 hq' with rfl | hq'
    · exact ⟨hw, hl, hp.2.1, hp.2.2.1⟩
    · exact hq q hq'
def wholeW (a b c e : Int) (all : List D) : Bool × List D := (true, [.agg [.int .i64 a, .int .i64 b, .int .i64 c], .int .i64 e, .lst 5 all])
theorem lexOutW : ∀ (ps : List PR) (out : List D), (∀ p ∈ ps, WToks p.2 ∧ wl p.2 ≤ 300 ∧ p.2.length ≤ 300 ∧ ∀ a b c e, p.1 = some (a, b, c, e) → e ≠ 0) → WToks out →
    ∃ a b c e all, lexOut ps out = wholeW a b c e all ∧ ((e ≠ 0 ∧ all = []) ∨ (e = 0 ∧ WToks all ∧ wl all ≤ wl out + 300 * ps.length ∧ all.length ≤ out.length + 300 * ps.length))
  | [], out, _, ho => ⟨0, 0, 0, 0, out ++ [], rfl, .inr ⟨rfl, by simpa using ho, by simp, by simp⟩⟩
  | (none, ts) :: ps, out, hp, ho => by
    obtain ⟨h1, h2, h3, _⟩ := hp _ (List.mem_cons_self ..)
    obtain ⟨a, b, c, e, all, h, hh⟩ := lexOutW ps (out ++ ts) (fun p h => hp p (List.mem_cons_of_mem _ h)) (ho.append h1)
    refine ⟨a, b, c, e, all, h, hh.imp id fun ⟨g1, g2, g3, g4⟩ => ⟨g1, g2, ?_, ?_⟩⟩
    · rw [wl_append] at g3
      simp only [List.length_cons]
      have h2 : wl ts ≤ 300 := h2
      omega
    · rw [List.length_append] at g4
      simp only [List.length_cons]
      have h3 : ts.length ≤ 300 := h3
      omega
  | (some (a, b, c, e), _) :: _, _, hp, _ => ⟨a, b, c, e, [], rfl, .inl ⟨(hp _ (List.mem_cons_self ..)).2.2.2 a b c e rfl, rfl⟩⟩
inductive Again : Int × Int → List UInt8 → List D → Prop
  | nil {p} : Again p [] []
  | cons {p k bl w rest ts} : (∀ b ∈ bl, blankB b = true) → Wd w k → Gap rest → Again (mv (mv p bl) w) rest ts → Again p (bl ++ (w ++ rest)) (tokD k w 1 (mv p bl).1 (mv p bl).2 :: ts)
theorem spanN_wd {w rest : List UInt8} {k : Int} (h : Wd w k) : spanN blankB (w ++ rest) = 0 := by
  cases w with
  | nil => exact absurd rfl h.ne
  | cons b w => rw [List.cons_append, spanN_cons, h.nb b (List.mem_cons_self ..)]; rfl
theorem again_ev : ∀ {q : Int × Int} {s : List UInt8} {ts : List D}, Again q s ts → ∀ (x : List UInt8) (p0 p1 p2 : Int) (out : List D), Room q s.length → out.length + s.length ≤ 12000 →
    Ev (fun n => lex_piece_L0 n (.int .i64 0) (.lst 5 out) (.lst 5 []) (.int .i64 0) (.int .i64 0) (.int .i64 0) (.str s) (.int .i64 1) (.int .i64 q.1) (.int .i64 q.2) (.str x) (.int .i64 p0) (.int .i64 p1) (.int .i64 p2) (.bool false)) fun r => r = pieceOut none out ts := by
  intro q s ts h
  induction h with
  | nil =>
    intro x p0 p1 p2 out hr hl
    refine Ev.eq (fun n => lex_piece_L0_eq n _ _ _ _ _ _ _ _ _ _ _ _ _ _ _) (Ev.bindC (span_is (by simp)) ?_)
    intro _ _ h; cases h
    refine ⟨rfl, Ev.yes rfl (Ev.bindC (stepX_ev (k := 0) (Nat.zero_le _) x p0 p1 p2 1 hr) ?_)⟩
    intro _ _ h; cases h
    exact ⟨rfl, Ev.yes rfl (Ev.yes rfl (Ev.ret (by simp [pieceOut])))⟩
  | @cons q k bl w rest ts hbl hW hg _ ih =>
    intro x p0 p1 p2 out hr hl
    have hlen : (bl ++ (w ++ rest)).length = bl.length + (w.length + rest.length) := by simp only [List.length_append]
    rw [hlen] at hl
    have hw1 : 1 ≤ w.length := List.length_pos_iff.2 hW.ne
    have hsp : spanN blankB (bl ++ (w ++ rest)) = bl.length := by rw [spanN_app hbl, spanN_wd hW]; omega
    have hr2 : Room (mv q bl) (w ++ rest).length := room_mv (s := bl) (m := (w ++ rest).length) (by rw [Nat.add_comm, ← List.length_append]; exact hr)
    have hr3 : Room (mv (mv q bl) w) rest.length := room_mv (s := w) (m := rest.length) (by rw [Nat.add_comm, ← List.length_append]; exact hr2)
    have hz : (w ++ rest == []) = false := by
      cases hw : w with
      | nil => exact absurd hw hW.ne
      | cons _ _ => rfl
    have hs1 : Ev (fun n => lex_piece_1 n (.int .i64 (bl.length : Int)) (.str x) (.int .i64 p0) (.int .i64 p1) (.int .i64 p2) (.bool false) (.int .i64 1) (.int .i64 q.1) (.int .i64 q.2) (.str (bl ++ (w ++ rest)))) fun r =>
        r = (true, [.str x, .int .i64 p0, .int .i64 p1, .int .i64 p2, .bool false, .int .i64 1, .int .i64 (mv q bl).1, .int .i64 (mv q bl).2, .str (w ++ rest)]) := by
      have h := stepX_ev (s := bl ++ (w ++ rest)) (k := bl.length) (by rw [hlen]; omega) x p0 p1 p2 1 hr
      rw [List.take_left, List.drop_left] at h
      exact h
    have hs2 : Ev (fun n => lex_piece_1 n (.int .i64 (w.length : Int)) (.str x) (.int .i64 p0) (.int .i64 p1) (.int .i64 p2) (.bool false) (.int .i64 1) (.int .i64 (mv q bl).1) (.int .i64 (mv q bl).2) (.str (w ++ rest))) fun r =>
        r = (true, [.str x, .int .i64 p0, .int .i64 p1, .int .i64 p2, .bool false, .int .i64 1, .int .i64 (mv (mv q bl) w).1, .int .i64 (mv (mv q bl) w).2, .str rest]) := by
      have h := stepX_ev (s := w ++ rest) (k := w.length) (by rw [List.length_append]; omega) x p0 p1 p2 1 hr2
      rw [List.take_left, List.drop_left] at h
      exact h
    refine Ev.eq (fun n => lex_piece_L0_eq n _ _ _ _ _ _ _ _ _ _ _ _ _ _ _) (Ev.bindC (span_is (by rw [hlen]; omega)) ?_)
    rw [hsp]
    intro _ _ h; cases h
    refine ⟨rfl, Ev.yes rfl (Ev.bindC hs1 ?_)⟩
    intro _ _ h; cases h
    refine ⟨rfl, Ev.yes rfl (Ev.no hz (Ev.bindC (hW.go rest hg (by rw [List.length_append]; omega)) ?_))⟩
    intro _ _ h; cases h
    refine ⟨rfl, Ev.yes rfl (Ev.yes rfl (Ev.no ?_ (Ev.no rfl (Ev.yes (and_tt (and_tt rfl (decide_eq_true ?_)) (decide_eq_true ?_)) (Ev.yes (Nat.ble_eq_true_of_le (by simp only [maxLst]; omega)) (Ev.bindC hs2 ?_))))))⟩
    · have : (out.length : Int) ≠ 12000 := by omega
      simpa using this
    · show (0 : Int) ≤ (w.length : Int); omega
    · show (w.length : Int) ≤ ((w ++ rest).length : Int); rw [List.length_append]; omega
    intro _ _ h; cases h
    refine ⟨rfl, Ev.yes rfl ?_⟩
    have hwt : (((w ++ rest).drop 0).take (((w.length : Nat) : Int).toNat - 0)) = w := by rw [List.drop_zero, Int.toNat_natCast, Nat.sub_zero, List.take_left]
    have hi := ih x p0 p1 p2 (out ++ [tokD k w 1 (mv q bl).1 (mv q bl).2]) hr3 (by simp only [List.length_append, List.length_singleton]; omega)
    show Ev (fun n => lex_piece_L0 n (.int .i64 0) (.lst 5 (out ++ [.agg [.int .i64 k, .str (((w ++ rest).drop 0).take (((w.length : Nat) : Int).toNat - 0)), .int .i64 1, .int .i64 (mv q bl).1, .int .i64 (mv q bl).2]])) (.lst 5 []) (.int .i64 0) (.int .i64 0) (.int .i64 0) (.str rest) (.int .i64 1) (.int .i64 (mv (mv q bl) w).1) (.int .i64 (mv (mv q bl) w).2) (.str x) (.int .i64 p0) (.int .i64 p1) (.int .i64 p2) (.bool false)) _
    rw [hwt]
    refine hi.mono fun r hr => ?_
    rw [hr]; simp [pieceOut]
theorem lexAgain_ev {s : List UInt8} {ts : List D} (hs : s.length ≤ 12000) (ha : Again (1, 1) s ts) : Ev (fun n => lex_Lex n (.lst 5 [.agg [.str s, .int .i64 1, .int .i64 1, .int .i64 1, .bool false]])) fun r => r = wholeW 0 0 0 0 ts := by
  have hp : Ev (fun n => lex_piece n (.agg [.str s, .int .i64 1, .int .i64 1, .int .i64 1, .bool false]) (.lst 5 [])) fun r => r = wholeW 0 0 0 0 ts := by
    refine Ev.eq (fun n => lex_piece_eq n _ _ _ _ _ _) (Ev.bindL (again_ev ha s 1 1 1 [] ⟨Int.le_refl _, Int.le_refl _, by show (1 : Int) + _ ≤ _; omega, by show (1 : Int) + _ ≤ _; omega⟩ (by simpa using hs)) (fun ds h => ?_) fun ds h => ?_)
    · rw [h]; simp [pieceOut, wholeW]
    · cases h
  refine Ev.eq (fun n => lex_Lex_eq n _) ?_
  have loop : Ev (fun n => lex_Lex_L0 n (.lst 5 [.agg [.str s, .int .i64 1, .int .i64 1, .int .i64 1, .bool false]]) (.int .i64 1) (.int .i64 0) (.int .i64 0) (.int .i64 0) (.int .i64 0) (.lst 5 [])) fun r =>
      r = (false, [.lst 5 [.agg [.str s, .int .i64 1, .int .i64 1, .int .i64 1, .bool false]], .int .i64 1, .int .i64 1, .int .i64 0, .int .i64 0, .int .i64 0, .lst 5 ts]) := by
    refine Ev.eq (fun n => lex_Lex_L0_eq n _ _ _ _ _ _ _) (Ev.yes rfl (Ev.yes rfl (Ev.yes rfl (Ev.bindC hp ?_))))
    intro _ _ h; cases h
    exact ⟨rfl, Ev.yes rfl (Ev.no rfl (Ev.eq (fun n => lex_Lex_L0_eq n _ _ _ _ _ _ _) (Ev.no rfl (Ev.ret rfl))))⟩
  refine Ev.bindL loop (fun ds h => by cases h) fun ds h => ?_
  cases h
  exact Ev.yes rfl (Ev.ret rfl)
/-- A token's kind and text. -/
def kw (y : D) : Int × List UInt8 := ((y.at_ 0).i, (y.at_ 1).s)
def words (ts : List D) : List (List UInt8) := ts.map fun y => (y.at_ 1).s
theorem strsOf_map : ∀ l : List (List UInt8), strsOf (l.map D.str) = some l
  | [] => rfl
  | x :: l => by simp only [List.map_cons, strsOf, strsOf_map l]
theorem join_len : ∀ ts : List D, (joinStr [32] (words ts)).length ≤ wl ts + ts.length
  | [] => Nat.zero_le _
  | [y] => by show ((y.at_ 1).s).length ≤ _; simp only [wl, List.length_cons]; omega
  | y :: z :: ts => by
    have ih := join_len (z :: ts)
    show ((y.at_ 1).s ++ ([32] ++ joinStr [32] (words (z :: ts)))).length ≤ _
    simp only [List.length_append, List.length_cons, List.length_nil, wl] at ih ⊢
    omega
end Go.Proofs.YtalibicpmfbieaaGreatDoor
