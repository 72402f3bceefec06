/- Words: a piece's words, the program's and the reference's. -/
import Derived.Test.YtmklmhdgnokcmaaWdB
namespace Go.Proofs.Ytmklmhdgnokcmaa
open Go.AE
set_option linter.unusedVariables false
abbrev Pos := Int × Int × Int
def mvB (q : Pos) (b : UInt8) : Pos := bif ((b.toNat : Int) == 10) then (q.1, IntKind.i64.wrap (q.2.1 + 1), 1) else (q.1, q.2.1, IntKind.i64.wrap (q.2.2 + 1))
def mvs (fx : Bool) (q : Pos) (l : List UInt8) : Pos := bif fx then q else l.foldl mvB q
def tokD (k : Int) (t : List UInt8) (q : Pos) : D := .agg [.int .i64 k, .str t, .int .i64 q.1, .int .i64 q.2.1, .int .i64 q.2.2]
abbrev PR := Option (Int × Int × Int × Int) × List D
inductive LP (fx : Bool) : List UInt8 → Pos → PR → Prop
  | nil (q : Pos) : LP fx [] q (none, [])
  | blank {b : UInt8} {t : List UInt8} {q : Pos} {p : PR} : blankB b = true → LP fx t (mvs fx q [b]) p → LP fx (b :: t) q p
  | bad {c : UInt8} {t : List UInt8} {q : Pos} : blankB c = false → (wordF c t).2.2 ≠ 0 → LP fx (c :: t) q (some (q.1, q.2.1, q.2.2, (wordF c t).2.2), [])
  | tok {c : UInt8} {t : List UInt8} {q : Pos} {p : PR} : blankB c = false → (wordF c t).2.2 = 0 → LP fx ((c :: t).drop (wordF c t).2.1) (mvs fx q ((c :: t).take (wordF c t).2.1)) p → LP fx (c :: t) q (p.1, tokD (wordF c t).1 ((c :: t).take (wordF c t).2.1) q :: p.2)
theorem mvs_append (fx : Bool) (q : Pos) (a b : List UInt8) : mvs fx q (a ++ b) = mvs fx (mvs fx q a) b := by
  unfold mvs
  cases fx with
  | true => rfl
  | false => simp only [cond_false, List.foldl_append]
theorem mvs_nil (fx : Bool) (q : Pos) : mvs fx q [] = q := by cases fx <;> rfl
theorem parseF_nil : ∃ e, parseF [] = .bad e := ⟨_, rfl⟩
theorem signF_le3 (s : List UInt8) : signF s ≤ s.length := by
  cases s with
  | nil => exact Nat.le_of_eq rfl
  | cons c t =>
    rw [sign_cases]
    cases h3 : decide (3 ≤ (c :: t).length) with
    | true =>
      have h3 := of_decide_eq_true h3
      cases signs3.contains ((c :: t).take 3) with
      | true => exact h3
      | false =>
        cases decide (2 ≤ (c :: t).length) && signs2.contains ((c :: t).take 2) with
        | true => show 2 ≤ _; omega
        | false => cases signs1.contains [c] with
          | true => show 1 ≤ _; omega
          | false => exact Nat.zero_le _
    | false =>
      cases h2 : decide (2 ≤ (c :: t).length) with
      | true =>
        have h2 := of_decide_eq_true h2
        cases signs2.contains ((c :: t).take 2) with
        | true => exact h2
        | false => cases signs1.contains [c] with
          | true => show 1 ≤ _; omega
          | false => exact Nat.zero_le _
      | false => cases signs1.contains [c] with
        | true => exact (by simp : 1 ≤ (c :: t).length)
        | false => exact Nat.zero_le _
theorem wordF_len {c : UInt8} {t : List UInt8} (h : (wordF c t).2.2 = 0) : 1 ≤ (wordF c t).2.1 ∧ (wordF c t).2.1 ≤ (c :: t).length := by
  have hsp := spanN_le p2 t
  have hnu := numF_le (c :: t)
  have hsg := signF_le3 (c :: t)
  unfold wordF at h ⊢
  cases hc : isNm c with
  | true =>
    rw [hc] at h
    simp only [cond_true] at h ⊢
    cases h40 : decide (((1 + spanN p2 t : Nat) : Int) > 40) with
    | true => rw [h40] at h; have h : (9 : Int) = 0 := h; exact absurd h (by decide)
    | false =>
      rw [h40] at h
      simp only [cond_false] at h ⊢
      cases h36 : (c :: t).take (1 + spanN p2 t) == [36] with
      | true => rw [h36] at h; have h : (9 : Int) = 0 := h; exact absurd h (by decide)
      | false =>
        show 1 ≤ 1 + spanN p2 t ∧ 1 + spanN p2 t ≤ (c :: t).length
        rw [List.length_cons]; omega
  | false =>
    rw [hc] at h
    simp only [cond_false] at h ⊢
    cases hn : isNu c with
    | true =>
      rw [hn] at h
      simp only [cond_true] at h ⊢
      cases hp : parseF ((c :: t).take (numF (c :: t))) with
      | bad e => rw [hp] at h; have h : (7 : Int) = 0 := h; exact absurd h (by decide)
      | ok w n sg sz =>
        refine ⟨?_, hnu⟩
        show 1 ≤ numF (c :: t)
        cases hz : numF (c :: t) with
        | zero =>
          obtain ⟨e, he⟩ := parseF_nil
          rw [hz, List.take_zero, he] at hp
          cases hp
        | succ k => omega
    | false =>
      rw [hn] at h
      simp only [cond_false] at h ⊢
      cases h0 : ((signF (c :: t) : Int) == 0) with
      | true => rw [h0] at h; have h : (7 : Int) = 0 := h; exact absurd h (by decide)
      | false =>
        have : ¬ (signF (c :: t) : Int) = 0 := by simpa using h0
        show 1 ≤ signF (c :: t) ∧ signF (c :: t) ≤ (c :: t).length
        omega
theorem lp_of (fx : Bool) : ∀ (m : Nat) (s : List UInt8) (q : Pos), s.length ≤ m → ∃ p, LP fx s q p ∧ Toks p.2 ∧ p.2.length ≤ s.length ∧ (∀ a b c e, p.1 = some (a, b, c, e) → e ≠ 0) := by
  intro m
  induction m with
  | zero =>
    intro s q hm
    have : s = [] := List.eq_nil_of_length_eq_zero (by omega)
    subst this
    exact ⟨_, .nil q, fun y hy => by simp at hy, Nat.le_refl _, fun _ _ _ _ h => by cases h⟩
  | succ m ih =>
    intro s q hm
    cases s with
    | nil => exact ⟨_, .nil q, fun y hy => by simp at hy, Nat.le_refl _, fun _ _ _ _ h => by cases h⟩
    | cons c t =>
      rw [List.length_cons] at hm
      cases hb : blankB c with
      | true =>
        obtain ⟨p, h1, h2, h3, h4⟩ := ih t (mvs fx q [c]) (by omega)
        exact ⟨p, .blank hb h1, h2, by rw [List.length_cons]; omega, h4⟩
      | false =>
        by_cases he : (wordF c t).2.2 = 0
        · obtain ⟨w1, w2⟩ := wordF_len he
          have hl : ((c :: t).drop (wordF c t).2.1).length + 1 ≤ (c :: t).length := by rw [List.length_drop]; omega
          rw [List.length_cons] at hl
          obtain ⟨p, h1, h2, h3, h4⟩ := ih ((c :: t).drop (wordF c t).2.1) (mvs fx q ((c :: t).take (wordF c t).2.1)) (by omega)
          refine ⟨_, .tok hb he h1, ?_, by simp only [List.length_cons]; omega, h4⟩
          intro y hy
          rcases List.mem_cons.1 hy with rfl | hy
          · exact ⟨_, _, _, _, _, rfl⟩
          · exact h2 y hy
        · exact ⟨_, .bad hb he, fun y hy => by simp at hy, Nat.zero_le _, fun _ _ _ _ h => by cases h; exact he⟩
/-- The blanks ahead. -/
theorem lp_skip {fx : Bool} : ∀ {s : List UInt8} {q : Pos} {p : PR}, LP fx s q p → LP fx (s.drop (spanN blankB s)) (mvs fx q (s.take (spanN blankB s))) p := by
  intro s q p h
  induction h with
  | nil q => rw [List.drop_nil, List.take_nil, mvs_nil]; exact .nil q
  | @blank b t q p hb h ih =>
    have e : spanN blankB (b :: t) = spanN blankB t + 1 := by rw [spanN_cons, hb]; rfl
    rw [e, List.drop_succ_cons, List.take_succ_cons, show b :: t.take (spanN blankB t) = [b] ++ t.take (spanN blankB t) from rfl, mvs_append]
    exact ih
  | @bad c t q hb he =>
    have e : spanN blankB (c :: t) = 0 := by rw [spanN_cons, hb]; rfl
    rw [e, List.drop_zero, List.take_zero, mvs_nil]
    exact .bad hb he
  | @tok c t q p hb he h ih =>
    have e : spanN blankB (c :: t) = 0 := by rw [spanN_cons, hb]; rfl
    rw [e, List.drop_zero, List.take_zero, mvs_nil]
    exact .tok hb he h
theorem skip_head : ∀ (s : List UInt8) {c : UInt8} {t : List UInt8}, s.drop (spanN blankB s) = c :: t → blankB c = false
  | [], c, t, h => by cases h
  | b :: s, c, t, h => by
    rw [spanN_cons] at h
    cases hb : blankB b with
    | true => rw [hb] at h; exact skip_head s h
    | false =>
      rw [hb] at h
      cases h
      exact hb
theorem lp_nil {fx q p} (h : LP fx [] q p) : p = (none, []) := by cases h; rfl
theorem move_is (q : Pos) {s : List UInt8} (hs : s.length ≤ 1048576) : Ev (fun n => lex_move n (.agg [.int .i64 q.1, .int .i64 q.2.1, .int .i64 q.2.2]) (.str s)) fun r => r = (true, [.agg [.int .i64 (s.foldl mvB q).1, .int .i64 (s.foldl mvB q).2.1, .int .i64 (s.foldl mvB q).2.2]]) := by
  refine Ev.eq (fun n => lex_move_eq n q.1 q.2.1 q.2.2 s) ?_
  have loop : ∀ (m j : Nat) (q : Pos), s.length - j = m → j ≤ s.length →
      Ev (fun n => lex_move_L0 n (.str s) (.int .i64 (s.length : Int)) (.int .i64 (j : Int)) (.int .i64 q.1) (.int .i64 q.2.1) (.int .i64 q.2.2) (.int .i64 0) (.int .i64 0) (.int .i64 0)) fun r => ∃ j' : Int, r = (false, [.str s, .int .i64 (s.length : Int), .int .i64 j', .int .i64 ((s.drop j).foldl mvB q).1, .int .i64 ((s.drop j).foldl mvB q).2.1, .int .i64 ((s.drop j).foldl mvB q).2.2, .int .i64 0, .int .i64 0, .int .i64 0]) := by
    intro m
    induction m with
    | zero =>
      intro j q hm hj
      refine Ev.eq (fun n => lex_move_L0_eq n _ _ _ _ _ _ _ _ _) (Ev.no (decide_eq_false (by omega)) (Ev.ret ⟨(j : Int), ?_⟩))
      rw [List.drop_eq_nil_of_le (by omega)]; rfl
    | succ m ih =>
      intro j q hm hj
      have hj2 : j < s.length := by omega
      have hw : IntKind.i64.wrap ((j : Int) + 1) = ((j + 1 : Nat) : Int) := wrap_succ (by omega)
      refine Ev.eq (fun n => lex_move_L0_eq n _ _ _ _ _ _ _ _ _) (Ev.yes (decide_eq_true (by omega)) (Ev.yes (in_range hj2) ?_))
      rw [get_str hj2, hw, drop_cons hj2, List.foldl_cons]
      have hn := ih (j + 1) (mvB q s[j]) (by omega) hj2
      cases hb : ((s[j].toNat : Int) == 10) with
      | true =>
        have e : mvB q s[j] = (q.1, IntKind.i64.wrap (q.2.1 + 1), 1) := by unfold mvB; rw [hb]; rfl
        rw [e] at hn ⊢
        exact Ev.yes rfl hn
      | false =>
        have e : mvB q s[j] = (q.1, q.2.1, IntKind.i64.wrap (q.2.2 + 1)) := by unfold mvB; rw [hb]; rfl
        rw [e] at hn ⊢
        exact Ev.no rfl hn
  refine Ev.bindL (loop s.length 0 q rfl (Nat.zero_le _)) (fun ds h => by obtain ⟨_, h⟩ := h; cases h) fun ds h => ?_
  obtain ⟨j', h⟩ := h
  cases h
  exact Ev.yes rfl (Ev.ret rfl)
theorem step_is {s : List UInt8} (hs : s.length ≤ 1048576) {k : Nat} (hk : k ≤ s.length) (x : List UInt8) (p0 p1 p2 : Int) (fx : Bool) (q : Pos) :
    Ev (fun n => lex_piece_1 n (.int .i64 (k : Int)) (.str x) (.int .i64 p0) (.int .i64 p1) (.int .i64 p2) (.bool fx) (.int .i64 q.1) (.int .i64 q.2.1) (.int .i64 q.2.2) (.str s)) fun r =>
      r = (true, [.str x, .int .i64 p0, .int .i64 p1, .int .i64 p2, .bool fx, .int .i64 (mvs fx q (s.take k)).1, .int .i64 (mvs fx q (s.take k)).2.1, .int .i64 (mvs fx q (s.take k)).2.2, .str (s.drop k)]) := by
  refine Ev.eq (fun n => lex_piece_1_eq n _ _ _ _ _ _ _ _ _ _) ?_
  have hc : (decide ((0 : Int) ≤ (k : Int)) && decide ((k : Int) ≤ (s.length : Int)) && decide ((s.length : Int) ≤ (s.length : Int))) = true := and_tt (and_tt (decide_eq_true (by omega)) (decide_eq_true (by omega))) (decide_eq_true (Int.le_refl _))
  simp only [Int.toNat_natCast, drop_all, List.drop_zero, Nat.sub_zero]
  cases fx with
  | true => exact Ev.no rfl (Ev.yes hc (Ev.ret rfl))
  | false => exact Ev.yes rfl (Ev.yes (and_tt (and_tt rfl (decide_eq_true (by omega))) (decide_eq_true (by omega))) (evCall (move_is q (by rw [List.length_take]; omega)) (Ev.yes rfl (Ev.yes hc (Ev.ret rfl)))))
def pieceOut (R : Option (Int × Int × Int × Int)) (out ts : List D) : Bool × List D := match R with
  | none => (true, [.agg [.int .i64 0, .int .i64 0, .int .i64 0], .int .i64 0, .lst 5 (out ++ ts)])
  | some (a, b, c, e) => (true, [.agg [.int .i64 a, .int .i64 b, .int .i64 c], .int .i64 e, .lst 5 []])
theorem pieceOut_cons (R : Option (Int × Int × Int × Int)) (out ts : List D) (y : D) : pieceOut R (out ++ [y]) ts = pieceOut R out (y :: ts) := by
  cases R with
  | none => simp [pieceOut]
  | some q => rfl
theorem ne_0 {x : Int} (h : x ≠ 0) : (x != 0) = true ∧ (x == 0) = false := by simp [h]
theorem opiece_is (fx : Bool) (x : List UInt8) (p0 p1 p2 : Int) : ∀ (m : Nat) (s : List UInt8) (q : Pos) (p : PR) (out : List D), s.length ≤ m → LP fx s q p → out.length + s.length ≤ 12000 →
    Ev (fun n => lex_piece_L0 n (.int .i64 0) (.lst 5 out) (.lst 5 []) (.int .i64 0) (.int .i64 0) (.int .i64 0) (.str s) (.int .i64 q.1) (.int .i64 q.2.1) (.int .i64 q.2.2) (.str x) (.int .i64 p0) (.int .i64 p1) (.int .i64 p2) (.bool fx)) fun r => r = pieceOut p.1 out p.2 := by
  intro m
  induction m with
  | zero =>
    intro s q p out hm hlp ho
    have : s = [] := List.eq_nil_of_length_eq_zero (by omega)
    subst this
    have hp := lp_nil hlp
    subst hp
    refine Ev.eq (fun n => lex_piece_L0_eq n _ _ _ _ _ _ _ _ _ _ _ _ _ _ _) (evCall (span_is (by simp)) (Ev.yes rfl (evCall (step_is (by simp) (k := 0) (Nat.le_refl _) x p0 p1 p2 fx q) (Ev.yes rfl (Ev.yes rfl (Ev.ret (by simp [pieceOut])))))))
  | succ m ih =>
    intro s q p out hm hlp ho
    have hk := spanN_le blankB s
    have hsk := lp_skip hlp
    have hhd : ∀ c t, s.drop (spanN blankB s) = c :: t → blankB c = false := fun c t h => skip_head s h
    have hst := step_is (s := s) (by omega) hk x p0 p1 p2 fx q
    have hdl : (s.drop (spanN blankB s)).length ≤ s.length := by rw [List.length_drop]; omega
    refine Ev.eq (fun n => lex_piece_L0_eq n _ _ _ _ _ _ _ _ _ _ _ _ _ _ _) (evCall (span_is (by omega)) (Ev.yes rfl (evCall hst (Ev.yes rfl ?_))))
    generalize s.drop (spanN blankB s) = s' at hsk hhd hdl ⊢
    generalize mvs fx q (s.take (spanN blankB s)) = q' at hsk ⊢
    show Ev (fun n => bif (s' == ([] : List UInt8)) then _ else _) _
    cases s' with
    | nil =>
      have hp := lp_nil hsk
      subst hp
      exact Ev.yes rfl (Ev.ret (by simp [pieceOut, nth, D.i]))
    | cons c t =>
      have hb := hhd c t rfl
      refine Ev.no rfl (evCall (oword_is (by omega)) (Ev.yes rfl ?_))
      cases hsk with
      | blank h1 h2 => rw [hb] at h1; cases h1
      | bad h1 he =>
        obtain ⟨e1, e2⟩ := ne_0 he
        refine Ev.no e2 (evDfn (fun n => lex_piece_L0_j1_def n _ _ _ _ _ _ _ _ _) (Ev.no rfl (evDfn (fun n => lex_piece_L0_j2_def n _ _ _ _ _ _ _ _ _) (Ev.yes e1 (Ev.ret rfl)))))
      | @tok c t q' p h1 he h2 =>
        obtain ⟨w1, w2⟩ := wordF_len he
        have hdl2 : ((c :: t).drop (wordF c t).2.1).length + 1 ≤ (c :: t).length := by rw [List.length_drop]; omega
        have nx := ih ((c :: t).drop (wordF c t).2.1) _ p (out ++ [tokD (wordF c t).1 ((c :: t).take (wordF c t).2.1) q']) (by omega) h2 (by simp only [List.length_append, List.length_singleton]; omega)
        rw [pieceOut_cons] at nx
        have hst2 := step_is (s := c :: t) (by omega) w2 x p0 p1 p2 fx q'
        have e1 : ((wordF c t).2.2 == 0) = true := by rw [he]; rfl
        have e2 : ((wordF c t).2.2 != 0) = false := by rw [he]; rfl
        have e3 : ((out.length : Int) == 12000) = false := by simp; omega
        refine Ev.yes e1 (evDfn (fun n => lex_piece_L0_j1_def n _ _ _ _ _ _ _ _ _) (Ev.no e3 (evDfn (fun n => lex_piece_L0_j2_def n _ _ _ _ _ _ _ _ _) (Ev.no e2 (Ev.yes (and_tt (and_tt rfl (decide_eq_true ?_)) (decide_eq_true ?_)) (Ev.yes (Nat.ble_eq_true_of_le (by simp only [maxLst]; omega)) (evCall hst2 (Ev.yes rfl ?_))))))))
        · show (0 : Int) ≤ ((wordF c t).2.1 : Int); omega
        · show ((wordF c t).2.1 : Int) ≤ ((c :: t).length : Int); omega
        · exact nx
end Go.Proofs.Ytmklmhdgnokcmaa
