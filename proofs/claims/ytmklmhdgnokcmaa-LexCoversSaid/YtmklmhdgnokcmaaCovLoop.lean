/- LexCovers, plain: the law's own walk over the text. -/
import Derived.Test.YtmklmhdgnokcmaaLexCovers
namespace Go.Proofs.Ytmklmhdgnokcmaa
open Go.AE
set_option linter.unusedVariables false
def CovEnd (s : List UInt8) (l : List D) (r : Bool × List D) : Prop := ∃ b c i : Int, r = (false, [.str s, .int .i64 b, .int .i64 c, .int .i64 (l.length : Int), .int .i64 0, .int .i64 (s.length : Int), .int .i64 i, .lst 5 l])
def At (l : List D) (p : Int × Int) (t : List UInt8) (k inn : Nat) : Prop :=
  (inn = 0 ∧ k ≤ l.length ∧ Cov p t (l.drop k)) ∨ (∃ (hk : k < l.length) (kk : Int) (w1 w2 rest : List UInt8) (a b : Int), w1.length + w2.length ≤ 20000 ∧ 0 < inn ∧ l[k] = .agg [.int .i64 kk, .str (w1 ++ w2), .int .i64 1, .int .i64 a, .int .i64 b] ∧ w2.length = inn ∧ t = w2 ++ rest ∧ Cov (mv p w2) rest (l.drop (k + 1)))
theorem nl_ev {A : Int → Int → Nat → Out} {p : Int × Int} {b : UInt8} {P : Bool × List D → Prop} (h : Ev (A (mvB p b).1 (mvB p b).2) P) : Ev (fun n => bif ((b.toNat : Int) == 10) then A (p.1 + 1) 1 n else A p.1 (p.2 + 1) n) P := by
  refine Ev.test (fun e => ?_) fun e => ?_
  · have : mvB p b = (p.1 + 1, 1) := by unfold mvB; rw [e]; rfl
    rw [this] at h; exact h
  · have : mvB p b = (p.1, p.2 + 1) := by unfold mvB; rw [e]; rfl
    rw [this] at h; exact h
theorem blank_branch {b : UInt8} (hb : blankB b = true) {X T : Nat → Out} {P : Bool × List D → Prop} (h : Ev T P) : Ev (fun n => bif ((b.toNat : Int) != 32) then (bif ((b.toNat : Int) != 9) then (bif ((b.toNat : Int) != 13) then (bif ((b.toNat : Int) != 10) then X n else T n) else T n) else T n) else T n) P := by
  rcases blankB_cases hb with rfl | rfl | rfl | rfl
  · exact Ev.no rfl h
  · exact Ev.yes rfl (Ev.no rfl h)
  · exact Ev.yes rfl (Ev.yes rfl (Ev.no rfl h))
  · exact Ev.yes rfl (Ev.yes rfl (Ev.yes rfl (Ev.no rfl h)))
theorem word_branch {w1 w2 : List UInt8} {b : UInt8} {inn k : Int} (hi : inn = (w2.length : Int) + 1) (hl : w1.length ≤ 100000) (hl2 : w2.length ≤ 100000) {A : Int → Int → Nat → Out} {P : Bool × List D → Prop}
    (h0 : w2 = [] → Ev (A (k + 1) 0) P) (h1 : w2 ≠ [] → Ev (A k (w2.length : Int)) P) {X : Nat → Out} :
    Ev (fun n => bif (decide ((0 : Int) ≤ (IntKind.i64.wrap (((w1 ++ b :: w2).length : Int) - inn))) && decide ((IntKind.i64.wrap (((w1 ++ b :: w2).length : Int) - inn)) < ((w1 ++ b :: w2).length : Int))) then
      (bif ((((w1 ++ b :: w2)[(IntKind.i64.wrap (((w1 ++ b :: w2).length : Int) - inn)).toNat]?.getD 0).toNat : Int) != (b.toNat : Int)) then X n
       else (bif ((IntKind.i64.wrap (inn - 1)) == 0) then A (k + 1) (IntKind.i64.wrap (inn - 1)) n else A k (IntKind.i64.wrap (inn - 1)) n)) else none) P := by
  have e1 : IntKind.i64.wrap (((w1 ++ b :: w2).length : Int) - inn) = (w1.length : Int) := by
    rw [wrap_id (by simp only [List.length_append, List.length_cons]; omega) (by simp only [List.length_append, List.length_cons]; omega)]
    simp only [List.length_append, List.length_cons]; omega
  have e2 : IntKind.i64.wrap (inn - 1) = (w2.length : Int) := by rw [wrap_id (by omega) (by omega)]; omega
  have e3 : (w1 ++ b :: w2)[w1.length]?.getD 0 = b := by simp
  rw [e1, e2, Int.toNat_natCast, e3]
  refine Ev.yes (and_tt (decide_eq_true (by omega)) (decide_eq_true (by simp only [List.length_append, List.length_cons]; omega))) (Ev.no (by simp) ?_)
  cases w2 with
  | nil => exact Ev.yes rfl (h0 rfl)
  | cons c w2 => exact Ev.no (by simp; omega) (h1 (by simp))
theorem drop_inv {l : List D} {k : Nat} {x : D} {ts : List D} (h : l.drop k = x :: ts) : ∃ hk : k < l.length, l[k] = x ∧ l.drop (k + 1) = ts := by
  have hk : k < l.length := by have := congrArg List.length h; simp at this; omega
  rw [drop_cons hk] at h
  exact ⟨hk, (List.cons.inj h).1, (List.cons.inj h).2⟩
theorem covLoop {s : List UInt8} {l : List D} (hs : s.length ≤ 12000) (hll : l.length ≤ 12000) : ∀ (m j : Nat) (p : Int × Int) (k inn : Nat), s.length - j = m → j ≤ s.length → Room p m → At l p (s.drop j) k inn →
    Ev (fun n => law08_LexCovers_L0 n (.str s) (.int .i64 p.1) (.int .i64 p.2) (.int .i64 (k : Int)) (.int .i64 (inn : Int)) (.int .i64 (s.length : Int)) (.int .i64 (j : Int)) (.lst 5 l)) (CovEnd s l) := by
  intro m
  induction m with
  | zero =>
    intro j p k inn hm hj hr hat
    rw [List.drop_eq_nil_of_le (show s.length ≤ j by omega)] at hat
    have hk : k = l.length ∧ inn = 0 := by
      rcases hat with ⟨h1, h2, h3⟩ | ⟨_, _, _, w2, rest, _, _, _, h1, _, h3, h4, _⟩
      · refine ⟨?_, h1⟩
        generalize hd : l.drop k = ts at h3
        generalize he : ([] : List UInt8) = tt at h3
        cases h3 with
        | nil _ =>
          have := congrArg List.length hd
          simp at this; omega
        | @cons _ kk bl w rest ts hbl hwn hc =>
          have := congrArg List.length he
          simp at this
          exact absurd (List.eq_nil_of_length_eq_zero (by omega)) hwn
      · have := congrArg List.length h4
        simp at this; omega
    obtain ⟨rfl, rfl⟩ := hk
    exact Ev.eq (fun n => law08_LexCovers_L0_eq n _ _ _ _ _ _ _ _) (Ev.no (decide_eq_false (by omega)) (Ev.ret ⟨_, _, _, rfl⟩))
  | succ m ih =>
    intro j p k inn hm hj hr hat
    have hj2 : j < s.length := by omega
    have hw : IntKind.i64.wrap ((j : Int) + 1) = ((j + 1 : Nat) : Int) := wrap_succ (by omega)
    have hr' := hr
    obtain ⟨r1, r2, r3, r4⟩ := hr'
    have hn := fun k inn (h : At l (mvB p s[j]) (s.drop (j + 1)) k inn) => ih (j + 1) (mvB p s[j]) k inn (by omega) hj2 (room_mvB hr _) h
    rw [drop_cons hj2] at hat
    have hkb : k ≤ 12000 := by
      rcases hat with ⟨_, h, _⟩ | ⟨h, _⟩ <;> omega
    have hw2 : IntKind.i64.wrap ((k : Int) + 1) = ((k + 1 : Nat) : Int) := wrap_succ (by omega)
    refine Ev.eq (fun n => law08_LexCovers_L0_eq n _ _ _ _ _ _ _ _) (Ev.yes (decide_eq_true (by omega)) (Ev.yes (in_range hj2) ?_))
    rw [get_str hj2, hw, hw2, wrap_id (x := p.1 + 1) (by omega) (by omega), wrap_id (x := p.2 + 1) (by omega) (by omega)]
    generalize hb : s[j] = b at hat hn ⊢
    have htl : (s.drop (j + 1)).length ≤ 12000 := by simp only [List.length_drop]; omega
    generalize s.drop (j + 1) = t at hat hn htl
    rcases hat with ⟨rfl, hk, hc⟩ | ⟨hk, kk, w1, w2, rest, a, c, hwb, h0, hlk, hw2l, ht, hc⟩
    · refine Ev.yes rfl ?_
      generalize hd : l.drop k = ts at hc
      generalize htt : b :: t = tt at hc
      cases hc with
      | nil hbl =>
        have hkl : ¬ k < l.length := by have := congrArg List.length hd; simp at this; omega
        subst htt
        refine Ev.no (decide_eq_false (by omega)) (Ev.no rfl (blank_branch (hbl b (List.mem_cons_self ..)) ?_))
        exact nl_ev (A := fun x y n => law08_LexCovers_L0 n (.str s) (.int .i64 x) (.int .i64 y) (.int .i64 (k : Int)) (.int .i64 0) (.int .i64 (s.length : Int)) (.int .i64 ((j + 1 : Nat) : Int)) (.lst 5 l)) (hn k 0 (.inl ⟨rfl, hk, by rw [hd]; exact .nil fun b h => hbl b (List.mem_cons_of_mem _ h)⟩))
      | @cons _ kk bl w rest ts hbl hwn hc =>
        obtain ⟨hkl, hlk, hld⟩ := drop_inv hd
        refine Ev.yes (decide_eq_true (by omega)) (Ev.yes (in_range hkl) ?_)
        rw [get_nat hkl, hlk]
        refine Ev.yes rfl (Ev.yes rfl ?_)
        cases bl with
        | nil =>
          cases w with
          | nil => exact absurd rfl hwn
          | cons b' w =>
            obtain ⟨rfl, ht⟩ := List.cons.inj (show b :: t = b' :: (w ++ rest) from htt)
            refine Ev.yes (show (((1 : Int) == 1) && ((p.1 == p.1) && ((p.2 == p.2) && true))) = true by simp) (Ev.yes (in_range hkl) (Ev.yes rfl (Ev.yes rfl (Ev.yes (decide_eq_true (by show ((b :: w).length : Int) > 0; simp only [List.length_cons]; omega)) (Ev.yes (in_range hkl) (Ev.yes rfl (Ev.yes rfl ?_)))))))
            have hwl : w.length ≤ 12000 := by rw [ht, List.length_append] at htl; omega
            refine word_branch (w1 := []) (w2 := w) (b := b) (k := (k : Int)) (inn := ((b :: w).length : Int)) (by simp) (by simp) (by omega) (A := fun k' in' n => bif ((b.toNat : Int) == 10) then law08_LexCovers_L0 n (.str s) (.int .i64 (p.1 + 1)) (.int .i64 1) (.int .i64 k') (.int .i64 in') (.int .i64 (s.length : Int)) (.int .i64 ((j + 1 : Nat) : Int)) (.lst 5 l) else law08_LexCovers_L0 n (.str s) (.int .i64 p.1) (.int .i64 (p.2 + 1)) (.int .i64 k') (.int .i64 in') (.int .i64 (s.length : Int)) (.int .i64 ((j + 1 : Nat) : Int)) (.lst 5 l)) (fun h => ?_) (fun h => ?_)
            · subst h
              exact nl_ev (A := fun x y n => law08_LexCovers_L0 n (.str s) (.int .i64 x) (.int .i64 y) (.int .i64 ((k : Int) + 1)) (.int .i64 0) (.int .i64 (s.length : Int)) (.int .i64 ((j + 1 : Nat) : Int)) (.lst 5 l)) (hn (k + 1) 0 (.inl ⟨rfl, hkl, by rw [hld, ht]; exact hc⟩))
            · exact nl_ev (A := fun x y n => law08_LexCovers_L0 n (.str s) (.int .i64 x) (.int .i64 y) (.int .i64 (k : Int)) (.int .i64 (w.length : Int)) (.int .i64 (s.length : Int)) (.int .i64 ((j + 1 : Nat) : Int)) (.lst 5 l)) (hn k w.length (.inr ⟨hkl, kk, [b], w, rest, p.1, p.2, by simp; omega, by cases w with | nil => exact absurd rfl h | cons _ _ => simp, hlk, rfl, ht, by rw [hld]; exact hc⟩))
        | cons b' bl =>
          obtain ⟨rfl, ht⟩ := List.cons.inj (show b :: t = b' :: (bl ++ (w ++ rest)) from htt)
          have haft := after_mv bl p b
          refine Ev.no (show (((1 : Int) == 1) && (((mv p (b :: bl)).1 == p.1) && (((mv p (b :: bl)).2 == p.2) && true))) = false from ?_) (Ev.no rfl (blank_branch (hbl b (List.mem_cons_self ..)) ?_))
          · cases h1 : (mv p (b :: bl)).1 == p.1 with
            | false => simp
            | true =>
              have h1 : (mv p (b :: bl)).1 = p.1 := by simpa using h1
              have h2 : (mv p (b :: bl)).2 ≠ p.2 := by unfold After at haft; omega
              simp [h2]
          · exact nl_ev (A := fun x y n => law08_LexCovers_L0 n (.str s) (.int .i64 x) (.int .i64 y) (.int .i64 (k : Int)) (.int .i64 0) (.int .i64 (s.length : Int)) (.int .i64 ((j + 1 : Nat) : Int)) (.lst 5 l)) (hn k 0 (.inl ⟨rfl, hk, by rw [hd, ht]; exact Cov.cons (p := mvB p b) (fun x h => hbl x (List.mem_cons_of_mem _ h)) hwn hc⟩))
    · cases w2 with
      | nil => simp at hw2l; omega
      | cons b' w =>
        obtain ⟨rfl, hu⟩ := List.cons.inj (show b :: t = b' :: (w ++ rest) from ht)
        have hwl : w.length ≤ 12000 := by rw [hu, List.length_append] at htl; omega
        have hin : (inn : Int) = (w.length : Int) + 1 := by rw [← hw2l]; simp
        refine Ev.no (by simp; omega) (Ev.yes (decide_eq_true (by omega)) (Ev.yes (in_range hk) ?_))
        rw [get_nat hk, hlk]
        refine Ev.yes rfl (Ev.yes rfl ?_)
        refine word_branch (w1 := w1) (w2 := w) (b := b) (k := (k : Int)) (inn := (inn : Int)) hin (by omega) (by omega) (A := fun k' in' n => bif ((b.toNat : Int) == 10) then law08_LexCovers_L0 n (.str s) (.int .i64 (p.1 + 1)) (.int .i64 1) (.int .i64 k') (.int .i64 in') (.int .i64 (s.length : Int)) (.int .i64 ((j + 1 : Nat) : Int)) (.lst 5 l) else law08_LexCovers_L0 n (.str s) (.int .i64 p.1) (.int .i64 (p.2 + 1)) (.int .i64 k') (.int .i64 in') (.int .i64 (s.length : Int)) (.int .i64 ((j + 1 : Nat) : Int)) (.lst 5 l)) (fun h => ?_) (fun h => ?_)
        · subst h
          exact nl_ev (A := fun x y n => law08_LexCovers_L0 n (.str s) (.int .i64 x) (.int .i64 y) (.int .i64 ((k : Int) + 1)) (.int .i64 0) (.int .i64 (s.length : Int)) (.int .i64 ((j + 1 : Nat) : Int)) (.lst 5 l)) (hn (k + 1) 0 (.inl ⟨rfl, hk, by rw [hu]; exact hc⟩))
        · exact nl_ev (A := fun x y n => law08_LexCovers_L0 n (.str s) (.int .i64 x) (.int .i64 y) (.int .i64 (k : Int)) (.int .i64 (w.length : Int)) (.int .i64 (s.length : Int)) (.int .i64 ((j + 1 : Nat) : Int)) (.lst 5 l)) (hn k w.length (.inr ⟨hk, kk, w1 ++ [b], w, rest, a, c, by simp at hwb ⊢; omega, by cases w with | nil => exact absurd rfl h | cons _ _ => simp, by rw [hlk, List.append_assoc]; rfl, rfl, hu, hc⟩))
theorem cov_len {p : Int × Int} {s : List UInt8} {ts : List D} (h : Cov p s ts) : ts.length ≤ s.length := by
  induction h with
  | nil _ => exact Nat.zero_le _
  | cons _ hw _ ih =>
    have := List.length_pos_iff.2 hw
    simp only [List.length_cons, List.length_append]; omega
theorem toks_plainC {ts : List D} (h : Toks ts) : ts.all plainD = true := List.all_eq_true.2 fun y hy => by
  obtain ⟨k, t, a, b, c, rfl⟩ := h y hy
  rfl
theorem plain3C {sk : Sk} {e : Int} {ts : List D} {xs : List D} (h : Toks ts) : plainDs sk [.agg xs, .int .i64 e, .lst 5 ts] = true := by simp [plainDs, toks_plainC h]
theorem covTail {s : List UInt8} (hs : s.length ≤ 400) : Ev (fun n => AE.bindC (lex_Lex n (.lst 5 [.agg [.str s, .int .i64 1, .int .i64 1, .int .i64 1, .bool false]])) fun r2 => bif (chk lex_Lex.osk r2 && plainDs lex_Lex.osk r2) then (bif ((nth r2 1).i != 0) then (bif (((nth r2 0).at_ 0).i == 1) then (bif (decide (((nth r2 0).at_ 1).i ≥ 1)) then (some (true, [(.bool (decide (((nth r2 0).at_ 2).i ≥ 1)))])) else (some (true, [(.bool false)]))) else (some (true, [(.bool false)]))) else (AE.bindL (law08_LexCovers_L0 n (.str s) (.int .i64 1) (.int .i64 1) (.int .i64 0) (.int .i64 0) (.int .i64 (s.length : Int)) (.int .i64 0) (.lst 5 (nth r2 2).l)) fun r3 => bif chk law08_LexCovers_L0.sk r3 then (bif ((nth r3 3).i == ((nth r3 7).l.length : Int)) then (some (true, [(.bool ((nth r3 4).i == 0))])) else (some (true, [(.bool false)]))) else none)) else none) fun r => r = (true, [.bool true]) := by
  refine Ev.bindC (lexX_ev (by omega)) ?_
  rintro _ _ (⟨ts, h, ht, hc⟩ | ⟨b, c, e, h, he, hb, hc⟩)
  · cases h
    have hl := cov_len hc
    refine ⟨rfl, Ev.yes (and_tt rfl (plain3C ht)) (Ev.no rfl ?_)⟩
    refine Ev.bindL (covLoop (s := s) (l := ts) (by omega) (by omega) s.length 0 (1, 1) 0 0 rfl (Nat.zero_le _) ⟨Int.le_refl _, Int.le_refl _, by show (1 : Int) + _ ≤ _; omega, by show (1 : Int) + _ ≤ _; omega⟩ (.inl ⟨rfl, Nat.zero_le _, hc⟩)) (fun ds h => by obtain ⟨_, _, _, h⟩ := h; cases h) fun ds h => ?_
    obtain ⟨_, _, _, h⟩ := h
    cases h
    exact Ev.yes rfl (Ev.yes (by simp [nth, D.i, D.l]) (Ev.ret rfl))
  · cases h
    refine ⟨rfl, Ev.yes rfl (Ev.yes (by simpa [nth, D.i] using he) (Ev.yes rfl (Ev.yes (decide_eq_true hb) (Ev.ret ?_))))⟩
    show (true, [D.bool (decide (c ≥ 1))]) = _
    rw [decide_eq_true (show c ≥ 1 from hc)]
theorem lexCovers_plain (s : List UInt8) : Ev (fun n => law08_LexCovers n (.str s)) fun r => r = (true, [.bool true]) := by
  refine Ev.eq (fun n => law08_LexCovers_eq n s) (Ev.bindC awake08 ?_)
  intro _ _ h; cases h; refine ⟨rfl, Ev.yes rfl (Ev.no rfl (Ev.test (fun h => ?_) fun h => ?_))⟩
  · have h : (s.length : Int) > 400 := of_decide_eq_true h
    exact Ev.yes (and_tt rfl (decide_eq_true (by omega))) (covTail (s := (s.drop 0).take 400) (by simp; omega))
  · have h : ¬ (s.length : Int) > 400 := of_decide_eq_false h
    exact covTail (by omega)
end Go.Proofs.Ytmklmhdgnokcmaa
