/- Words: a word is known by its own bytes. -/
import Derived.Test.YtalibicpmfbieaaGreatDoorLexSign2
namespace Go.Proofs.YtalibicpmfbieaaGreatDoor
open Go.AE
set_option linter.unusedVariables false
set_option linter.unusedSimpArgs false
def isNm (c : UInt8) : Bool := bif letB c then true else ((c.toNat : Int) == 36)
def isNu (c : UInt8) : Bool := bif digB c then true else ((c.toNat : Int) == 39)
def nameR (s : List UInt8) (n : Nat) : List D := bif decide ((n : Int) > 40) then [.int .i64 0, .int .i64 0, .int .i64 9] else (bif s.take n == [36] then [.int .i64 0, .int .i64 0, .int .i64 9] else [.int .i64 1, .int .i64 (n : Int), .int .i64 0])
theorem cons_ok (c : UInt8) (t : List UInt8) : (true && decide ((0 : Int) < ((c :: t).length : Int))) = true := and_tt rfl (decide_eq_true (by simp only [List.length_cons]; omega))
theorem word_name {c : UInt8} {t : List UInt8} (hs : (c :: t).length ≤ 1048576) (hc : isNm c = true) : Ev (fun n => lex_word n (.str (c :: t))) fun r => r = (true, nameR (c :: t) (1 + spanN p2 t)) := by
  have hle := spanN_le p2 t
  have htl : t.length ≤ 1048576 := by simp only [List.length_cons] at hs; omega
  have hd : ((c :: t).drop 1).take (((c :: t).length : Int).toNat - 1) = t := by
    show t.take _ = t
    rw [List.take_of_length_le (by simp only [List.length_cons]; omega)]
  have name : Ev (fun n => bif (true && decide ((1 : Int) ≤ ((c :: t).length : Int)) && decide (((c :: t).length : Int) ≤ ((c :: t).length : Int))) then (AE.bindC (lex_span_2 n (.str (((c :: t).drop 1).take (((c :: t).length : Int).toNat - 1)))) fun r2 => bif chk lex_span_2.osk r2 then (bif (decide ((IntKind.i64.wrap ((1 : Int) + (nth r2 0).i)) > (40 : Int))) then (some (true, [(.int .i64 (0 : Int)), (.int .i64 (0 : Int)), (.int .i64 (9 : Int))])) else (bif (true && decide ((0 : Int) ≤ (IntKind.i64.wrap ((1 : Int) + (nth r2 0).i))) && decide ((IntKind.i64.wrap ((1 : Int) + (nth r2 0).i)) ≤ ((c :: t).length : Int))) then (bif ((((c :: t).drop 0).take ((IntKind.i64.wrap ((1 : Int) + (nth r2 0).i)).toNat - 0)) == ([36] : List UInt8)) then (some (true, [(.int .i64 (0 : Int)), (.int .i64 (0 : Int)), (.int .i64 (9 : Int))])) else (some (true, [(.int .i64 (1 : Int)), (.int .i64 (IntKind.i64.wrap ((1 : Int) + (nth r2 0).i))), (.int .i64 (0 : Int))]))) else none)) else none) else none) fun r => r = (true, nameR (c :: t) (1 + spanN p2 t)) := by
    rw [hd]
    refine Ev.yes (slice_ok (by simp)) (Ev.bindC (span_2_is htl) ?_)
    intro _ _ h; cases h
    have hw : IntKind.i64.wrap ((1 : Int) + ((spanN p2 t : Nat) : Int)) = ((1 + spanN p2 t : Nat) : Int) := by rw [wrap_id (by omega) (by omega)]; omega
    simp only [nth, D.i, List.getD_cons_zero, hw, Int.toNat_natCast, List.drop_zero, Nat.sub_zero]
    refine ⟨trivial, Ev.yes rfl ?_⟩
    unfold nameR
    cases h1 : decide (((1 + spanN p2 t : Nat) : Int) > 40) with
    | true => exact Ev.yes rfl (Ev.ret rfl)
    | false =>
      refine Ev.no rfl (Ev.yes (and_tt (and_tt rfl (decide_eq_true (by omega))) (decide_eq_true (by simp only [List.length_cons]; omega))) ?_)
      cases h2 : (c :: t).take (1 + spanN p2 t) == [36] with
      | true => exact Ev.yes rfl (Ev.ret rfl)
      | false => exact Ev.no rfl (Ev.ret rfl)
  refine Ev.eq (fun n => lex_word_eq n (c :: t)) (Ev.yes (cons_ok c t) (Ev.bindC (letX_ev c) ?_))
  intro _ _ h; cases h
  refine ⟨rfl, Ev.yes rfl (Ev.test (fun _ => name) fun h1 => Ev.test (fun _ => name) fun h2 => ?_)⟩
  exfalso
  have h1 : letB c = false := h1
  have h2 : ((c.toNat : Int) == 36) = false := h2
  unfold isNm at hc
  rw [h1, h2] at hc
  cases hc
theorem word_num {c : UInt8} {t : List UInt8} (hs : (c :: t).length ≤ 1048576) (hc : isNm c = false) (hn : isNu c = true) (hle : numF (c :: t) ≤ (c :: t).length) {x : D} {e : Int} (hp : Ev (fun n => lit_Parse n (.str ((c :: t).take (numF (c :: t))))) fun r => r = (true, [x, .int .i64 e])) (hx : ∃ w ws b1 b2, x = .agg [.int .i64 w, .lst 1 ws, .bool b1, .bool b2]) :
    Ev (fun n => lex_word n (.str (c :: t))) fun r => r = (true, bif (e != 0) then [.int .i64 0, .int .i64 0, .int .i64 7] else [.int .i64 2, .int .i64 (numF (c :: t) : Int), .int .i64 0]) := by
  obtain ⟨w, ws, b1, b2, rfl⟩ := hx
  have num : Ev (fun n => AE.bindC (lex_number n (.str (c :: t))) fun r3 => bif chk lex_number.osk r3 then (bif (true && decide ((0 : Int) ≤ (nth r3 0).i) && decide ((nth r3 0).i ≤ ((c :: t).length : Int))) then (AE.bindC (lit_Parse n (.str (((c :: t).drop 0).take ((nth r3 0).i.toNat - 0)))) fun r4 => bif chk lit_Parse.osk r4 then (bif ((nth r4 1).i != (0 : Int)) then (some (true, [(.int .i64 (0 : Int)), (.int .i64 (0 : Int)), (.int .i64 (7 : Int))])) else (some (true, [(.int .i64 (2 : Int)), (.int .i64 (nth r3 0).i), (.int .i64 (0 : Int))]))) else none) else none) else none) fun r => r = (true, bif (e != 0) then [.int .i64 0, .int .i64 0, .int .i64 7] else [.int .i64 2, .int .i64 (numF (c :: t) : Int), .int .i64 0]) := by
    refine Ev.bindC (number_is hs) ?_
    generalize numF (c :: t) = k at hp hle
    intro _ _ h; cases h
    simp only [nth, D.i, List.getD_cons_zero, Int.toNat_natCast, List.drop_zero, Nat.sub_zero]
    refine ⟨trivial, Ev.yes rfl (Ev.yes (and_tt (and_tt rfl (decide_eq_true (by omega))) (decide_eq_true (by omega))) (Ev.bindC hp ?_))⟩
    intro _ _ h; cases h
    refine ⟨rfl, Ev.yes rfl ?_⟩
    cases he : e != 0 with
    | true => exact Ev.yes he (Ev.ret rfl)
    | false => exact Ev.no he (Ev.ret rfl)
  unfold isNm at hc
  have h1 : letB c = false := by cases h : letB c with | false => rfl | true => rw [h] at hc; cases hc
  have h2 : ((c.toNat : Int) == 36) = false := by rw [h1] at hc; exact hc
  refine Ev.eq (fun n => lex_word_eq n (c :: t)) (Ev.yes (cons_ok c t) (Ev.bindC (letX_ev c) ?_))
  intro _ _ h; cases h
  refine ⟨rfl, Ev.yes rfl (Ev.no h1 (Ev.no h2 (Ev.bindC (digX_ev c) ?_)))⟩
  intro _ _ h; cases h
  refine ⟨rfl, Ev.yes rfl (Ev.test (fun _ => num) fun h3 => Ev.test (fun _ => num) fun h4 => ?_)⟩
  exfalso
  have h3 : digB c = false := h3
  have h4 : ((c.toNat : Int) == 39) = false := h4
  unfold isNu at hn
  rw [h3, h4] at hn
  cases hn
theorem word_sign {c : UInt8} {t : List UInt8} (hs : (c :: t).length ≤ 1048576) (hc : isNm c = false) (hn : isNu c = false) :
    Ev (fun n => lex_word n (.str (c :: t))) fun r => r = (true, bif ((signF (c :: t) : Int) == 0) then [.int .i64 0, .int .i64 0, .int .i64 7] else [.int .i64 3, .int .i64 (signF (c :: t) : Int), .int .i64 0]) := by
  unfold isNm at hc
  have h1 : letB c = false := by cases h : letB c with | false => rfl | true => rw [h] at hc; cases hc
  have h2 : ((c.toNat : Int) == 36) = false := by rw [h1] at hc; exact hc
  unfold isNu at hn
  have h3 : digB c = false := by cases h : digB c with | false => rfl | true => rw [h] at hn; cases hn
  have h4 : ((c.toNat : Int) == 39) = false := by rw [h3] at hn; exact hn
  refine Ev.eq (fun n => lex_word_eq n (c :: t)) (Ev.yes (cons_ok c t) (Ev.bindC (letX_ev c) ?_))
  intro _ _ h; cases h
  refine ⟨rfl, Ev.yes rfl (Ev.no h1 (Ev.no h2 (Ev.bindC (digX_ev c) ?_)))⟩
  intro _ _ h; cases h
  refine ⟨rfl, Ev.yes rfl (Ev.no h3 (Ev.no h4 (Ev.bindC (sign_is hs (by simp)) ?_)))⟩
  intro _ _ h; cases h
  refine ⟨rfl, Ev.yes rfl ?_⟩
  cases h5 : ((signF (c :: t) : Int) == 0) with
  | true => exact Ev.yes h5 (Ev.ret rfl)
  | false => exact Ev.no h5 (Ev.ret rfl)
/-- A word of a kind: read as such wherever a blank or nothing follows. -/
structure Wd (w : List UInt8) (k : Int) : Prop where
  ne : w ≠ []
  nb : ∀ b ∈ w, blankB b = false
  go : ∀ r, Gap r → (w ++ r).length ≤ 1048576 → Ev (fun n => lex_word n (.str (w ++ r))) fun x => x = (true, [.int .i64 k, .int .i64 (w.length : Int), .int .i64 0])
theorem nb_of {p : UInt8 → Bool} (hp : ∀ b, blankB b = true → p b = false) {b : UInt8} (h : p b = true) : blankB b = false := by
  cases hb : blankB b with
  | false => rfl
  | true => rw [hp b hb] at h; cases h
theorem take_spanN (p : UInt8 → Bool) : ∀ (t : List UInt8), ∀ b ∈ t.take (spanN p t), p b = true
  | [] => fun b hb => by simp at hb
  | c :: t => by
    rw [spanN_cons]
    cases hc : p c with
    | false => intro b hb; simp at hb
    | true =>
      intro b hb
      rcases List.mem_cons.1 (show b ∈ c :: t.take (spanN p t) from hb) with rfl | hb
      · exact hc
      · exact take_spanN p t b hb
theorem blank_nm (b : UInt8) (h : blankB b = true) : isNm b = false := by
  rcases blankB_cases h with rfl | rfl | rfl | rfl <;> rfl
theorem blank_q (b : UInt8) (h : blankB b = true) : ((b.toNat : Int) == 39) = false := by
  rcases blankB_cases h with rfl | rfl | rfl | rfl <;> rfl
theorem blank_one (b : UInt8) (h : blankB b = true) : oneB b = false := by
  rcases blankB_cases h with rfl | rfl | rfl | rfl <;> rfl
theorem numF_le (s : List UInt8) : numF s ≤ s.length := by
  unfold numF
  have h1 := spanN_le p3 s
  generalize spanN p3 s = k at h1
  cases hd : s.drop k with
  | nil => exact h1
  | cons b t =>
    have hl : t.length + 1 = s.length - k := by have := congrArg List.length hd; simpa using this.symm
    have h4 := spanN_le p4 t
    cases hq : ((b.toNat : Int) == 39) with
    | false => simp only [hq, cond_false]; exact h1
    | true => simp only [hq, cond_true]; omega
theorem numF_nb (s : List UInt8) : ∀ b ∈ s.take (numF s), blankB b = false := by
  have h0 : ∀ b ∈ s.take (spanN p3 s), blankB b = false := fun b hb => nb_of blank_p3 (take_spanN p3 s b hb)
  unfold numF
  have h1 := spanN_le p3 s
  generalize spanN p3 s = k at h0 h1
  cases hd : s.drop k with
  | nil => exact h0
  | cons b t =>
    cases hq : ((b.toNat : Int) == 39) with
    | false => simp only [hq, cond_false]; exact h0
    | true =>
      simp only [hq, cond_true]
      intro x hx
      rw [← List.take_append_drop k s, hd, List.take_append] at hx
      rcases List.mem_append.1 hx with hx | hx
      · rw [List.take_of_length_le (by simp; omega)] at hx; exact h0 x hx
      · rw [List.length_take, Nat.min_eq_left h1, show k + (1 + spanN p4 t) - k = spanN p4 t + 1 by omega, List.take_succ_cons] at hx
        rcases List.mem_cons.1 hx with rfl | hx
        · exact nb_of (p := fun b => (b.toNat : Int) == 39) blank_q hq
        · exact nb_of blank_p4 (take_spanN p4 t x hx)
theorem Ev.agree {t : Nat → Out} {a b : Bool × List D} (h : Ev t fun r => r = a) (h' : Ev t fun r => r = b) : a = b := by
  obtain ⟨r, ⟨h1, h2⟩, _⟩ := (h.same h').run
  exact h1.symm.trans h2
theorem sign_one_is {a : UInt8} {r0 : List UInt8} (h : signF (a :: r0) = 1) : oneB a = true := by
  have h := signF_one (r := []) h (fun _ _ h => by cases h)
  have e : signF [a] = (bif oneB a then 1 else 0) := rfl
  rw [e] at h
  cases ho : oneB a with
  | true => rfl
  | false => rw [ho] at h; cases h
theorem sign_two_is {a b : UInt8} {r0 : List UInt8} (h : signF (a :: b :: r0) = 2) : longB [a, b] = true := by
  have h := signF_two (r := []) h (fun _ _ h => by cases h)
  cases hl : longB [a, b] with
  | true => rfl
  | false =>
    exfalso
    have e : signDown [a, b] (min 3 [a, b].length) = 0 := by
      show (bif longB [a, b] then 2 else 0) = 0
      rw [hl]; rfl
    unfold signF at h
    rw [e] at h
    have h : (bif oneB a then 1 else 0) = 2 := h
    revert h; cases oneB a <;> decide
theorem sign_three_is {a b c : UInt8} {r0 : List UInt8} (h : signF (a :: b :: c :: r0) = 3) : longB [a, b, c] = true := by
  have h := signF_three (r := []) h
  cases hl : longB [a, b, c] with
  | true => rfl
  | false =>
    exfalso
    have e : signDown [a, b, c] (min 3 [a, b, c].length) = (bif longB [a, b] then 2 else 0) := by
      show (bif longB [a, b, c] then 3 else (bif longB [a, b] then 2 else 0)) = _
      rw [hl]; rfl
    unfold signF at h
    rw [e] at h
    cases h2 : longB [a, b] with
    | true => rw [h2] at h; exact absurd (show 2 = 3 from h) (by decide)
    | false =>
      rw [h2] at h
      have h : (bif oneB a then 1 else 0) = 3 := h
      revert h; cases oneB a <;> decide
theorem longB_nb {w : List UInt8} (h : longB w = true) : ∀ b ∈ w, blankB b = false := fun b hb => by
  cases hx : blankB b with
  | false => rfl
  | true => rw [longB_blank hb hx] at h; cases h
theorem word_stable {c : UInt8} {t : List UInt8} (hs : (c :: t).length ≤ 1048576) {k : Int} {m : Nat} (h : Ev (fun n => lex_word n (.str (c :: t))) fun r => r = (true, [.int .i64 k, .int .i64 (m : Int), .int .i64 0])) :
    1 ≤ m ∧ m ≤ (c :: t).length ∧ Wd ((c :: t).take m) k := by
  have hm : 1 ≤ m ∧ m ≤ (c :: t).length := by
    obtain ⟨r, ⟨h1, k', m', e', h2, h3, h4⟩, _⟩ := (h.same (word_ev hs (by simp))).run
    rw [h1] at h2
    simp only [Prod.mk.injEq, List.cons.injEq, D.int.injEq, true_and, and_true, Int.natCast_inj] at h2
    obtain ⟨_, rfl, rfl⟩ := h2
    exact ⟨h4 rfl, h3⟩
  refine ⟨hm.1, hm.2, ?_⟩
  obtain ⟨hm1, hm2⟩ := hm
  cases hc : isNm c with
  | true =>
    have ha := Ev.agree h (word_name hs hc)
    unfold nameR at ha
    have hq := take_spanN p2 t
    have hql := spanN_le p2 t
    generalize spanN p2 t = q at ha hq hql
    cases h1 : decide (((1 + q : Nat) : Int) > 40) with
    | true => rw [h1] at ha; simp at ha
    | false =>
      rw [h1] at ha
      cases h2 : (c :: t).take (1 + q) == [36] with
      | true => rw [h2] at ha; simp at ha
      | false =>
        rw [h2] at ha
        simp only [cond_false, Prod.mk.injEq, List.cons.injEq, D.int.injEq, true_and, and_true, Int.natCast_inj] at ha
        obtain ⟨rfl, rfl⟩ := ha
        have e : (c :: t).take (1 + q) = c :: t.take q := by rw [Nat.add_comm, List.take_succ_cons]
        rw [e] at h2 ⊢
        have hl : (t.take q).length = q := by rw [List.length_take]; omega
        refine ⟨by simp, fun b hb => ?_, fun r hr hb => ?_⟩
        · rcases List.mem_cons.1 hb with rfl | hb
          · exact nb_of blank_nm hc
          · exact nb_of blank_p2 (hq b hb)
        · refine (word_name (c := c) (t := t.take q ++ r) hb hc).mono fun x hx => ?_
          rw [hx, spanN_app hq, gap_p blank_p2 hr, hl]
          unfold nameR
          have e2 : (c :: (t.take q ++ r)).take (1 + (q + 0)) = c :: t.take q := by
            rw [Nat.add_zero, Nat.add_comm, List.take_succ_cons, List.take_append_of_le_length (by omega), List.take_of_length_le (by omega)]
          rw [e2, h2, Nat.add_zero, h1]
          simp only [cond_false, List.length_cons, hl, Nat.add_comm]
  | false =>
    obtain ⟨w, hw⟩ : ∃ w, (c :: t).take m = c :: w := ⟨t.take (m - 1), by cases m with | zero => omega | succ m => rfl⟩
    have hwl : (c :: w).length = m := by rw [← hw, List.length_take]; omega
    have happ : (c :: w) ++ (c :: t).drop m = c :: t := by rw [← hw, List.take_append_drop]
    rw [hw]
    cases hn : isNu c with
    | true =>
      have hle := numF_le (c :: t)
      obtain ⟨r, hr, hp⟩ := evfix (parse_ev (s := (c :: t).take (numF (c :: t))) (by rw [List.length_take]; omega))
      obtain ⟨w', ws, b1, b2, e, rfl, _⟩ := hr
      have ha := Ev.agree h (word_num hs hc hn hle hp ⟨w', ws, b1, b2, rfl⟩)
      cases he : e != 0 with
      | true => rw [he] at ha; simp at ha
      | false =>
        rw [he] at ha
        simp only [cond_false, Prod.mk.injEq, List.cons.injEq, D.int.injEq, true_and, and_true, Int.natCast_inj] at ha
        obtain ⟨rfl, hmn⟩ := ha
        rw [← hmn, hw] at hp
        refine ⟨by simp, fun b hb => numF_nb (c :: t) b (by rw [← hmn, hw]; exact hb), fun r hr hb => ?_⟩
        have hs2 : numF (c :: w ++ r) = (c :: w).length := numF_stable (r0 := (c :: t).drop m) (by rw [happ, ← hmn, hwl]) hr
        have hs2 : numF (c :: (w ++ r)) = (c :: w).length := hs2
        have htk : (c :: (w ++ r)).take (c :: w).length = c :: w := List.take_left (l₁ := c :: w)
        refine (word_num (c := c) (t := w ++ r) hb hc hn (numF_le _) (by rw [hs2, htk]; exact hp) ⟨w', ws, b1, b2, rfl⟩).mono fun x hx => ?_
        rw [hx, he, hs2]; rfl
    | false =>
      have ha := Ev.agree h (word_sign hs hc hn)
      cases he : ((signF (c :: t) : Int) == 0) with
      | true => rw [he] at ha; simp at ha
      | false =>
        rw [he] at ha
        simp only [cond_false, Prod.mk.injEq, List.cons.injEq, D.int.injEq, true_and, and_true, Int.natCast_inj] at ha
        obtain ⟨rfl, hmn⟩ := ha
        have h3 : m ≤ 3 := by
          have h1 := signDown_one (c :: t) (min 3 (c :: t).length)
          rw [hmn]
          unfold signF
          cases hd : signDown (c :: t) (min 3 (c :: t).length) with
          | zero => cases oneB ((c :: t).headD 0) <;> simp
          | succ k => rw [hd] at h1; simp only; omega
        rw [← happ] at hmn
        generalize (c :: t).drop m = r0 at hmn
        have key : (∀ b ∈ c :: w, blankB b = false) ∧ ∀ r, Gap r → signF (c :: (w ++ r)) = m := by
          cases w with
          | nil =>
            have : m = 1 := hwl.symm
            subst this
            exact ⟨fun b hb => by rw [List.mem_singleton.1 hb]; exact nb_of blank_one (sign_one_is hmn.symm), fun r hr => signF_one hmn.symm hr⟩
          | cons b w =>
            cases w with
            | nil =>
              have : m = 2 := hwl.symm
              subst this
              exact ⟨longB_nb (sign_two_is hmn.symm), fun r hr => signF_two hmn.symm hr⟩
            | cons d w =>
              cases w with
              | nil =>
                have : m = 3 := hwl.symm
                subst this
                exact ⟨longB_nb (sign_three_is hmn.symm), fun r hr => signF_three hmn.symm⟩
              | cons _ _ => simp only [List.length_cons] at hwl; omega
        refine ⟨by simp, key.1, fun r hr hb => ?_⟩
        refine (word_sign (c := c) (t := w ++ r) hb hc hn).mono fun x hx => ?_
        rw [hx, key.2 r hr, hwl]
        have : ((m : Int) == 0) = false := by simp; omega
        rw [this]; rfl
end Go.Proofs.YtalibicpmfbieaaGreatDoor
