/- Words: the program's and the reference's single words are alike. -/
import Derived.Test.YtmklmhdgnokcmaaWdA
namespace Go.Proofs.Ytmklmhdgnokcmaa
open Go.AE
set_option linter.unusedVariables false
def has (sub : List UInt8) : List UInt8 → Bool
  | [] => sub.isEmpty
  | b :: l => sub.isPrefixOf (b :: l) || has sub l
theorem idx_has (sub : List UInt8) : ∀ (s : List UInt8) (j : Nat), decide (0 ≤ idxStr sub s j) = has sub s
  | [], j => by
    unfold idxStr has
    cases sub.isEmpty <;> simp
  | b :: l, j => by
    have ih := idx_has sub l (j + 1)
    unfold idxStr has
    cases sub.isPrefixOf (b :: l) with
    | true => simp
    | false => simpa using ih
def signs3 : List (List UInt8) := [[60, 60, 60], [62, 62, 62]]
def signs2 : List (List UInt8) := [[60, 60], [62, 62], [60, 61], [62, 61], [61, 61], [33, 61], [38, 38], [124, 124], [126, 38], [126, 124], [126, 94], [94, 126]]
def signs1 : List (List UInt8) := [[43], [45], [42], [47], [37], [38], [124], [94], [126], [33], [60], [62], [63], [58], [61], [40], [41], [91], [93], [123], [125], [59], [44], [46], [35], [64]]
theorem bool_iff {a b : Bool} (h : a = true ↔ b = true) : a = b := by
  cases a <;> cases b <;> simp_all
theorem long3 (a b c : UInt8) : longB [a, b, c] = signs3.contains [a, b, c] := by
  apply bool_iff
  unfold longB
  rw [idx_has, idx_has]
  simp [has, longS, List.isPrefixOf, signs3]
  intro h
  refine ⟨?_, ?_, ?_⟩ <;> rintro rfl <;> simp at h
theorem long2 (a b : UInt8) : longB [a, b] = signs2.contains [a, b] := by
  apply bool_iff
  unfold longB
  rw [idx_has, idx_has]
  simp [has, longS, List.isPrefixOf, signs2]
  intro h
  refine ⟨?_, ?_⟩ <;> rintro rfl <;> simp at h
theorem one_all : ∀ k : Fin 256, oneB (UInt8.ofFin k) = signs1.contains [UInt8.ofFin k] := by decide +kernel
theorem one1 (a : UInt8) : oneB a = signs1.contains [a] := byByte (P := fun a => oneB a = signs1.contains [a]) one_all a
theorem rlet_ev (b : UInt8) : Ev (fun n => ref08_letter n (.int .u8 (b.toNat : Int))) fun r => r = (true, [.bool (letB b)]) := by
  refine Ev.eq (fun n => ref08_letter_eq n _) ?_
  unfold letB
  refine Ev.test (fun h1 => Ev.test (fun h2 => ?_) fun h2 => Ev.test (fun h3 => Ev.test (fun h4 => ?_) fun h4 => ?_) fun h3 => ?_) fun h1 => Ev.test (fun h3 => Ev.test (fun h4 => ?_) fun h4 => ?_) fun h3 => ?_
  all_goals (refine Ev.ret ?_; simp only [*, cond_true, cond_false])
theorem rdig_ev (b : UInt8) : Ev (fun n => ref08_digit n (.int .u8 (b.toNat : Int))) fun r => r = (true, [.bool (digB b)]) := by
  refine Ev.eq (fun n => ref08_digit_eq n _) ?_
  unfold digB
  refine Ev.test (fun h1 => ?_) fun h1 => ?_
  all_goals (refine Ev.ret ?_; simp only [*, cond_true, cond_false])
theorem rname_is {s : List UInt8} (hs : s.length ≤ 1048576) (c : Int) : ∀ (m j : Nat), s.length - j = m → j ≤ s.length →
    Ev (fun n => ref08_Word_L0 n (.str s) (.int .u8 c) (.int .i64 (j : Int))) fun r => r = (false, [.str s, .int .u8 c, .int .i64 ((j + spanN p2 (s.drop j) : Nat) : Int)]) := by
  intro m
  induction m with
  | zero =>
    intro j hm hj
    refine Ev.eq (fun n => ref08_Word_L0_eq n _ _ _) (Ev.no (decide_eq_false (by omega)) (Ev.ret ?_))
    rw [List.drop_eq_nil_of_le (by omega)]; rfl
  | succ m ih =>
    intro j hm hj
    have hj2 : j < s.length := by omega
    have hw : IntKind.i64.wrap ((j : Int) + 1) = ((j + 1 : Nat) : Int) := wrap_succ (by omega)
    refine Ev.eq (fun n => ref08_Word_L0_eq n _ _ _) (Ev.yes (decide_eq_true (by omega)) (Ev.yes (in_range hj2) ?_))
    rw [get_str hj2, hw, drop_cons hj2, spanN_cons]
    have nx := ih (j + 1) (by omega) hj2
    rw [show j + 1 + spanN p2 (s.drop (j + 1)) = j + (spanN p2 (s.drop (j + 1)) + 1) by omega] at nx
    refine evCall (rlet_ev _) (Ev.yes rfl ?_)
    unfold p2 at nx ⊢
    cases h1 : letB s[j] with
    | true => exact Ev.yes rfl nx
    | false =>
      refine Ev.no rfl (Ev.yes (in_range hj2) (evCall (rdig_ev _) (Ev.yes rfl ?_)))
      cases h2 : digB s[j] with
      | true => exact Ev.yes rfl nx
      | false => exact Ev.no rfl (Ev.ret rfl)
theorem rnum3_is {s : List UInt8} (hs : s.length ≤ 1048576) : ∀ (m j : Nat), s.length - j = m → j ≤ s.length →
    Ev (fun n => ref08_Word_L2 n (.str s) (.int .i64 (j : Int))) fun r => r = (false, [.str s, .int .i64 ((j + spanN p3 (s.drop j) : Nat) : Int)]) := by
  intro m
  induction m with
  | zero =>
    intro j hm hj
    refine Ev.eq (fun n => ref08_Word_L2_eq n _ _) (Ev.no (decide_eq_false (by omega)) (Ev.ret ?_))
    rw [List.drop_eq_nil_of_le (by omega)]; rfl
  | succ m ih =>
    intro j hm hj
    have hj2 : j < s.length := by omega
    have hw : IntKind.i64.wrap ((j : Int) + 1) = ((j + 1 : Nat) : Int) := wrap_succ (by omega)
    refine Ev.eq (fun n => ref08_Word_L2_eq n _ _) (Ev.yes (decide_eq_true (by omega)) (Ev.yes (in_range hj2) ?_))
    rw [get_str hj2, hw, drop_cons hj2, spanN_cons]
    have nx := ih (j + 1) (by omega) hj2
    rw [show j + 1 + spanN p3 (s.drop (j + 1)) = j + (spanN p3 (s.drop (j + 1)) + 1) by omega] at nx
    refine evCall (rdig_ev _) (Ev.yes rfl ?_)
    unfold p3 at nx ⊢
    cases h1 : digB s[j] with
    | true => exact Ev.yes rfl nx
    | false =>
      refine Ev.no rfl (Ev.yes (in_range hj2) ?_)
      cases h2 : ((s[j].toNat : Int) == 95) with
      | true => exact Ev.yes rfl nx
      | false => exact Ev.no rfl (Ev.ret rfl)
theorem rnum4_is {s : List UInt8} (hs : s.length ≤ 1048576) : ∀ (m j : Nat), s.length - j = m → j ≤ s.length →
    Ev (fun n => ref08_Word_L4 n (.str s) (.int .i64 (j : Int))) fun r => r = (false, [.str s, .int .i64 ((j + spanN p4 (s.drop j) : Nat) : Int)]) := by
  intro m
  induction m with
  | zero =>
    intro j hm hj
    refine Ev.eq (fun n => ref08_Word_L4_eq n _ _) (Ev.no (decide_eq_false (by omega)) (Ev.ret ?_))
    rw [List.drop_eq_nil_of_le (by omega)]; rfl
  | succ m ih =>
    intro j hm hj
    have hj2 : j < s.length := by omega
    have hw : IntKind.i64.wrap ((j : Int) + 1) = ((j + 1 : Nat) : Int) := wrap_succ (by omega)
    refine Ev.eq (fun n => ref08_Word_L4_eq n _ _) (Ev.yes (decide_eq_true (by omega)) (Ev.yes (in_range hj2) ?_))
    rw [get_str hj2, hw, drop_cons hj2, spanN_cons]
    have nx := ih (j + 1) (by omega) hj2
    rw [show j + 1 + spanN p4 (s.drop (j + 1)) = j + (spanN p4 (s.drop (j + 1)) + 1) by omega] at nx
    refine evCall (rdig_ev _) (Ev.yes rfl ?_)
    unfold p4 at nx ⊢
    cases h1 : digB s[j] with
    | true => exact Ev.yes rfl nx
    | false =>
      refine Ev.no rfl (Ev.yes (in_range hj2) (evCall (rlet_ev _) (Ev.yes rfl ?_)))
      cases h2 : letB s[j] with
      | true => exact Ev.yes rfl nx
      | false => exact Ev.no rfl (Ev.ret rfl)
/-- One of some texts is what s begins with. -/
theorem rlist_is {s : List UInt8} (hs : s.length ≤ 1048576) {k : Nat} (l : List (List UInt8)) (hl : l.length ≤ 100) : ∀ (m j : Nat), l.length - j = m → j ≤ l.length →
    Ev (fun n => ref08_Word_L8 n (.str s) (.int .i64 (k : Int)) (.int .i64 (j : Int)) (.lst 1 (l.map D.str))) fun r => ((decide (k ≤ s.length) && (l.drop j).contains (s.take k)) = true ∧ r = (true, [.int .i64 3, .int .i64 (k : Int), .int .i64 0])) ∨ ((decide (k ≤ s.length) && (l.drop j).contains (s.take k)) = false ∧ ∃ j' : Int, r = (false, [.str s, .int .i64 (k : Int), .int .i64 j', .lst 1 (l.map D.str)])) := by
  intro m
  induction m with
  | zero =>
    intro j hm hj
    refine Ev.eq (fun n => ref08_Word_L8_eq n _ _ _ _) (Ev.no (decide_eq_false (by rw [List.length_map]; omega)) (Ev.ret (.inr ⟨?_, _, rfl⟩)))
    rw [List.drop_eq_nil_of_le (by omega)]; simp
  | succ m ih =>
    intro j hm hj
    have hj2 : j < l.length := by omega
    have hj3 : j < (l.map D.str).length := by rw [List.length_map]; exact hj2
    have hw : IntKind.i64.wrap ((j : Int) + 1) = ((j + 1 : Nat) : Int) := wrap_succ (by omega)
    have nx := ih (j + 1) (by omega) hj2
    have ht : (s.drop 0).take (((k : Nat) : Int).toNat - 0) = s.take k := by rw [List.drop_zero, Int.toNat_natCast, Nat.sub_zero]
    refine Ev.eq (fun n => ref08_Word_L8_eq n _ _ _ _) (Ev.yes (decide_eq_true (by omega)) ?_)
    rw [get_nat hj3, List.getElem_map, hw, ht, drop_cons hj2]
    by_cases hk : k ≤ s.length
    · refine Ev.yes (decide_eq_true (by omega)) (Ev.yes (and_tt (and_tt rfl (decide_eq_true (by omega))) (decide_eq_true (by omega))) (Ev.yes (in_range hj3) (Ev.yes rfl ?_)))
      rw [decide_eq_true hk] at nx ⊢
      show Ev (fun n => bif (s.take k == l[j]) then _ else _) _
      cases he : s.take k == l[j] with
      | true =>
        refine Ev.yes rfl (Ev.ret (.inl ⟨?_, rfl⟩))
        rw [Bool.true_and, List.contains_cons, he]
        rfl
      | false =>
        refine Ev.no rfl (nx.mono fun r hr => ?_)
        have hne : (s.take k == l[j]) = false := he
        have hc : (l[j] :: l.drop (j + 1)).contains (s.take k) = (l.drop (j + 1)).contains (s.take k) := by
          rw [List.contains_cons, hne, Bool.false_or]
        rw [hc]; exact hr
    · refine Ev.no (decide_eq_false (by omega)) (nx.mono fun r hr => ?_)
      rw [decide_eq_false hk] at hr ⊢
      exact hr
/-- Kind, length and error of the word with which a text begins. -/
def wordF (c : UInt8) (t : List UInt8) : Int × Nat × Int :=
  bif isNm c then (bif decide (((1 + spanN p2 t : Nat) : Int) > 40) then (0, 0, 9) else bif (c :: t).take (1 + spanN p2 t) == [36] then (0, 0, 9) else (1, 1 + spanN p2 t, 0))
  else bif isNu c then (match parseF ((c :: t).take (numF (c :: t))) with | .bad _ => (0, 0, 7) | .ok _ _ _ _ => (2, numF (c :: t), 0))
  else bif ((signF (c :: t) : Int) == 0) then (0, 0, 7) else (3, signF (c :: t), 0)
def wordR (x : Int × Nat × Int) : List D := [.int .i64 x.1, .int .i64 (x.2.1 : Int), .int .i64 x.2.2]
theorem parse_ne {s : List UInt8} {e : Nat} (h : parseF s = .bad e) : e ≠ 0 := by
  have := parseF_ok s
  rw [h] at this
  exact this
theorem oword_is {c : UInt8} {t : List UInt8} (hs : (c :: t).length ≤ 1048576) : Ev (fun n => lex_word n (.str (c :: t))) fun r => r = (true, wordR (wordF c t)) := by
  unfold wordF
  cases hc : isNm c with
  | true =>
    refine (word_name hs hc).mono fun r hr => ?_
    rw [hr]
    unfold nameR
    simp only [cond_true]
    cases decide (((1 + spanN p2 t : Nat) : Int) > 40) with
    | true => rfl
    | false =>
      simp only [cond_false]
      cases (c :: t).take (1 + spanN p2 t) == [36] <;> rfl
  | false =>
    simp only [cond_false]
    cases hn : isNu c with
    | true =>
      simp only [cond_true]
      have hle := numF_le (c :: t)
      have hp := parse_is (s := (c :: t).take (numF (c :: t))) (by rw [List.length_take]; omega)
      cases hf : parseF ((c :: t).take (numF (c :: t))) with
      | bad e =>
        rw [hf] at hp
        have he := parse_ne hf
        refine (word_num (x := .agg [.int .i64 0, .lst 1 [], .bool false, .bool false]) (e := (e : Int)) hs hc hn hle hp ⟨_, _, _, _, rfl⟩).mono fun r hr => ?_
        have : ((e : Int) != 0) = true := by simp; omega
        rw [hr, this]; rfl
      | ok w n sg sz =>
        rw [hf] at hp
        refine (word_num (e := 0) hs hc hn hle hp ⟨_, _, _, _, rfl⟩).mono fun r hr => ?_
        rw [hr]; rfl
    | false =>
      refine (word_sign hs hc hn).mono fun r hr => ?_
      rw [hr]
      simp only [cond_false]
      cases ((signF (c :: t) : Int) == 0) <;> rfl
theorem sign_cases (c : UInt8) (t : List UInt8) : signF (c :: t) = bif (decide (3 ≤ (c :: t).length) && signs3.contains ((c :: t).take 3)) then 3 else bif (decide (2 ≤ (c :: t).length) && signs2.contains ((c :: t).take 2)) then 2 else bif signs1.contains [c] then 1 else 0 := by
  rw [← one1]
  cases t with
  | nil => show (bif oneB c then 1 else 0) = _; cases oneB c <;> rfl
  | cons a t =>
    cases t with
    | nil =>
      have e : signDown [c, a] (min 3 [c, a].length) = (bif longB [c, a] then 2 else 0) := rfl
      unfold signF
      rw [e, long2]
      show _ = bif (false && _) then 3 else bif (true && signs2.contains [c, a]) then 2 else bif oneB c then 1 else 0
      cases signs2.contains [c, a] with
      | true => rfl
      | false => show (bif oneB c then 1 else 0) = _; cases oneB c <;> rfl
    | cons b t =>
      have hm : min 3 (c :: a :: b :: t).length = 3 := by simp only [List.length_cons]; omega
      have e : signDown (c :: a :: b :: t) 3 = (bif longB [c, a, b] then 3 else (bif longB [c, a] then 2 else 0)) := rfl
      unfold signF
      rw [hm, e, long3, long2, decide_eq_true (show 3 ≤ (c :: a :: b :: t).length by simp only [List.length_cons]; omega), decide_eq_true (show 2 ≤ (c :: a :: b :: t).length by simp only [List.length_cons]; omega)]
      show _ = bif (true && signs3.contains [c, a, b]) then 3 else bif (true && signs2.contains [c, a]) then 2 else bif oneB c then 1 else 0
      cases signs3.contains [c, a, b] with
      | true => rfl
      | false =>
        cases signs2.contains [c, a] with
        | true => rfl
        | false => show (bif oneB c then 1 else 0) = _; cases oneB c <;> rfl
theorem rsign_is {c : UInt8} {t : List UInt8} (hs : (c :: t).length ≤ 1048576) : Ev (fun n => ref08_Word_L6 n (.str (c :: t)) (.int .i64 3)) fun r => (signF (c :: t) ≠ 0 ∧ r = (true, [.int .i64 3, .int .i64 (signF (c :: t) : Int), .int .i64 0])) ∨ (signF (c :: t) = 0 ∧ ∃ j' : Int, r = (false, [.str (c :: t), .int .i64 j'])) := by
  rw [sign_cases]
  have sg : ∀ (k : Int) (l : List (List UInt8)), Ev (fun n => ref08_signs n (.int .i64 k)) (fun r => r = (true, [.lst 1 (l.map D.str)])) → Ev (fun n => ref08_signs n (.int .i64 k)) (fun r => r = (true, [.lst 1 (l.map D.str)])) := fun _ _ h => h
  have s3 : Ev (fun n => ref08_signs n (.int .i64 3)) (fun r => r = (true, [.lst 1 (signs3.map D.str)])) := Ev.eq (fun n => ref08_signs_eq n _) (Ev.yes rfl (Ev.ret rfl))
  have s2 : Ev (fun n => ref08_signs n (.int .i64 2)) (fun r => r = (true, [.lst 1 (signs2.map D.str)])) := Ev.eq (fun n => ref08_signs_eq n _) (Ev.no rfl (Ev.yes rfl (Ev.ret rfl)))
  have s1 : Ev (fun n => ref08_signs n (.int .i64 1)) (fun r => r = (true, [.lst 1 (signs1.map D.str)])) := Ev.eq (fun n => ref08_signs_eq n _) (Ev.no rfl (Ev.no rfl (Ev.ret rfl)))
  refine Ev.eq (fun n => ref08_Word_L6_eq n _ _) (Ev.yes rfl (evCall s3 (Ev.yes rfl (Ev.bindL (rlist_is hs (k := 3) signs3 (by decide) 2 0 rfl (Nat.zero_le _)) (fun ds h => ?_) fun ds h => ?_))))
  · rcases h with ⟨h1, h⟩ | ⟨_, _, h⟩
    · rw [List.drop_zero] at h1
      rw [h1]
      exact .inl ⟨(by decide : (3 : Nat) ≠ 0), h⟩
    · cases h
  rcases h with ⟨_, h⟩ | ⟨h3, _, h⟩
  · cases h
  rw [List.drop_zero] at h3
  rw [h3]
  cases h
  refine Ev.yes rfl (Ev.eq (fun n => ref08_Word_L6_eq n _ _) (Ev.yes rfl (evCall s2 (Ev.yes rfl (Ev.bindL (rlist_is hs (k := 2) signs2 (by decide) 12 0 rfl (Nat.zero_le _)) (fun ds h => ?_) fun ds h => ?_)))))
  · rcases h with ⟨h1, h⟩ | ⟨_, _, h⟩
    · rw [List.drop_zero] at h1
      rw [h1]
      exact .inl ⟨(by decide : (2 : Nat) ≠ 0), h⟩
    · cases h
  rcases h with ⟨_, h⟩ | ⟨h2, _, h⟩
  · cases h
  rw [List.drop_zero] at h2
  rw [h2]
  cases h
  refine Ev.yes rfl (Ev.eq (fun n => ref08_Word_L6_eq n _ _) (Ev.yes rfl (evCall s1 (Ev.yes rfl (Ev.bindL (rlist_is hs (k := 1) signs1 (by decide) 26 0 rfl (Nat.zero_le _)) (fun ds h => ?_) fun ds h => ?_)))))
  · rcases h with ⟨h1, h⟩ | ⟨_, _, h⟩
    · rw [List.drop_zero] at h1
      have h1' : signs1.contains [c] = true := by
        have := (Bool.and_eq_true_iff.1 h1).2
        exact this
      rw [h1']
      exact .inl ⟨(by decide : (1 : Nat) ≠ 0), h⟩
    · cases h
  rcases h with ⟨_, h⟩ | ⟨h1, _, h⟩
  · cases h
  rw [List.drop_zero, decide_eq_true (show 1 ≤ (c :: t).length by simp)] at h1
  have h1' : signs1.contains [c] = false := h1
  rw [h1']
  cases h
  exact Ev.yes rfl (Ev.eq (fun n => ref08_Word_L6_eq n _ _) (Ev.no rfl (Ev.ret (.inr ⟨rfl, _, rfl⟩))))
theorem rword_is {c : UInt8} {t : List UInt8} (hs : (c :: t).length ≤ 100000) : Ev (fun n => ref08_Word n (.str (c :: t))) fun r => r = (true, wordR (wordF c t)) := by
  have hs' : (c :: t).length ≤ 1048576 := by omega
  have q36 : ((c.toNat : Int) == 36) = (c == 36) := byte_eq c 36
  have q39 : ((c.toNat : Int) == 39) = (c == 39) := byte_eq c 39
  have j1t : isNm c = true → Ev (fun n => ref08_Word_j1 n true (c :: t)) fun r => r = (true, wordR (wordF c t)) := by
    intro hc
    have hle := spanN_le p2 t
    have hl := rname_is hs' (c.toNat : Int) ((c :: t).length - 1) 1 rfl (by simp)
    rw [List.drop_succ_cons, List.drop_zero] at hl
    refine evDfn (fun n => ref08_Word_j1_def n _ _) (Ev.yes rfl (evLoop hl (Ev.yes rfl ?_)))
    unfold wordF
    rw [hc]
    simp only [cond_true]
    show Ev (fun n => bif (decide (((1 + spanN p2 t : Nat) : Int) > 40)) then _ else bif ((c.toNat : Int) == 36) then (bif (((1 + spanN p2 t : Nat) : Int) == 1) then _ else _) else _) _
    cases h40 : decide (((1 + spanN p2 t : Nat) : Int) > 40) with
    | true => exact Ev.yes rfl (Ev.ret rfl)
    | false =>
      refine Ev.no rfl ?_
      have e : (c :: t).take (1 + spanN p2 t) = c :: t.take (spanN p2 t) := by rw [Nat.add_comm, List.take_succ_cons]
      rw [e, q36]
      simp only [cond_false]
      cases h36 : c == 36 with
      | false =>
        have : (c :: t.take (spanN p2 t) == [36]) = false := by
          show (c == 36 && _) = false
          rw [h36]; rfl
        rw [this]
        exact Ev.no rfl (Ev.ret rfl)
      | true =>
        refine Ev.yes rfl ?_
        cases hz : spanN p2 t with
        | zero =>
          have : (c :: t.take 0 == [36]) = true := by
            show (c == 36 && _) = true
            rw [h36]; rfl
          rw [this]
          exact Ev.yes rfl (Ev.ret rfl)
        | succ k =>
          have hlt : (t.take (k + 1)).length = k + 1 := by rw [List.length_take]; omega
          have : (c :: t.take (k + 1) == [36]) = false := by
            show (c == 36 && _) = false
            cases hq : t.take (k + 1) with
            | nil => rw [hq] at hlt; cases hlt
            | cons x y => simp
          rw [this]
          exact Ev.no (by simp; omega) (Ev.ret rfl)
  have num : isNm c = false → isNu c = true → Ev (fun n => ref08_Word_j2 n true (c :: t)) fun r => r = (true, wordR (wordF c t)) := by
    intro hc hn
    have hle := numF_le (c :: t)
    have h3 := rnum3_is hs' (c :: t).length 0 rfl (Nat.zero_le _)
    rw [List.drop_zero, Nat.zero_add] at h3
    have hk := spanN_le p3 (c :: t)
    refine evDfn (fun n => ref08_Word_j2_def n _ _) (Ev.yes rfl (evLoop h3 (Ev.yes rfl ?_)))
    have fin : ∀ (k : Nat), k ≤ (c :: t).length → numF (c :: t) = k → Ev (fun n => AE.bindC (ref02_Parse n (.str (((c :: t).drop 0).take (((k : Nat) : Int).toNat - 0)))) fun r3 => bif chk ref02_Parse.osk r3 then (bif ((nth r3 1).i != (0 : Int)) then (some (true, [(.int .i64 (0 : Int)), (.int .i64 (0 : Int)), (.int .i64 (7 : Int))])) else (some (true, [(.int .i64 (2 : Int)), (.int .i64 (k : Int)), (.int .i64 (0 : Int))]))) else none) fun r => r = (true, wordR (wordF c t)) := by
      intro k hkl hk2
      unfold wordF
      rw [hc, hn, hk2, List.drop_zero, Int.toNat_natCast, Nat.sub_zero]
      have hp := rparse_is (s := (c :: t).take k) (by rw [List.length_take]; omega)
      simp only [cond_true, cond_false]
      cases hf : parseF ((c :: t).take k) with
      | bad e =>
        rw [hf] at hp
        have he := parse_ne hf
        refine evCall hp (Ev.yes rfl (Ev.yes ?_ (Ev.ret rfl)))
        show ((e : Int) != 0) = true
        simp; omega
      | ok w n sg sz =>
        rw [hf] at hp
        exact evCall hp (Ev.yes rfl (Ev.no rfl (Ev.ret rfl)))
    have j3f : (∀ b u, (c :: t).drop (spanN p3 (c :: t)) = b :: u → ((b.toNat : Int) == 39) = false) → Ev (fun n => ref08_Word_j3 n false [.str (c :: t), .int .i64 (spanN p3 (c :: t) : Int)]) fun r => r = (true, wordR (wordF c t)) := by
      intro hq
      refine evDfn (fun n => ref08_Word_j3_def n _ _) (Ev.no rfl (Ev.yes (and_tt (and_tt rfl (decide_eq_true (show (0 : Int) ≤ (spanN p3 (c :: t) : Int) by omega))) (decide_eq_true (show (spanN p3 (c :: t) : Int) ≤ ((c :: t).length : Int) by omega))) (fin _ hk ?_)))
      unfold numF
      cases hd : (c :: t).drop (spanN p3 (c :: t)) with
      | nil => rfl
      | cons b u => simp only [hq b u hd, cond_false]
    show Ev (fun n => bif (decide ((spanN p3 (c :: t) : Int) < ((c :: t).length : Int))) then (bif (decide ((0 : Int) ≤ (spanN p3 (c :: t) : Int)) && decide ((spanN p3 (c :: t) : Int) < ((c :: t).length : Int))) then ref08_Word_j3 n ((((c :: t)[((spanN p3 (c :: t) : Nat) : Int).toNat]?.getD 0).toNat : Int) == 39) [.str (c :: t), .int .i64 (spanN p3 (c :: t) : Int)] else none) else ref08_Word_j3 n false [.str (c :: t), .int .i64 (spanN p3 (c :: t) : Int)]) _
    by_cases hlt : spanN p3 (c :: t) < (c :: t).length
    · refine Ev.yes (decide_eq_true (by omega)) (Ev.yes (in_range hlt) ?_)
      rw [get_str hlt]
      have hd := drop_cons hlt
      cases hq : (((c :: t)[spanN p3 (c :: t)].toNat : Int) == 39) with
      | false =>
        refine j3f fun b u h => ?_
        rw [hd] at h
        cases h
        exact hq
      | true =>
        have hw : IntKind.i64.wrap ((spanN p3 (c :: t) : Int) + 1) = ((spanN p3 (c :: t) + 1 : Nat) : Int) := wrap_succ (by omega)
        have h4 := rnum4_is hs' ((c :: t).length - (spanN p3 (c :: t) + 1)) (spanN p3 (c :: t) + 1) rfl hlt
        have h4l := spanN_le p4 ((c :: t).drop (spanN p3 (c :: t) + 1))
        rw [List.length_drop] at h4l
        refine evDfn (fun n => ref08_Word_j3_def n _ _) (Ev.yes rfl ?_)
        show Ev (fun n => AE.bindL (ref08_Word_L4 n (.str (c :: t)) (.int .i64 (IntKind.i64.wrap ((spanN p3 (c :: t) : Int) + 1)))) fun r2 => _) _
        rw [hw]
        refine evLoop h4 (Ev.yes rfl (Ev.yes (and_tt (and_tt rfl (decide_eq_true ?_)) (decide_eq_true ?_)) (fin _ (by omega) ?_)))
        · show (0 : Int) ≤ ((spanN p3 (c :: t) + 1 + spanN p4 ((c :: t).drop (spanN p3 (c :: t) + 1)) : Nat) : Int); omega
        · show ((spanN p3 (c :: t) + 1 + spanN p4 ((c :: t).drop (spanN p3 (c :: t) + 1)) : Nat) : Int) ≤ ((c :: t).length : Int); omega
        · unfold numF
          rw [hd]
          simp only [hq, cond_true]
          omega
    · refine Ev.no (decide_eq_false (by omega)) (j3f fun b u h => ?_)
      rw [List.drop_eq_nil_of_le (by omega)] at h
      cases h
  have sgn : isNm c = false → isNu c = false → Ev (fun n => ref08_Word_j2 n false (c :: t)) fun r => r = (true, wordR (wordF c t)) := by
    intro hc hn
    unfold wordF
    rw [hc, hn]
    refine evDfn (fun n => ref08_Word_j2_def n _ _) (Ev.no rfl (Ev.bindL (rsign_is hs') (fun ds h => ?_) fun ds h => ?_))
    · rcases h with ⟨h1, h⟩ | ⟨_, _, h⟩
      · rw [h]
        have : ((signF (c :: t) : Int) == 0) = false := by simp; omega
        simp only [cond_false, this]; rfl
      · cases h
    · rcases h with ⟨_, h⟩ | ⟨h1, _, h⟩
      · cases h
      · cases h
        rw [h1]
        exact Ev.yes rfl (Ev.ret rfl)
  refine Ev.eq (fun n => ref08_Word_eq n _) (Ev.yes (cons_in c t) (evCall (rlet_ev c) (Ev.yes rfl ?_)))
  simp only [List.getElem?_cons_zero, Option.getD_some]
  cases hl : letB c with
  | true => exact Ev.yes rfl (j1t (by unfold isNm; rw [hl]; rfl))
  | false =>
    refine Ev.no rfl ?_
    cases h36 : ((c.toNat : Int) == 36) with
    | true => exact j1t (by unfold isNm; rw [hl, h36]; rfl)
    | false =>
      have hc : isNm c = false := by unfold isNm; rw [hl, h36]; rfl
      refine evDfn (fun n => ref08_Word_j1_def n _ _) (Ev.no rfl (evCall (rdig_ev c) (Ev.yes rfl ?_)))
      simp only [List.getElem?_cons_zero, Option.getD_some]
      cases hd : digB c with
      | true => exact Ev.yes rfl (num hc (by unfold isNu; rw [hd]; rfl))
      | false =>
        refine Ev.no rfl ?_
        cases h39 : ((c.toNat : Int) == 39) with
        | true => exact num hc (by unfold isNu; rw [hd, h39]; rfl)
        | false => exact sgn hc (by unfold isNu; rw [hd, h39]; rfl)
end Go.Proofs.Ytmklmhdgnokcmaa
