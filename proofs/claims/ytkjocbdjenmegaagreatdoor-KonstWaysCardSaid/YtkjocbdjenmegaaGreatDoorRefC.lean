/- The reference's literals: Parse, Text, Int told exactly. -/
import Derived.Test.YtkjocbdjenmegaaGreatDoorRefB
namespace Go.Proofs.YtkjocbdjenmegaaGreatDoor
open Go.AE
set_option linter.unusedVariables false
def Num.ref : Num → List D
  | .bad e => [.agg [.lst 1 [], .bool false, .bool false], iD e]
  | .ok w n sg sz => [.agg [.lst 1 (bitsD w n), .bool sg, .bool sz], iD 0]
theorem find_is {s : List UInt8} (hs : s.length ≤ 1048576) (b1 b2 : Bool) (xs : List D) : Ev (fun n => ref02_Parse_L0 n (.str s) (.int .i64 (-1)) (.int .i64 0) (.bool b1) (.bool b2) (.lst 1 xs)) fun r => ∃ j' : Int, r = (false, [.str s, .int .i64 (match cutQ s with | none => -1 | some (a, _) => (a.length : Int)), .int .i64 j', .bool b1, .bool b2, .lst 1 xs]) := by
  have loop : ∀ (k j : Nat), s.length - j = k → j ≤ s.length →
      Ev (fun n => ref02_Parse_L0 n (.str s) (.int .i64 (-1)) (.int .i64 (j : Int)) (.bool b1) (.bool b2) (.lst 1 xs)) fun r => ∃ j' : Int, r = (false, [.str s, .int .i64 (match cutQ (s.drop j) with | none => -1 | some (a, _) => ((j + a.length : Nat) : Int)), .int .i64 j', .bool b1, .bool b2, .lst 1 xs]) := by
    intro k
    induction k with
    | zero =>
      intro j hk hj
      refine Ev.eq (fun n => ref02_Parse_L0_eq n _ _ _ _ _ _) (Ev.no (decide_eq_false (by omega)) (evDfn (fun n => ref02_Parse_L0_j1_def n _ _ _ _ _ _ _) (Ev.no rfl (Ev.ret ⟨(j : Int), ?_⟩))))
      rw [List.drop_eq_nil_of_le (by omega)]; rfl
    | succ k ih =>
      intro j hk hj
      have hj2 : j < s.length := by omega
      have hw : IntKind.i64.wrap ((j : Int) + 1) = ((j + 1 : Nat) : Int) := wrap_succ (by omega)
      refine Ev.eq (fun n => ref02_Parse_L0_eq n _ _ _ _ _ _) (Ev.yes (decide_eq_true (by omega)) (evDfn (fun n => ref02_Parse_L0_j1_def n _ _ _ _ _ _ _) (Ev.yes rfl (Ev.yes (in_range hj2) ?_))))
      rw [get_strL hj2, hw, drop_cons hj2]
      have hq : cutQ (s[j] :: s.drop (j + 1)) = (bif s[j] == 39 then some ([], s.drop (j + 1)) else (cutQ (s.drop (j + 1))).map fun p => (s[j] :: p.1, p.2)) := rfl
      have hb : ((s[j].toNat : Int) == 39) = (s[j] == 39) := by
        cases h : s[j] == 39 with
        | true =>
          have : s[j] = 39 := eq_of_beq h
          rw [this]; rfl
        | false =>
          have h := beq_eq_false_iff_ne.1 h
          have : s[j].toNat ≠ 39 := fun e => h (UInt8.toNat_inj.1 e)
          simp; omega
      rw [hq, hb]
      cases h : s[j] == 39 with
      | true =>
        refine Ev.yes rfl (Ev.eq (fun n => ref02_Parse_L0_eq n _ _ _ _ _ _) ?_)
        have fin : Ev (fun n => ref02_Parse_L0_j1 n false ((j + 1 : Nat) : Int) s b1 b2 xs (j : Int)) fun r => ∃ j' : Int, r = (false, [.str s, .int .i64 ((j + 0 : Nat) : Int), .int .i64 j', .bool b1, .bool b2, .lst 1 xs]) :=
          evDfn (fun n => ref02_Parse_L0_j1_def n _ _ _ _ _ _ _) (Ev.no rfl (Ev.ret ⟨_, rfl⟩))
        refine Ev.test (fun _ => ?_) fun _ => fin
        rw [decide_eq_false (show ¬ (j : Int) < 0 by omega)]
        exact fin
      | false =>
        refine Ev.no rfl ((ih (j + 1) (by omega) hj2).mono fun r hr => ?_)
        obtain ⟨j', hr⟩ := hr
        refine ⟨j', ?_⟩
        rw [hr]
        cases cutQ (s.drop (j + 1)) with
        | none => rfl
        | some p =>
          show (false, [_, D.int .i64 ((j + 1 + p.1.length : Nat) : Int), _, _, _, _]) = (false, [_, D.int .i64 ((j + (p.1.length + 1) : Nat) : Int), _, _, _, _])
          rw [show j + 1 + p.1.length = j + (p.1.length + 1) by omega]
  refine (loop s.length 0 rfl (Nat.zero_le _)).mono fun r hr => ?_
  obtain ⟨j', hr⟩ := hr
  refine ⟨j', ?_⟩
  rw [hr, List.drop_zero]
  cases cutQ s with
  | none => rfl
  | some p => simp
theorem decV_nil : decV [] = 0 := rfl
def tailN (w : Nat) (sz : Bool) (b : Nat) (sg : Bool) (u : List UInt8) : Num := match u with
  | [] => .bad 6
  | c :: t => match digF b (c :: t) with
    | none => .bad 5
    | some l => bif decide (w < 1) then .bad 2 else bif decide (w > 128) then .bad 2 else .ok w (valB b l % 2 ^ w) sg sz
def tailB (w : Nat) (sz : Bool) (x : Bsd) : Num := match x with
  | .bad e => .bad e
  | .ok t b sg => tailN w sz b sg t
theorem tailF_eq (w : Nat) (sz : Bool) (r : List UInt8) : tailF w sz r = tailB w sz (basedF r) := by
  unfold tailF tailB
  cases basedF r with
  | bad e => rfl
  | ok t b sg => cases t <;> rfl
theorem byte_eq (c k : UInt8) : ((c.toNat : Int) == (k.toNat : Int)) = (c == k) := by
  cases h : c == k with
  | true =>
    have : c = k := eq_of_beq h
    subst this
    simp
  | false =>
    have h := beq_eq_false_iff_ne.1 h
    have : c.toNat ≠ k.toNat := fun e => h (UInt8.toNat_inj.1 e)
    simp; omega
theorem rtail_is {w w0 : Nat} (hw0 : w0 ≤ 4294967296) (hw : (1 ≤ w ∧ w ≤ 128 ∧ w = w0) ∨ (w < 1 ∧ w0 < 1) ∨ (w > 128 ∧ w0 > 128)) {a r : List UInt8} {sz : Bool} (hlen : a.length + r.length ≤ 1000000) (hsz : sz = decide ((a.length : Int) > 0)) (j' : Int) (b1 b2 : Bool) (xs : List D) :
    Ev (fun n => ref02_Parse_j1 n (w0 : Int) [.str (a ++ 39 :: r), .int .i64 (a.length : Int), .int .i64 j', .bool b1, .bool b2, .lst 1 xs]) fun x => x = (true, (tailF w sz r).ref) := by
  refine evDfn (fun n => ref02_Parse_j1_def n _ _) ?_
  have e1 : IntKind.i64.wrap ((a.length : Int) + 1) = ((a.length + 1 : Nat) : Int) := wrap_succ (by omega)
  have e2 : (a ++ 39 :: r).length = a.length + 1 + r.length := by simp; omega
  have e3 : ((a ++ 39 :: r).drop ((a.length + 1 : Nat) : Int).toNat).take ((((a ++ 39 :: r).length : Nat) : Int).toNat - ((a.length + 1 : Nat) : Int).toNat) = r := by
    rw [Int.toNat_natCast, Int.toNat_natCast, e2]
    have : (a ++ 39 :: r).drop (a.length + 1) = r := by
      rw [List.drop_append, List.drop_eq_nil_of_le (by omega)]
      simp
    rw [this, List.take_of_length_le (by omega)]
  simp only [nth, D.i, D.s, List.getD_cons_zero, List.getD_cons_succ, e1, e3]
  have num5 : ∀ (c : UInt8) (u : List UInt8) (b : Nat) (sg : Bool), b ≤ 16 → (c :: u).length ≤ 1000000 → Ev (fun n => ref02_Parse_j5 n (b : Int) (c :: u) (w0 : Int) sg [.str (a ++ 39 :: r), .int .i64 (a.length : Int), .int .i64 j', .bool b1, .bool b2, .lst 1 xs]) fun x => x = (true, (tailN w sz b sg u).ref) := by
    intro c u b sg hb hul
    simp only [List.length_cons] at hul
    refine evDfn (fun n => ref02_Parse_j5_def n _ _ _ _ _) (Ev.yes (slice1 c u) ?_)
    rw [drop1]
    refine evCall (rdigits_is (s := u) (by omega) hb) (Ev.yes rfl ?_)
    cases u with
    | nil => exact Ev.yes rfl (Ev.ret rfl)
    | cons c' u' =>
      rw [show digE b (c' :: u') = (match digF b (c' :: u') with | none => 5 | some _ => 0) from rfl, show tailN w sz b sg (c' :: u') = (match digF b (c' :: u') with | none => .bad 5 | some l => bif decide (w < 1) then .bad 2 else bif decide (w > 128) then .bad 2 else .ok w (valB b l % 2 ^ w) sg sz) from rfl]
      cases hF : digF b (c' :: u') with
      | none => exact Ev.yes rfl (Ev.ret rfl)
      | some l =>
        refine Ev.no rfl ?_
        have hG := digF_G hF hb
        have j6 : ∀ q : Bool, q = decide (¬ (1 ≤ w ∧ w ≤ 128)) → Ev (fun n => ref02_Parse_j6 n q (c :: c' :: u') (b : Int) (w0 : Int) sg [.str (a ++ 39 :: r), .int .i64 (a.length : Int), .int .i64 j', .bool b1, .bool b2, .lst 1 xs]) fun x => x = (true, (bif decide (w < 1) then Num.bad 2 else bif decide (w > 128) then .bad 2 else .ok w (valB b l % 2 ^ w) sg sz).ref) := by
          intro q hq
          subst hq
          refine evDfn (fun n => ref02_Parse_j6_def n _ _ _ _ _ _) ?_
          rcases hw with ⟨h1, h2, rfl⟩ | ⟨h1, _⟩ | ⟨h1, _⟩
          · rw [decide_eq_false (show ¬ ¬ (1 ≤ w ∧ w ≤ 128) by omega), decide_eq_false (show ¬ w < 1 by omega), decide_eq_false (show ¬ w > 128 by omega)]
            refine Ev.no rfl (Ev.yes (slice1 c (c' :: u')) ?_)
            rw [drop1]
            refine evCall (number_is' (s := c' :: u') (b := b) (w := w) (by simp only [List.length_cons] at hul ⊢; omega) hb (by omega) hG) (Ev.yes rfl (Ev.ret ?_))
            show (true, [D.agg [.lst 1 (bitsD w (valB b l)), .bool sg, .bool (decide ((a.length : Int) > 0))], .int .i64 0]) = _
            rw [← hsz, ← bitsD_mod w (valB b l)]; rfl
          · rw [decide_eq_true (show ¬ (1 ≤ w ∧ w ≤ 128) by omega), decide_eq_true h1]
            exact Ev.yes rfl (Ev.ret rfl)
          · rw [decide_eq_true (show ¬ (1 ≤ w ∧ w ≤ 128) by omega), decide_eq_false (show ¬ w < 1 by omega), decide_eq_true h1]
            exact Ev.yes rfl (Ev.ret rfl)
        by_cases hw1 : w0 < 1
        · exact Ev.yes (decide_eq_true (by omega)) (j6 true (decide_eq_true (by omega)).symm)
        · refine Ev.no (decide_eq_false (by omega)) (j6 _ ?_)
          by_cases hw2 : w0 > 128
          · rw [decide_eq_true (show ((w0 : Int) > 128) by omega), decide_eq_true (show ¬ (1 ≤ w ∧ w ≤ 128) by omega)]
          · rw [decide_eq_false (show ¬ ((w0 : Int) > 128) by omega), decide_eq_false (show ¬ ¬ (1 ≤ w ∧ w ≤ 128) by omega)]
  have j4 : ∀ (q : Bool) (c : UInt8) (u : List UInt8) (sg : Bool), q = (c == 98 || c == 66) → (c :: u).length ≤ 1000000 → Ev (fun n => ref02_Parse_j4 n q (c :: u) (w0 : Int) sg [.str (a ++ 39 :: r), .int .i64 (a.length : Int), .int .i64 j', .bool b1, .bool b2, .lst 1 xs]) fun x => x = (true, (tailB w sz (based1 (c :: u) sg)).ref) := by
    intro q c u sg hq hul
    have hB : baseN c = bif q then 2 else bif c == 111 || c == 79 then 8 else bif c == 100 || c == 68 then 10 else bif c == 104 || c == 72 then 16 else 0 := by rw [hq]; rfl
    have rhs : ∀ k, baseN c = k + 1 → tailB w sz (based1 (c :: u) sg) = tailN w sz (k + 1) sg u := fun k hk => by
      show tailB w sz (bif baseN c == 0 then .bad 5 else .ok u (baseN c) sg) = _
      rw [hk]; rfl
    have rhs0 : baseN c = 0 → tailB w sz (based1 (c :: u) sg) = .bad 5 := fun hk => by
      show tailB w sz (bif baseN c == 0 then .bad 5 else .ok u (baseN c) sg) = _
      rw [hk]; rfl
    have q1 : ((c.toNat : Int) == 111) = (c == 111) := byte_eq c 111
    have q2 : ((c.toNat : Int) == 79) = (c == 79) := byte_eq c 79
    have q3 : ((c.toNat : Int) == 100) = (c == 100) := byte_eq c 100
    have q4 : ((c.toNat : Int) == 68) = (c == 68) := byte_eq c 68
    have q5 : ((c.toNat : Int) == 104) = (c == 104) := byte_eq c 104
    have q6 : ((c.toNat : Int) == 72) = (c == 72) := byte_eq c 72
    refine evDfn (fun n => ref02_Parse_j4_def n _ _ _ _ _) ?_
    simp only [List.getElem?_cons_zero, Option.getD_some]
    rw [q1, q2, q3, q4, q5, q6]
    clear hq q1 q2 q3 q4 q5 q6
    generalize (c == 111) = x1 at *
    generalize (c == 79) = x2 at *
    generalize (c == 100) = x3 at *
    generalize (c == 68) = x4 at *
    generalize (c == 104) = x5 at *
    generalize (c == 72) = x6 at *
    cases q with
    | true => rw [rhs 1 hB]; exact num5 c u 2 sg (by decide) hul
    | false =>
      refine Ev.no rfl ?_
      cases x1 with
      | true => rw [rhs 7 hB]; exact num5 c u 8 sg (by decide) hul
      | false =>
        refine Ev.no rfl ?_
        cases x2 with
        | true => rw [rhs 7 hB]; exact num5 c u 8 sg (by decide) hul
        | false =>
          refine Ev.no rfl ?_
          cases x3 with
          | true => rw [rhs 9 hB]; exact num5 c u 10 sg (by decide) hul
          | false =>
            refine Ev.no rfl ?_
            cases x4 with
            | true => rw [rhs 9 hB]; exact num5 c u 10 sg (by decide) hul
            | false =>
              refine Ev.no rfl ?_
              cases x5 with
              | true => rw [rhs 15 hB]; exact num5 c u 16 sg (by decide) hul
              | false =>
                refine Ev.no rfl ?_
                cases x6 with
                | true => rw [rhs 15 hB]; exact num5 c u 16 sg (by decide) hul
                | false => rw [rhs0 hB]; exact Ev.no rfl (Ev.ret rfl)
  have j3 : ∀ (t : List UInt8) (sg : Bool), t.length ≤ 1000000 → Ev (fun n => ref02_Parse_j3 n t (w0 : Int) sg [.str (a ++ 39 :: r), .int .i64 (a.length : Int), .int .i64 j', .bool b1, .bool b2, .lst 1 xs]) fun x => x = (true, (tailB w sz (based1 t sg)).ref) := by
    intro t sg htl
    refine evDfn (fun n => ref02_Parse_j3_def n _ _ _ _) ?_
    cases t with
    | nil => exact Ev.yes rfl (Ev.ret rfl)
    | cons c u =>
      simp only [List.getElem?_cons_zero, Option.getD_some]
      have q1 : ((c.toNat : Int) == 98) = (c == 98) := byte_eq c 98
      have q2 : ((c.toNat : Int) == 66) = (c == 66) := byte_eq c 66
      rw [q1, q2]
      refine Ev.no rfl (Ev.yes (cons_in c u) ?_)
      cases h98 : c == 98 with
      | true => exact Ev.yes rfl (j4 true c u sg (by rw [h98]; rfl) htl)
      | false => exact Ev.no rfl (j4 _ c u sg (by rw [h98]; rfl) htl)
  have j2 : ∀ (t : List UInt8) (sg : Bool), t.length ≤ 1000000 → (sg = true → t ≠ []) → Ev (fun n => ref02_Parse_j2 n t sg (w0 : Int) [.str (a ++ 39 :: r), .int .i64 (a.length : Int), .int .i64 j', .bool b1, .bool b2, .lst 1 xs]) fun x => x = (true, (tailB w sz (based1 (bif sg then t.drop 1 else t) sg)).ref) := by
    intro t sg htl hne
    refine evDfn (fun n => ref02_Parse_j2_def n _ _ _ _) ?_
    cases sg with
    | false => exact Ev.no rfl (j3 t false htl)
    | true =>
      cases t with
      | nil => exact absurd rfl (hne rfl)
      | cons c u =>
        refine Ev.yes rfl (Ev.yes (slice1 c u) ?_)
        rw [drop1]
        exact j3 u true (by simp only [List.length_cons] at htl; omega)
  rw [tailF_eq]
  refine Ev.yes (and_tt (and_tt (decide_eq_true (by omega)) (decide_eq_true (by rw [e2]; omega))) (decide_eq_true (Int.le_refl _))) ?_
  cases r with
  | nil => exact Ev.no rfl (j2 [] false (by simp) (fun h => by cases h))
  | cons c u =>
    have hrl : (c :: u).length ≤ 1000000 := by omega
    simp only [List.getElem?_cons_zero, Option.getD_some]
    have q1 : ((c.toNat : Int) == 115) = (c == 115) := byte_eq c 115
    have q2 : ((c.toNat : Int) == 83) = (c == 83) := byte_eq c 83
    rw [q1, q2]
    have hB : basedF (c :: u) = (bif isS c then based1 u true else based1 (c :: u) false) := rfl
    unfold isS at hB
    rw [hB]
    refine Ev.yes (decide_eq_true (by simp only [List.length_cons]; omega)) (Ev.yes (cons_in c u) ?_)
    cases h1 : c == 115 with
    | true => exact Ev.yes rfl (j2 (c :: u) true hrl (fun _ => by simp))
    | false =>
      refine Ev.no rfl (Ev.yes (cons_in c u) ?_)
      cases h2 : c == 83 with
      | true => exact j2 (c :: u) true hrl (fun _ => by simp)
      | false => exact j2 (c :: u) false hrl (fun h => by cases h)
theorem rparse_is {s : List UInt8} (hs : s.length ≤ 100000) : Ev (fun n => ref02_Parse n (.str s)) fun r => r = (true, (parseF s).ref) := by
  refine Ev.eq (fun n => ref02_Parse_eq n s) (Ev.bindL (find_is (by omega) false false []) (fun ds h => by obtain ⟨_, h⟩ := h; cases h) fun ds h => ?_)
  obtain ⟨j', h⟩ := h
  unfold parseF
  cases hc : cutQ s with
  | none =>
    rw [hc] at h
    cases h
    refine Ev.yes rfl (Ev.yes rfl (evCall (rdigits_is (s := s) (b := 10) (by omega) (by decide)) (Ev.yes rfl ?_)))
    unfold plainF
    cases s with
    | nil => exact Ev.yes rfl (Ev.ret rfl)
    | cons c u =>
      rw [show digE 10 (c :: u) = (match digF 10 (c :: u) with | none => 5 | some _ => 0) from rfl]
      show Ev _ fun r => r = (true, (match digF 10 (c :: u) with | none => Num.bad 5 | some l => ofF (min (decV l) 2147483648)).ref)
      cases hF : digF 10 (c :: u) with
      | none => exact Ev.yes rfl (Ev.ret rfl)
      | some l =>
        refine Ev.no rfl (evCall (decimal_is (s := c :: u) (m := 2147483648) (by omega) (digF_G hF (by decide)) (by decide)) (Ev.yes rfl ?_))
        show Ev (fun n => bif (decide (((min (decV l) 2147483648 : Nat) : Int) ≥ 2147483648)) then _ else _) fun r => r = (true, (ofF (min (decV l) 2147483648)).ref)
        unfold ofF
        by_cases hlt : min (decV l) 2147483648 < 2147483648
        · rw [decide_eq_true hlt]
          refine Ev.no (decide_eq_false (by omega)) ?_
          have ex : IntKind.u64.wrap ((min (decV l) 2147483648 : Nat) : Int) = ((min (decV l) 2147483648 : Nat) : Int) := by rw [wrap_u64_nat, Nat.mod_eq_of_lt (by unfold M64; omega)]
          show Ev (fun n => AE.bindC (ref01_New n (.int .i64 32) (.lst 1 [.int .u64 (IntKind.u64.wrap ((min (decV l) 2147483648 : Nat) : Int))])) fun r4 => _) _
          rw [ex]
          refine evCall (new32_is (x := min (decV l) 2147483648) (by unfold M64; omega)) (Ev.yes ?_ (Ev.ret rfl))
          simp [plainDs, bitsD_plain]; rfl
        · rw [decide_eq_false hlt]
          exact Ev.yes (decide_eq_true (by omega)) (Ev.ret rfl)
  | some p =>
    obtain ⟨a, r⟩ := p
    rw [hc] at h
    cases h
    obtain ⟨hsl, _⟩ := cutQ_len hc
    have hl : a.length + (r.length + 1) ≤ 100000 := by
      have := congrArg List.length hsl
      simp at this; omega
    refine Ev.yes rfl (Ev.no (decide_eq_false (show ¬ ((a.length : Int) < 0) by omega)) ?_)
    rw [hsl]
    cases a with
    | nil => exact Ev.no rfl (rtail_is (w := 32) (w0 := 32) (by decide) (.inl ⟨by decide, by decide, rfl⟩) (a := []) (by simp only [List.length_nil]; omega) rfl j' false false [])
    | cons c u =>
      have e0 : ((((c :: u) ++ 39 :: r).drop 0).take (((((c :: u).length : Nat) : Int)).toNat - 0)) = c :: u := by
        rw [Int.toNat_natCast, List.drop_zero, Nat.sub_zero, List.take_left]
      have hsl' : (true && decide ((0 : Int) ≤ (((c :: u).length : Nat) : Int)) && decide ((((c :: u).length : Nat) : Int) ≤ ((((c :: u) ++ 39 :: r).length : Nat) : Int))) = true := and_tt (and_tt rfl (decide_eq_true (by omega))) (decide_eq_true (by simp only [List.length_append]; omega))
      refine Ev.yes (decide_eq_true (show (((c :: u).length : Nat) : Int) > 0 by simp only [List.length_cons]; omega)) (Ev.yes hsl' ?_)
      simp only [nth, D.i, D.s, List.getD_cons_zero, List.getD_cons_succ]
      rw [e0]
      refine evCall (rdigits_is (s := c :: u) (b := 10) (by omega) (by decide)) (Ev.yes rfl ?_)
      rw [show digE 10 (c :: u) = (match digF 10 (c :: u) with | none => 5 | some _ => 0) from rfl]
      show Ev _ fun x => x = (true, (match digF 10 (c :: u) with | none => Num.bad 5 | some l => tailF (min (decV l) 129) true r).ref)
      cases hF : digF 10 (c :: u) with
      | none => exact Ev.yes rfl (Ev.ret rfl)
      | some l =>
        refine Ev.no rfl (Ev.yes hsl' (evCall (decimal_is (s := c :: u) (m := 1000) (by omega) (digF_G hF (by decide)) (by decide)) (Ev.yes rfl ?_)))
        refine rtail_is (w := min (decV l) 129) (w0 := min (decV l) 1000) (by omega) (by omega) (by omega) ?_ j' false false []
        rw [decide_eq_true]
        simp only [List.length_cons]; omega
theorem plainF_ne {s : List UInt8} {e : Nat} (h : plainF s = .bad e) : e ≠ 0 := by
  cases s with
  | nil => cases h; decide
  | cons c t =>
    have h : (match digF 10 (c :: t) with | none => Num.bad 5 | some l => ofF (min (decV l) 2147483648)) = .bad e := h
    cases hF : digF 10 (c :: t) with
    | none => rw [hF] at h; cases h; decide
    | some l =>
      rw [hF] at h
      have h : (bif decide (min (decV l) 2147483648 < 2147483648) then Num.ok 32 (min (decV l) 2147483648) true false else .bad 3) = .bad e := h
      cases hd : decide (min (decV l) 2147483648 < 2147483648) with
      | true => rw [hd] at h; cases h
      | false => rw [hd] at h; cases h; decide
theorem based1_ne {t : List UInt8} {sg : Bool} {e : Nat} (h : based1 t sg = .bad e) : e ≠ 0 := by
  cases t with
  | nil => cases h; decide
  | cons c u =>
    have h : (bif baseN c == 0 then Bsd.bad 5 else .ok u (baseN c) sg) = .bad e := h
    cases hb : baseN c == 0 with
    | true => rw [hb] at h; cases h; decide
    | false => rw [hb] at h; cases h
theorem basedF_ne {s : List UInt8} {e : Nat} (h : basedF s = .bad e) : e ≠ 0 := by
  cases s with
  | nil => cases h; decide
  | cons c t =>
    have h : (bif isS c then based1 t true else based1 (c :: t) false) = .bad e := h
    cases hc : isS c with
    | true => rw [hc] at h; exact based1_ne (t := t) (sg := true) h
    | false => rw [hc] at h; exact based1_ne (t := c :: t) (sg := false) h
theorem tailN_ok (w : Nat) (sz : Bool) (b : Nat) (sg : Bool) (u : List UInt8) (hsz : sz = false → w = 32) : Num.Ok (tailN w sz b sg u) := by
  cases u with
  | nil => exact (by decide : (6 : Nat) ≠ 0)
  | cons c t =>
    show Num.Ok (match digF b (c :: t) with | none => .bad 5 | some l => bif decide (w < 1) then .bad 2 else bif decide (w > 128) then .bad 2 else .ok w (valB b l % 2 ^ w) sg sz)
    cases digF b (c :: t) with
    | none => exact (by decide : (5 : Nat) ≠ 0)
    | some l =>
      show Num.Ok (bif decide (w < 1) then .bad 2 else bif decide (w > 128) then .bad 2 else .ok w (valB b l % 2 ^ w) sg sz)
      by_cases h1 : w < 1
      · rw [decide_eq_true h1]; exact (by decide : (2 : Nat) ≠ 0)
      · rw [decide_eq_false h1]
        by_cases h2 : w > 128
        · rw [decide_eq_true h2]; exact (by decide : (2 : Nat) ≠ 0)
        · rw [decide_eq_false h2]
          exact ⟨by omega, by omega, Nat.mod_lt _ (two_pos w), hsz⟩
theorem tailF_ok (w : Nat) (sz : Bool) (r : List UInt8) (hsz : sz = false → w = 32) : Num.Ok (tailF w sz r) := by
  rw [tailF_eq]
  unfold tailB
  cases hb : basedF r with
  | bad e => exact basedF_ne hb
  | ok t b sg => exact tailN_ok w sz b sg t hsz
theorem plainF_ok (s : List UInt8) : Num.Ok (plainF s) := by
  cases hp : plainF s with
  | bad e => exact plainF_ne hp
  | ok w n sg sz =>
    cases s with
    | nil => cases hp
    | cons c t =>
      have h : (match digF 10 (c :: t) with | none => Num.bad 5 | some l => ofF (min (decV l) 2147483648)) = .ok w n sg sz := hp
      cases hF : digF 10 (c :: t) with
      | none => rw [hF] at h; cases h
      | some l =>
        rw [hF] at h
        have h : (bif decide (min (decV l) 2147483648 < 2147483648) then Num.ok 32 (min (decV l) 2147483648) true false else .bad 3) = .ok w n sg sz := h
        cases hd : decide (min (decV l) 2147483648 < 2147483648) with
        | false => rw [hd] at h; cases h
        | true =>
          rw [hd] at h
          cases h
          have := of_decide_eq_true hd
          exact ⟨by decide, by decide, by have : (2 : Nat) ^ 32 = 4294967296 := rfl; omega, fun _ => rfl⟩
theorem parseF_ok (s : List UInt8) : Num.Ok (parseF s) := by
  unfold parseF
  cases cutQ s with
  | none => exact plainF_ok s
  | some p =>
    obtain ⟨a, r⟩ := p
    cases a with
    | nil => exact tailF_ok 32 false r fun _ => rfl
    | cons c u =>
      show Num.Ok (match digF 10 (c :: u) with | none => .bad 5 | some l => tailF (min (decV l) 129) true r)
      cases digF 10 (c :: u) with
      | none => exact (by decide : (5 : Nat) ≠ 0)
      | some l => exact tailF_ok _ true r fun h => by cases h
end Go.Proofs.YtkjocbdjenmegaaGreatDoor
