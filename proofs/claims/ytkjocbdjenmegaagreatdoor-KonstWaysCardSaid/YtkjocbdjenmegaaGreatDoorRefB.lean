/- The reference's literals: values, digits, decimal, number, told exactly. -/
import Derived.Test.YtkjocbdjenmegaaGreatDoorRefA
namespace Go.Proofs.YtkjocbdjenmegaaGreatDoor
open Go.AE
set_option linter.unusedVariables false
theorem wrap_u8n (n : Int) : IntKind.u8.wrap n = n % 256 := by simp [IntKind.wrap, IntKind.bits, IntKind.signed]
theorem valN_at (c : UInt8) : (48 ≤ c.toNat ∧ c.toNat ≤ 57 ∧ valN c = c.toNat - 48) ∨ (97 ≤ c.toNat ∧ c.toNat ≤ 102 ∧ valN c = c.toNat - 87) ∨ (65 ≤ c.toNat ∧ c.toNat ≤ 70 ∧ valN c = c.toNat - 55) ∨ (¬ (48 ≤ c.toNat ∧ c.toNat ≤ 57) ∧ ¬ (97 ≤ c.toNat ∧ c.toNat ≤ 102) ∧ ¬ (65 ≤ c.toNat ∧ c.toNat ≤ 70) ∧ valN c = 16) := by
  unfold valN
  by_cases h1 : 48 ≤ c.toNat ∧ c.toNat ≤ 57
  · exact .inl ⟨h1.1, h1.2, by rw [decide_eq_true h1.1, decide_eq_true h1.2]; rfl⟩
  · have e1 : (decide (48 ≤ c.toNat) && decide (c.toNat ≤ 57)) = false := by simp; omega
    by_cases h2 : 97 ≤ c.toNat ∧ c.toNat ≤ 102
    · exact .inr (.inl ⟨h2.1, h2.2, by rw [e1, decide_eq_true h2.1, decide_eq_true h2.2]; rfl⟩)
    · have e2 : (decide (97 ≤ c.toNat) && decide (c.toNat ≤ 102)) = false := by simp; omega
      by_cases h3 : 65 ≤ c.toNat ∧ c.toNat ≤ 70
      · exact .inr (.inr (.inl ⟨h3.1, h3.2, by rw [e1, e2, decide_eq_true h3.1, decide_eq_true h3.2]; rfl⟩))
      · have e3 : (decide (65 ≤ c.toNat) && decide (c.toNat ≤ 70)) = false := by simp; omega
        exact .inr (.inr (.inr ⟨h1, h2, h3, by rw [e1, e2, e3]; rfl⟩))
theorem leafV {c : UInt8} {v : Int} (h : v = (valN c : Int)) : ((true, [D.int .i64 v]) : Bool × List D) = (true, [iD (valN c)]) := by rw [h]; rfl
theorem rvalue_is (c : UInt8) : Ev (fun n => ref02_value n (.int .u8 (c.toNat : Int))) fun r => r = (true, [iD (valN c)]) := by
  have hc : c.toNat < 256 := c.toNat_lt
  have hv := valN_at c
  have wv : ∀ x : Int, 0 ≤ x → x ≤ 300 → IntKind.i64.wrap x = x := fun x h0 h1 => wrap_id (by omega) (by omega)
  have j2 : ∀ b : Bool, ¬ (48 ≤ c.toNat ∧ c.toNat ≤ 57) → (b = true → 97 ≤ c.toNat ∧ c.toNat ≤ 102) → (b = false → ¬ (97 ≤ c.toNat ∧ c.toNat ≤ 102)) → Ev (fun n => ref02_value_j2 n b (c.toNat : Int)) fun r => r = (true, [iD (valN c)]) := by
    intro b hn ht hf
    refine evDfn (fun n => ref02_value_j2_def n _ _) ?_
    cases b with
    | true =>
      have := ht rfl
      refine Ev.yes rfl (Ev.ret (leafV ?_))
      rw [wrap_u8n, wv (((c.toNat : Int) - 97) % 256) (by omega) (by omega), wv _ (by omega) (by omega)]; omega
    | false =>
      have := hf rfl
      refine Ev.no rfl (Ev.test (fun h1 => Ev.test (fun h2 => ?_) fun h2 => ?_) fun h1 => ?_)
      · have h1 := of_decide_eq_true h1
        have h2 := of_decide_eq_true h2
        refine Ev.ret (leafV ?_)
        rw [wrap_u8n, wv (((c.toNat : Int) - 65) % 256) (by omega) (by omega), wv _ (by omega) (by omega)]; omega
      · have h2 := of_decide_eq_false h2
        exact Ev.ret (leafV (c := c) (v := 16) (by omega))
      · have h1 := of_decide_eq_false h1
        exact Ev.ret (leafV (c := c) (v := 16) (by omega))
  have j1 : ∀ b : Bool, (b = true → 48 ≤ c.toNat ∧ c.toNat ≤ 57) → (b = false → ¬ (48 ≤ c.toNat ∧ c.toNat ≤ 57)) → Ev (fun n => ref02_value_j1 n b (c.toNat : Int)) fun r => r = (true, [iD (valN c)]) := by
    intro b ht hf
    refine evDfn (fun n => ref02_value_j1_def n _ _) ?_
    cases b with
    | true =>
      have := ht rfl
      refine Ev.yes rfl (Ev.ret (leafV ?_))
      rw [wrap_u8n, wv _ (by omega) (by omega)]; omega
    | false =>
      have := hf rfl
      refine Ev.no rfl (Ev.test (fun h1 => ?_) fun h1 => ?_)
      · have h1 := of_decide_eq_true h1
        cases h2 : decide ((c.toNat : Int) ≤ 102) with
        | true => have h2 := of_decide_eq_true h2; exact j2 true this (fun _ => by omega) (fun h => by cases h)
        | false => have h2 := of_decide_eq_false h2; exact j2 false this (fun h => by cases h) (fun _ => by omega)
      · have h1 := of_decide_eq_false h1
        exact j2 false this (fun h => by cases h) (fun _ => by omega)
  refine Ev.eq (fun n => ref02_value_eq n _) (Ev.test (fun h1 => ?_) fun h1 => ?_)
  · have h1 := of_decide_eq_true h1
    cases h2 : decide ((c.toNat : Int) ≤ 57) with
    | true => have h2 := of_decide_eq_true h2; exact j1 true (fun _ => by omega) (fun h => by cases h)
    | false => have h2 := of_decide_eq_false h2; exact j1 false (fun h => by cases h) (fun _ => by omega)
  · have h1 := of_decide_eq_false h1
    exact j1 false (fun h => by cases h) (fun _ => by omega)
def digE (b : Nat) (s : List UInt8) : Nat := match s with
  | [] => 6
  | c :: t => match digF b (c :: t) with
    | none => 5
    | some _ => 0
theorem rdigits_is {s : List UInt8} (hs : s.length ≤ 1048576) {b : Nat} (hb : b ≤ 16) : Ev (fun n => ref02_digits n (.str s) (.int .i64 (b : Int))) fun r => r = (true, [iD (digE b s)]) := by
  refine Ev.eq (fun n => ref02_digits_eq n s _) ?_
  cases s with
  | nil => exact Ev.yes rfl (Ev.ret rfl)
  | cons c0 t0 =>
    refine Ev.no rfl ?_
    generalize hst : c0 :: t0 = s at hs ⊢
    have loop : ∀ (m j : Nat), s.length - j = m → j ≤ s.length → 1 ≤ j →
        Ev (fun n => ref02_digits_L0 n (.str s) (.int .i64 (b : Int)) (.int .i64 (j : Int))) fun r => match digG b (s.drop j) with
          | none => r = (true, [.int .i64 5])
          | some _ => ∃ j' : Int, r = (false, [.str s, .int .i64 (b : Int), .int .i64 j']) := by
      intro m
      induction m with
      | zero =>
        intro j hm hj h1
        have : j = s.length := by omega
        subst this
        refine Ev.eq (fun n => ref02_digits_L0_eq n _ _ _) (Ev.no (decide_eq_false (by omega)) (Ev.ret ?_))
        rw [List.drop_length]
        exact ⟨_, rfl⟩
      | succ m ih =>
        intro j hm hj h1
        have hj2 : j < s.length := by omega
        have hw : IntKind.i64.wrap ((j : Int) + 1) = ((j + 1 : Nat) : Int) := wrap_succ (by omega)
        refine Ev.eq (fun n => ref02_digits_L0_eq n _ _ _) (Ev.yes (decide_eq_true (by omega)) (Ev.yes (in_range hj2) ?_))
        rw [get_strL hj2, hw, drop_cons hj2]
        refine evCall (rvalue_is _) (Ev.yes rfl ?_)
        have i1 := ih (j + 1) (by omega) hj2 (by omega)
        have hg : digG b (s[j] :: s.drop (j + 1)) = (bif ((s[j].toNat : Int) == 95) then digG b (s.drop (j + 1)) else bif decide (valN s[j] < b) then (digG b (s.drop (j + 1))).map (valN s[j] :: ·) else none) := rfl
        by_cases hlt : valN s[j] < b
        · refine Ev.no (decide_eq_false (show ¬ ((valN s[j] : Int) ≥ (b : Int)) by omega)) ?_
          refine i1.mono fun r hr => ?_
          rw [hg, decide_eq_true hlt]
          have h95 : ((s[j].toNat : Int) == 95) = false := by
            cases h : ((s[j].toNat : Int) == 95) with
            | false => rfl
            | true =>
              exfalso
              have h1 : s[j].toNat = 95 := by have := eq_of_beq h; omega
              have := valN_at s[j]
              omega
          rw [h95]
          revert hr
          cases digG b (s.drop (j + 1)) with
          | none => exact id
          | some l => exact id
        · refine Ev.yes (decide_eq_true (show ((valN s[j] : Int) ≥ (b : Int)) by omega)) (Ev.yes (in_range hj2) ?_)
          rw [hg, decide_eq_false hlt]
          cases h95 : ((s[j].toNat : Int) == 95) with
          | true =>
            refine Ev.no ?_ (Ev.no ?_ i1)
            · show (!((s[j].toNat : Int) == 95)) = false
              rw [h95]; rfl
            · simp; omega
          | false =>
            refine Ev.yes ?_ (Ev.ret rfl)
            show (!((s[j].toNat : Int) == 95)) = true
            rw [h95]; rfl
    have hl0 : 0 < s.length := by rw [← hst]; simp
    have hs0 : s[0] = c0 := by subst hst; rfl
    have hd0 : s.drop 1 = t0 := by subst hst; rfl
    have hF : digF b s = (bif decide (valN c0 < b) then (digG b t0).map (valN c0 :: ·) else none) := by subst hst; rfl
    have first : Ev (fun n => ref02_digits_L0 n (.str s) (.int .i64 (b : Int)) (.int .i64 0)) fun r => match digF b s with
          | none => r = (true, [.int .i64 5])
          | some _ => ∃ j' : Int, r = (false, [.str s, .int .i64 (b : Int), .int .i64 j']) := by
      refine Ev.eq (fun n => ref02_digits_L0_eq n _ _ _) (Ev.yes (decide_eq_true (by omega)) (Ev.yes (in_range (j := 0) hl0) ?_))
      have hg := get_strL hl0
      rw [show s[(0 : Int).toNat]?.getD 0 = s[0] from hg, hs0]
      refine evCall (rvalue_is _) (Ev.yes rfl ?_)
      have i1 := loop (s.length - 1) 1 (by omega) hl0 (by omega)
      rw [hd0] at i1
      by_cases hlt : valN c0 < b
      · refine Ev.no (decide_eq_false (show ¬ ((valN c0 : Int) ≥ (b : Int)) by omega)) ?_
        refine i1.mono fun r hr => ?_
        rw [hF, decide_eq_true hlt]
        revert hr
        cases digG b t0 with
        | none => exact id
        | some l => exact id
      · refine Ev.yes (decide_eq_true (show ((valN c0 : Int) ≥ (b : Int)) by omega)) (Ev.yes (in_range (j := 0) hl0) ?_)
        rw [hF, decide_eq_false hlt]
        cases h95 : ((c0.toNat : Int) == 95) with
        | true =>
          refine Ev.no ?_ (Ev.yes rfl (Ev.ret rfl))
          show (!((c0.toNat : Int) == 95)) = false
          rw [h95]; rfl
        | false =>
          refine Ev.yes ?_ (Ev.ret rfl)
          show (!((c0.toNat : Int) == 95)) = true
          rw [h95]; rfl
    have hE : digE b s = match digF b s with | none => 5 | some _ => 0 := by subst hst; rfl
    rw [hE]
    cases hF' : digF b s with
    | none => rw [hF'] at first; exact evOut first rfl
    | some l =>
      rw [hF'] at first
      refine Ev.bindL first (fun ds h => by obtain ⟨_, h⟩ := h; cases h) fun ds h => ?_
      obtain ⟨j', h⟩ := h
      cases h
      exact Ev.yes rfl (Ev.ret rfl)
/-- What digits are left, the first one already read or not. -/
theorem digF_G {b : Nat} {s : List UInt8} {l : List Nat} (h : digF b s = some l) (hb : b ≤ 16) : digG b s = some l := by
  cases s with
  | nil => cases h
  | cons c t =>
    have hF : digF b (c :: t) = (bif decide (valN c < b) then (digG b t).map (valN c :: ·) else none) := rfl
    have hG : digG b (c :: t) = (bif ((c.toNat : Int) == 95) then digG b t else bif decide (valN c < b) then (digG b t).map (valN c :: ·) else none) := rfl
    rw [hF] at h
    rw [hG]
    have hv := valN_at c
    cases h95 : ((c.toNat : Int) == 95) with
    | false => exact h
    | true =>
      have h1 : c.toNat = 95 := by have := eq_of_beq h95; omega
      rw [decide_eq_false (by omega)] at h
      cases h
theorem decimal_is {s : List UInt8} (hs : s.length ≤ 1048576) {l : List Nat} (hG : digG 10 s = some l) {m : Nat} (hm : m ≤ 4294967296) : Ev (fun n => ref02_decimal n (.str s) (.int .i64 (m : Int))) fun r => r = (true, [iD (min (decV l) m)]) := by
  refine Ev.eq (fun n => ref02_decimal_eq n s _) ?_
  have loop : ∀ (k j v : Nat) (l : List Nat), s.length - j = k → j ≤ s.length → digG 10 (s.drop j) = some l →
      Ev (fun n => ref02_decimal_L0 n (.str s) (.int .i64 (m : Int)) (iD (min v m)) (.int .i64 (j : Int))) fun r => ∃ j' : Int, r = (false, [.str s, .int .i64 (m : Int), iD (min (l.foldl (fun a d => 10 * a + d) v) m), .int .i64 j']) := by
    intro k
    induction k with
    | zero =>
      intro j v l hk hj hg
      have : j = s.length := by omega
      subst this
      rw [List.drop_length] at hg
      cases hg
      exact Ev.eq (fun n => ref02_decimal_L0_eq n _ _ _ _) (Ev.no (decide_eq_false (by omega)) (Ev.ret ⟨_, rfl⟩))
    | succ k ih =>
      intro j v l hk hj hg
      have hj2 : j < s.length := by omega
      have hw : IntKind.i64.wrap ((j : Int) + 1) = ((j + 1 : Nat) : Int) := wrap_succ (by omega)
      rw [drop_cons hj2] at hg
      have hg : (bif ((s[j].toNat : Int) == 95) then digG 10 (s.drop (j + 1)) else bif decide (valN s[j] < 10) then (digG 10 (s.drop (j + 1))).map (valN s[j] :: ·) else none) = some l := hg
      refine Ev.eq (fun n => ref02_decimal_L0_eq n _ _ _ _) (Ev.yes (decide_eq_true (by omega)) (Ev.yes (in_range hj2) ?_))
      rw [get_strL hj2, hw]
      cases h95 : ((s[j].toNat : Int) == 95) with
      | true =>
        rw [h95] at hg
        refine Ev.no ?_ (ih (j + 1) v l (by omega) hj2 hg)
        show (!((s[j].toNat : Int) == 95)) = false
        rw [h95]; rfl
      | false =>
        rw [h95] at hg
        refine Ev.yes ?_ (Ev.yes (in_range hj2) (evCall (rvalue_is _) (Ev.yes rfl ?_)))
        · show (!((s[j].toNat : Int) == 95)) = true
          rw [h95]; rfl
        cases hlt : decide (valN s[j] < 10) with
        | false => rw [hlt] at hg; cases hg
        | true =>
          have hlt' := of_decide_eq_true hlt
          rw [hlt] at hg
          obtain ⟨l', hl, rfl⟩ := Option.map_eq_some_iff.1 (show (digG 10 (s.drop (j + 1))).map (valN s[j] :: ·) = some l from hg)
          have i1 := ih (j + 1) (10 * v + valN s[j]) l' (by omega) hj2 hl
          have e1 : IntKind.i64.wrap (10 * ((min v m : Nat) : Int)) = ((10 * min v m : Nat) : Int) := by rw [wrap_id (by omega) (by omega)]; omega
          have e2 : IntKind.i64.wrap (((10 * min v m : Nat) : Int) + (valN s[j] : Int)) = ((10 * min v m + valN s[j] : Nat) : Int) := by rw [wrap_id (by omega) (by omega)]; omega
          show Ev (fun n => bif (decide ((IntKind.i64.wrap (IntKind.i64.wrap (10 * ((min v m : Nat) : Int)) + (valN s[j] : Int))) > (m : Int))) then _ else ref02_decimal_L0 n (.str s) (.int .i64 (m : Int)) (.int .i64 (IntKind.i64.wrap (IntKind.i64.wrap (10 * ((min v m : Nat) : Int)) + (valN s[j] : Int)))) _) _
          rw [e1, e2]
          by_cases hgt : 10 * min v m + valN s[j] > m
          · refine Ev.yes (decide_eq_true (by omega)) ?_
            rw [show min (10 * v + valN s[j]) m = m by omega] at i1
            exact i1
          · refine Ev.no (decide_eq_false (by omega)) ?_
            rw [show min (10 * v + valN s[j]) m = 10 * min v m + valN s[j] by omega] at i1
            exact i1
  have l0 := loop s.length 0 0 l rfl (Nat.zero_le _) hG
  rw [show iD (min 0 m) = .int .i64 0 by unfold iD; rw [Nat.zero_min]; rfl] at l0
  refine Ev.bindL l0 (fun ds h => by obtain ⟨_, h⟩ := h; cases h) fun ds h => ?_
  obtain ⟨j', h⟩ := h
  cases h
  exact Ev.yes rfl (Ev.ret rfl)
theorem plain_plus (w n : Nat) : (chk ref01_Plus.osk [D.lst 1 (bitsD w n)] && plainDs ref01_Plus.osk [D.lst 1 (bitsD w n)]) = true := by
  simp [plainDs, bitsD_plain]; rfl
theorem number_is' {s : List UInt8} (hs : s.length ≤ 1048576) {b w : Nat} (hb : b ≤ 16) (hw : w ≤ 1000) {l : List Nat} (hG : digG b s = some l) : Ev (fun n => ref02_number n (.str s) (.int .i64 (b : Int)) (.int .i64 (w : Int))) fun r => r = (true, [.lst 1 (bitsD w (valB b l))]) := by
  have hmk : (decide ((0 : Int) ≤ (w : Int)) && decide ((w : Int) ≤ (w : Int)) && decide ((w : Int) ≤ (maxLst : Int))) = true := and_tt (and_tt (decide_eq_true (by omega)) (decide_eq_true (Int.le_refl _))) (decide_eq_true (by simp only [maxLst]; omega))
  refine Ev.eq (fun n => ref02_number_eq n s _ _) (Ev.yes hmk ?_)
  rw [Int.toNat_natCast, bitsD_zero]
  have mulLoop : ∀ (j v : Nat), (k x : Nat) → b - k = x → k ≤ b →
      Ev (fun n => ref02_number_L2 n (.str s) (.int .i64 (b : Int)) (.int .i64 (w : Int)) (.int .i64 (j : Int)) (.int .i64 (k : Int)) (.lst 1 (bitsD w v)) (.lst 1 (bitsD w (v * k)))) fun r => r = (false, [.str s, .int .i64 (b : Int), .int .i64 (w : Int), .int .i64 (j : Int), .int .i64 (b : Int), .lst 1 (bitsD w v), .lst 1 (bitsD w (v * b))]) := by
    intro j v k x
    induction x generalizing k with
    | zero =>
      intro hx hk
      have : k = b := by omega
      subst this
      exact Ev.eq (fun n => ref02_number_L2_eq n _ _ _ _ _ _ _) (Ev.no (decide_eq_false (by omega)) (Ev.ret rfl))
    | succ x ih =>
      intro hx hk
      have e : IntKind.i64.wrap ((k : Int) + 1) = ((k + 1 : Nat) : Int) := wrap_succ (by omega)
      refine Ev.eq (fun n => ref02_number_L2_eq n _ _ _ _ _ _ _) (Ev.yes (decide_eq_true (by omega)) (evCall (Plus_is hw (v * k) v false) (Ev.yes (plain_plus _ _) ?_)))
      rw [e]
      have := ih (k + 1) (by omega) (by omega)
      rw [Nat.mul_succ] at this
      exact this
  have addLoop : ∀ (j : Nat) (hj : j < s.length) (v : Nat), (k x : Nat) → valN s[j] - k = x → k ≤ valN s[j] →
      Ev (fun n => ref02_number_L4 n (.str s) (.int .i64 (b : Int)) (.int .i64 (w : Int)) (.int .i64 (j : Int)) (.int .i64 (k : Int)) (.lst 1 (bitsD w (v + k)))) fun r => r = (false, [.str s, .int .i64 (b : Int), .int .i64 (w : Int), .int .i64 (j : Int), .int .i64 (valN s[j] : Int), .lst 1 (bitsD w (v + valN s[j]))]) := by
    intro j hj v k x
    have hv := valN_le s[j]
    induction x generalizing k with
    | zero =>
      intro hx hk
      have hkv : k = valN s[j] := by omega
      refine Ev.eq (fun n => ref02_number_L4_eq n _ _ _ _ _ _) (Ev.yes (in_range hj) ?_)
      rw [get_strL hj]
      refine evCall (rvalue_is _) (Ev.yes rfl (Ev.no (decide_eq_false (show ¬ ((k : Int) < (valN s[j] : Int)) by omega)) (Ev.ret ?_)))
      rw [hkv]
    | succ x ih =>
      intro hx hk
      have e : IntKind.i64.wrap ((k : Int) + 1) = ((k + 1 : Nat) : Int) := wrap_succ (by omega)
      refine Ev.eq (fun n => ref02_number_L4_eq n _ _ _ _ _ _) (Ev.yes (in_range hj) ?_)
      rw [get_strL hj, Int.toNat_natCast, bitsD_zero, e]
      refine evCall (rvalue_is _) (Ev.yes rfl (Ev.yes (decide_eq_true (show ((k : Int) < (valN s[j] : Int)) by omega)) (Ev.yes hmk (evCall (Plus_is hw (v + k) 0 true) (Ev.yes (plain_plus _ _) ?_)))))
      exact ih (k + 1) (by omega) (by omega)
  have loop : ∀ (k j v : Nat) (l : List Nat), s.length - j = k → j ≤ s.length → digG b (s.drop j) = some l →
      Ev (fun n => ref02_number_L0 n (.str s) (.int .i64 (b : Int)) (.int .i64 (w : Int)) (.int .i64 (j : Int)) (.lst 1 (bitsD w v))) fun r => ∃ j' : Int, r = (false, [.str s, .int .i64 (b : Int), .int .i64 (w : Int), .int .i64 j', .lst 1 (bitsD w (l.foldl (fun a d => a * b + d) v))]) := by
    intro k
    induction k with
    | zero =>
      intro j v l hk hj hg
      have : j = s.length := by omega
      subst this
      rw [List.drop_length] at hg
      cases hg
      exact Ev.eq (fun n => ref02_number_L0_eq n _ _ _ _ _) (Ev.no (decide_eq_false (by omega)) (Ev.ret ⟨_, rfl⟩))
    | succ k ih =>
      intro j v l hk hj hg
      have hj2 : j < s.length := by omega
      have hw2 : IntKind.i64.wrap ((j : Int) + 1) = ((j + 1 : Nat) : Int) := wrap_succ (by omega)
      rw [drop_cons hj2] at hg
      have hg : (bif ((s[j].toNat : Int) == 95) then digG b (s.drop (j + 1)) else bif decide (valN s[j] < b) then (digG b (s.drop (j + 1))).map (valN s[j] :: ·) else none) = some l := hg
      refine Ev.eq (fun n => ref02_number_L0_eq n _ _ _ _ _) (Ev.yes (decide_eq_true (by omega)) (Ev.yes (in_range hj2) ?_))
      rw [get_strL hj2, Int.toNat_natCast, bitsD_zero, hw2]
      cases h95 : ((s[j].toNat : Int) == 95) with
      | true =>
        rw [h95] at hg
        exact Ev.yes rfl (ih (j + 1) v l (by omega) hj2 hg)
      | false =>
        rw [h95] at hg
        cases hlt : decide (valN s[j] < b) with
        | false => rw [hlt] at hg; cases hg
        | true =>
          rw [hlt] at hg
          obtain ⟨l', hl, rfl⟩ := Option.map_eq_some_iff.1 (show (digG b (s.drop (j + 1))).map (valN s[j] :: ·) = some l from hg)
          refine Ev.no rfl (Ev.yes hmk ?_)
          have m0 := mulLoop j v 0 b rfl (Nat.zero_le _)
          rw [Nat.mul_zero] at m0
          refine evLoop m0 (Ev.yes rfl ?_)
          refine evLoop (addLoop j hj2 (v * b) 0 (valN s[j]) rfl (Nat.zero_le _)) (Ev.yes rfl ?_)
          show Ev (fun n => ref02_number_L0 n (.str s) (.int .i64 (b : Int)) (.int .i64 (w : Int)) (.int .i64 (IntKind.i64.wrap ((j : Int) + 1))) (.lst 1 (bitsD w (v * b + valN s[j])))) _
          rw [hw2]
          exact ih (j + 1) (v * b + valN s[j]) l' (by omega) hj2 hl
  refine Ev.bindL (loop s.length 0 0 l rfl (Nat.zero_le _) hG) (fun ds h => by obtain ⟨_, h⟩ := h; cases h) fun ds h => ?_
  obtain ⟨j', h⟩ := h
  cases h
  exact Ev.yes rfl (Ev.ret rfl)
end Go.Proofs.YtkjocbdjenmegaaGreatDoor
