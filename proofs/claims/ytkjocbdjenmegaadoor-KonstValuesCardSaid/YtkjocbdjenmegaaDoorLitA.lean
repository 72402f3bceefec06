/- Literals: values of digits, digits, small numbers, bases, told exactly. -/
import Derived.Test.YtkjocbdjenmegaaDoorBv3
namespace Go.Proofs.YtkjocbdjenmegaaDoor
open Go.AE
set_option linter.unusedVariables false
theorem evCall {t : Nat → Out} {k : List D → Nat → Out} {ds : List D} {P : Bool × List D → Prop} (h : Ev t fun r => r = (true, ds)) (hk : Ev (k ds) P) : Ev (fun n => AE.bindC (t n) fun ds => k ds n) P :=
  Ev.bindC h fun _ _ e => by cases e; exact ⟨rfl, hk⟩
theorem evLoop {t : Nat → Out} {k : List D → Nat → Out} {ds : List D} {P : Bool × List D → Prop} (h : Ev t fun r => r = (false, ds)) (hk : Ev (k ds) P) : Ev (fun n => AE.bindL (t n) fun ds => k ds n) P :=
  Ev.bindL h (fun _ e => by cases e) fun _ e => by cases e; exact hk
theorem evOut {t : Nat → Out} {k : List D → Nat → Out} {ds : List D} {P : Bool × List D → Prop} (h : Ev t fun r => r = (true, ds)) (hk : P (true, ds)) : Ev (fun n => AE.bindL (t n) fun ds => k ds n) P :=
  Ev.bindL h (fun _ e => by cases e; exact hk) fun _ e => by cases e
theorem evDfn {t u : Nat → Out} {P : Bool × List D → Prop} (he : ∀ n, t n = u n) (h : Ev u P) : Ev t P := by
  have : t = u := funext he
  rw [this]; exact h
theorem evAgree {t : Nat → Out} {a b : Bool × List D} (h : Ev t fun r => r = a) (h' : Ev t fun r => r = b) : a = b := by
  obtain ⟨r, ⟨h1, h2⟩, _⟩ := (h.same h').run
  exact h1.symm.trans h2
def iD (x : Nat) : D := .int .i64 (x : Int)
def valN (c : UInt8) : Nat := bif decide (48 ≤ c.toNat) && decide (c.toNat ≤ 57) then c.toNat - 48 else bif decide (97 ≤ c.toNat) && decide (c.toNat ≤ 102) then c.toNat - 87 else bif decide (65 ≤ c.toNat) && decide (c.toNat ≤ 70) then c.toNat - 55 else 16
def hexS : List UInt8 := [48, 49, 50, 51, 52, 53, 54, 55, 56, 57, 97, 98, 99, 100, 101, 102]
def hexI (y : Int) : Int := bif decide (idxByte y.toNat.toUInt8 hexS 0 ≥ 0) then idxByte y.toNat.toUInt8 hexS 0 else 16
def valI (x : Int) : Int := bif decide (x ≥ 65) then (bif decide (x ≤ 70) then hexI (IntKind.u8.wrap (x + 32)) else hexI x) else hexI x
theorem byByte {P : UInt8 → Prop} (h : ∀ k : Fin 256, P (UInt8.ofFin k)) (c : UInt8) : P c := by
  have := h c.toFin
  exact this
theorem valI_all : ∀ k : Fin 256, valI ((UInt8.ofFin k).toNat : Int) = (valN (UInt8.ofFin k) : Int) := by decide +kernel
theorem valI_is (c : UInt8) : valI (c.toNat : Int) = (valN c : Int) := byByte (P := fun c => valI (c.toNat : Int) = (valN c : Int)) valI_all c
theorem valN_all : ∀ k : Fin 256, valN (UInt8.ofFin k) ≤ 16 := by decide +kernel
theorem valN_le (c : UInt8) : valN c ≤ 16 := byByte (P := fun c => valN c ≤ 16) valN_all c
theorem indexByte_is (s : List UInt8) (y : Int) : Ev (fun n => strings_IndexByte n (.str s) (.int .u8 y)) fun r => r = (true, [.int .i64 (idxByte y.toNat.toUInt8 s 0)]) := by
  refine Ev.eq (fun n => strings_IndexByte_eq n _ _) (evCall (Ev.eq (fun n => internal_stringslite_IndexByte_eq n _ _) (Ev.ret rfl)) (Ev.yes rfl (Ev.ret rfl)))
theorem value_is (c : UInt8) : Ev (fun n => lit_value n (.int .u8 (c.toNat : Int))) fun r => r = (true, [iD (valN c)]) := by
  unfold iD
  rw [← valI_is]
  have tail : ∀ y : Int, Ev (fun n => AE.bindC (strings_IndexByte n (.str hexS) (.int .u8 y)) fun r1 => bif chk strings_IndexByte.osk r1 then (bif (decide ((nth r1 0).i ≥ (0 : Int))) then (some (true, [(.int .i64 (nth r1 0).i)])) else (some (true, [(.int .i64 (16 : Int))]))) else none) fun r => r = (true, [.int .i64 (hexI y)]) := by
    intro y
    refine evCall (indexByte_is _ _) (Ev.yes rfl ?_)
    unfold hexI
    cases h : decide (idxByte y.toNat.toUInt8 hexS 0 ≥ 0) with
    | true => exact Ev.yes h (Ev.ret rfl)
    | false => exact Ev.no h (Ev.ret rfl)
  refine Ev.eq (fun n => lit_value_eq n _) ?_
  unfold valI
  cases h1 : decide ((c.toNat : Int) ≥ 65) with
  | true =>
    cases h2 : decide ((c.toNat : Int) ≤ 70) with
    | true => exact Ev.yes rfl (Ev.yes rfl (tail _))
    | false => exact Ev.yes rfl (Ev.no rfl (tail _))
  | false => exact Ev.no rfl (tail _)
def digG (b : Nat) : List UInt8 → Option (List Nat)
  | [] => some []
  | c :: t => bif ((c.toNat : Int) == 95) then digG b t else bif decide (valN c < b) then (digG b t).map (valN c :: ·) else none
def digF (b : Nat) : List UInt8 → Option (List Nat)
  | [] => none
  | c :: t => bif decide (valN c < b) then (digG b t).map (valN c :: ·) else none
def digitsR (b : Nat) (s : List UInt8) : List D := match s with
  | [] => [.int .i64 6, .lst 1 []]
  | c :: t => match digF b (c :: t) with
    | none => [.int .i64 5, .lst 1 []]
    | some l => [.int .i64 0, .lst 1 (l.map iD)]
theorem digG_len {b : Nat} : ∀ {s : List UInt8} {l : List Nat}, digG b s = some l → l.length ≤ s.length ∧ ∀ d ∈ l, d < b
  | [], l, h => by cases h; exact ⟨Nat.le_refl _, fun d hd => by simp at hd⟩
  | c :: t, l, h => by
    unfold digG at h
    cases h1 : ((c.toNat : Int) == 95) with
    | true =>
      rw [h1] at h
      have := digG_len (s := t) h
      exact ⟨by simp only [List.length_cons]; omega, this.2⟩
    | false =>
      rw [h1] at h
      cases h2 : decide (valN c < b) with
      | false => rw [h2] at h; cases h
      | true =>
        rw [h2] at h
        obtain ⟨l', hl, rfl⟩ := Option.map_eq_some_iff.1 (show (digG b t).map (valN c :: ·) = some l from h)
        have := digG_len (s := t) hl
        refine ⟨by simp only [List.length_cons]; omega, fun d hd => ?_⟩
        rcases List.mem_cons.1 hd with rfl | hd
        · exact of_decide_eq_true h2
        · exact this.2 d hd
theorem digF_len {b : Nat} {s : List UInt8} {l : List Nat} (h : digF b s = some l) : l.length ≤ s.length ∧ ∀ d ∈ l, d < b := by
  cases s with
  | nil => cases h
  | cons c t =>
    replace h : (bif decide (valN c < b) then (digG b t).map (valN c :: ·) else none) = some l := h
    cases h2 : decide (valN c < b) with
    | false => rw [h2] at h; cases h
    | true =>
      rw [h2] at h
      obtain ⟨l', hl, rfl⟩ := Option.map_eq_some_iff.1 (show (digG b t).map (valN c :: ·) = some l from h)
      have := digG_len (s := t) hl
      refine ⟨by simp only [List.length_cons]; omega, fun d hd => ?_⟩
      rcases List.mem_cons.1 hd with rfl | hd
      · exact of_decide_eq_true h2
      · exact this.2 d hd
theorem get_strL {s : List UInt8} {j : Nat} (h : j < s.length) : s[((j : Nat) : Int).toNat]?.getD 0 = s[j] := by
  rw [Int.toNat_natCast, List.getElem?_eq_getElem h]; rfl
theorem dec_nat (x b : Nat) : decide ((x : Int) < (b : Int)) = decide (x < b) := by
  by_cases h : x < b
  · rw [decide_eq_true h, decide_eq_true (by omega)]
  · rw [decide_eq_false h, decide_eq_false (by omega)]
theorem digits_is {s : List UInt8} (hs : s.length ≤ 1048576) (b : Nat) : Ev (fun n => lit_digits n (.str s) (.int .i64 (b : Int))) fun r => r = (true, digitsR b s) := by
  refine Ev.eq (fun n => lit_digits_eq n s _) ?_
  cases s with
  | nil => exact Ev.yes rfl (Ev.ret rfl)
  | cons c0 t0 =>
    refine Ev.no rfl ?_
    generalize hst : c0 :: t0 = s at hs ⊢
    have loop : ∀ (m j : Nat) (out : List D), s.length - j = m → j ≤ s.length → 1 ≤ j → out.length ≤ j →
        Ev (fun n => lit_digits_L0 n (.str s) (.int .i64 (b : Int)) (.int .i64 (s.length : Int)) (.int .i64 (j : Int)) (.lst 1 out)) fun r => r = match digG b (s.drop j) with
          | none => (true, [.int .i64 5, .lst 1 []])
          | some l => (false, [.str s, .int .i64 (b : Int), .int .i64 (s.length : Int), .int .i64 (s.length : Int), .lst 1 (out ++ l.map iD)]) := by
      intro m
      induction m with
      | zero =>
        intro j out hm hj h1 ho
        have : j = s.length := by omega
        subst this
        refine Ev.eq (fun n => lit_digits_L0_eq n _ _ _ _ _) (Ev.no (decide_eq_false (by omega)) (Ev.ret ?_))
        rw [List.drop_length]
        show _ = (false, [_, _, _, _, D.lst 1 (out ++ [])])
        rw [List.append_nil]
      | succ m ih =>
        intro j out hm hj h1 ho
        have hj2 : j < s.length := by omega
        have hw : IntKind.i64.wrap ((j : Int) + 1) = ((j + 1 : Nat) : Int) := wrap_succ (by omega)
        refine Ev.eq (fun n => lit_digits_L0_eq n _ _ _ _ _) (Ev.yes (decide_eq_true (by omega)) (Ev.yes (in_range hj2) ?_))
        rw [get_strL hj2, hw, drop_cons hj2]
        refine evCall (value_is _) (Ev.yes rfl (Ev.yes (in_range hj2) ?_))
        have i1 := ih (j + 1) out (by omega) hj2 (by omega) (by omega)
        have i2 := ih (j + 1) (out ++ [iD (valN s[j])]) (by omega) hj2 (by omega) (by simp only [List.length_append, List.length_singleton]; omega)
        unfold digG
        have hd := dec_nat (valN s[j]) b
        cases h95 : ((s[j].toNat : Int) == 95) with
        | true =>
          refine Ev.yes rfl (Ev.yes (decide_eq_true (by omega)) ?_)
          exact i1
        | false =>
          refine Ev.no rfl ?_
          cases hlt : decide (valN s[j] < b) with
          | true =>
            rw [hlt] at hd
            refine Ev.yes hd (Ev.yes (Nat.ble_eq_true_of_le (by simp only [maxLst]; omega)) (i2.mono fun r hr => ?_))
            rw [hr]
            cases digG b (s.drop (j + 1)) with
            | none => rfl
            | some l =>
              show (false, [_, _, _, _, D.lst 1 (out ++ [iD (valN s[j])] ++ l.map iD)]) = (false, [_, _, _, _, D.lst 1 (out ++ (valN s[j] :: l).map iD)])
              simp
          | false =>
            rw [hlt] at hd
            exact Ev.no hd (Ev.ret rfl)
    have hl0 : 0 < s.length := by rw [← hst]; simp
    have hs0 : s[0] = c0 := by subst hst; rfl
    have hd0 : s.drop 1 = t0 := by subst hst; rfl
    have first : Ev (fun n => lit_digits_L0 n (.str s) (.int .i64 (b : Int)) (.int .i64 (s.length : Int)) (.int .i64 0) (.lst 1 [])) fun r => r = match digF b s with
          | none => (true, [.int .i64 5, .lst 1 []])
          | some l => (false, [.str s, .int .i64 (b : Int), .int .i64 (s.length : Int), .int .i64 (s.length : Int), .lst 1 (l.map iD)]) := by
      refine Ev.eq (fun n => lit_digits_L0_eq n _ _ _ _ _) (Ev.yes (decide_eq_true (by omega)) (Ev.yes (in_range (j := 0) hl0) ?_))
      have hg := get_strL hl0
      rw [show s[(0 : Int).toNat]?.getD 0 = s[0] from hg, hs0]
      refine evCall (value_is _) (Ev.yes rfl (Ev.yes (in_range (j := 0) hl0) ?_))
      have i2 := loop (s.length - 1) 1 [iD (valN c0)] (by omega) hl0 (by omega) (by simp)
      rw [hd0] at i2
      have hd := dec_nat (valN c0) b
      have body : Ev (fun n => bif (decide ((nth [iD (valN c0)] 0).i < (b : Int))) then (bif Nat.ble (([] : List D).length + 1) maxLst then (lit_digits_L0 n (.str s) (.int .i64 (b : Int)) (.int .i64 (s.length : Int)) (.int .i64 (IntKind.i64.wrap ((0 : Int) + (1 : Int)))) (.lst 1 ([] ++ ([(.int .i64 (nth [iD (valN c0)] 0).i)] : List D)))) else none) else (some (true, [(.int .i64 (5 : Int)), (.lst 1 ([] : List D))]))) fun r => r = match digF b s with
          | none => (true, [.int .i64 5, .lst 1 []])
          | some l => (false, [.str s, .int .i64 (b : Int), .int .i64 (s.length : Int), .int .i64 (s.length : Int), .lst 1 (l.map iD)]) := by
        have hF : digF b s = (bif decide (valN c0 < b) then (digG b t0).map (valN c0 :: ·) else none) := by subst hst; rfl
        rw [hF]
        cases hlt : decide (valN c0 < b) with
        | true =>
          rw [hlt] at hd
          refine Ev.yes hd (Ev.yes rfl (i2.mono fun r hr => ?_))
          rw [hr]
          cases digG b t0 with
          | none => rfl
          | some l => rfl
        | false =>
          rw [hlt] at hd
          exact Ev.no hd (Ev.ret rfl)
      cases h95 : ((c0.toNat : Int) == 95) with
      | true => exact Ev.yes rfl (Ev.no rfl body)
      | false => exact Ev.no rfl body
    have hR : digitsR b s = match digF b s with
        | none => [.int .i64 5, .lst 1 []]
        | some l => [.int .i64 0, .lst 1 (l.map iD)] := by subst hst; rfl
    rw [hR]
    cases hF : digF b s with
    | none => rw [hF] at first; exact evOut first rfl
    | some l => rw [hF] at first; exact evLoop first (Ev.yes rfl (Ev.ret rfl))
def decV (l : List Nat) : Nat := l.foldl (fun a d => 10 * a + d) 0
theorem min_step (v m d : Nat) : min (10 * min v m + d) m = min (10 * v + d) m := by omega
theorem small_is {l : List Nat} (hd : ∀ d ∈ l, d < 17) (hl : l.length ≤ 1048576) {m : Nat} (hm : m ≤ 4294967296) : Ev (fun n => lit_small n (.lst 1 (l.map iD)) (.int .i64 (m : Int))) fun r => r = (true, [iD (min (decV l) m)]) := by
  refine Ev.eq (fun n => lit_small_eq n _ _) ?_
  rw [List.length_map]
  have loop : ∀ (k j v : Nat), l.length - j = k → j ≤ l.length →
      Ev (fun n => lit_small_L0 n (.int .i64 (m : Int)) (iD (min v m)) (.lst 1 (l.map iD)) (.int .i64 (l.length : Int)) (.int .i64 (j : Int))) fun r => r = (false, [.int .i64 (m : Int), iD (min ((l.drop j).foldl (fun a d => 10 * a + d) v) m), .lst 1 (l.map iD), .int .i64 (l.length : Int), .int .i64 (l.length : Int)]) := by
    intro k
    induction k with
    | zero =>
      intro j v hk hj
      have : j = l.length := by omega
      subst this
      refine Ev.eq (fun n => lit_small_L0_eq n _ _ _ _ _) (Ev.no (decide_eq_false (by omega)) (Ev.ret ?_))
      rw [List.drop_length]; rfl
    | succ k ih =>
      intro j v hk hj
      have hj2 : j < l.length := by omega
      have hj3 : j < (l.map iD).length := by rw [List.length_map]; exact hj2
      have hw : IntKind.i64.wrap ((j : Int) + 1) = ((j + 1 : Nat) : Int) := wrap_succ (by omega)
      have hdj := hd l[j] (List.getElem_mem hj2)
      refine Ev.eq (fun n => lit_small_L0_eq n _ _ _ _ _) (Ev.yes (decide_eq_true (by omega)) (Ev.yes (in_range hj3) ?_))
      rw [get_nat hj3, hw, List.getElem_map]
      refine Ev.yes rfl ?_
      have e1 : IntKind.i64.wrap (10 * ((min v m : Nat) : Int)) = ((10 * min v m : Nat) : Int) := by rw [wrap_id (by omega) (by omega)]; omega
      have e2 : IntKind.i64.wrap (((10 * min v m : Nat) : Int) + (l[j] : Int)) = ((10 * min v m + l[j] : Nat) : Int) := by rw [wrap_id (by omega) (by omega)]; omega
      show Ev (fun n => lit_small_L0 n (.int .i64 (m : Int)) (.int .i64 (min (IntKind.i64.wrap (IntKind.i64.wrap (10 * ((min v m : Nat) : Int)) + (l[j] : Int))) (m : Int))) (.lst 1 (l.map iD)) (.int .i64 (l.length : Int)) (.int .i64 ((j + 1 : Nat) : Int))) _
      rw [e1, e2]
      have e3 : min ((10 * min v m + l[j] : Nat) : Int) (m : Int) = ((min (10 * v + l[j]) m : Nat) : Int) := by omega
      rw [e3]
      refine (ih (j + 1) (10 * v + l[j]) (by omega) hj2).mono fun r hr => ?_
      rw [hr, drop_cons hj2]; rfl
  have l0 := loop l.length 0 0 rfl (Nat.zero_le _)
  rw [show iD (min 0 m) = .int .i64 0 by unfold iD; rw [Nat.zero_min]; rfl, List.drop_zero] at l0
  exact evLoop l0 (Ev.yes rfl (Ev.ret rfl))
def baseN (c : UInt8) : Nat := bif c == 98 || c == 66 then 2 else bif c == 111 || c == 79 then 8 else bif c == 100 || c == 68 then 10 else bif c == 104 || c == 72 then 16 else 0
def orI (x : Int) : Int := IntKind.u8.wrap ((BitVec.ofInt (IntKind.u8).bits x ||| BitVec.ofInt (IntKind.u8).bits 32).toNat : Int)
def baseI (x : Int) : Int := bif orI x == 98 then 2 else bif orI x == 111 then 8 else bif orI x == 100 then 10 else bif orI x == 104 then 16 else 0
theorem baseI_all : ∀ k : Fin 256, baseI ((UInt8.ofFin k).toNat : Int) = (baseN (UInt8.ofFin k) : Int) := by decide +kernel
theorem base_is (c : UInt8) : Ev (fun n => lit_base n (.int .u8 (c.toNat : Int))) fun r => r = (true, [iD (baseN c)]) := by
  unfold iD
  rw [← byByte (P := fun c => baseI (c.toNat : Int) = (baseN c : Int)) baseI_all c]
  refine Ev.eq (fun n => lit_base_eq n _) ?_
  unfold baseI
  show Ev (fun n => bif (orI (c.toNat : Int)) == 98 then _ else bif (orI (c.toNat : Int)) == 111 then _ else bif (orI (c.toNat : Int)) == 100 then _ else bif (orI (c.toNat : Int)) == 104 then _ else _) _
  generalize orI (c.toNat : Int) = y
  cases h1 : y == 98 with
  | true => exact Ev.yes rfl (Ev.ret rfl)
  | false =>
    refine Ev.no rfl ?_
    cases h2 : y == 111 with
    | true => exact Ev.yes rfl (Ev.ret rfl)
    | false =>
      refine Ev.no rfl ?_
      cases h3 : y == 100 with
      | true => exact Ev.yes rfl (Ev.ret rfl)
      | false =>
        refine Ev.no rfl ?_
        cases h4 : y == 104 with
        | true => exact Ev.yes rfl (Ev.ret rfl)
        | false => exact Ev.no rfl (Ev.ret rfl)
end Go.Proofs.YtkjocbdjenmegaaDoor
