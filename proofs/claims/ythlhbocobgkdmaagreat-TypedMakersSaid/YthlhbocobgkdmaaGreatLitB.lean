/- Literals: Parse told exactly. -/
import Derived.Test.YthlhbocobgkdmaaGreatLitA
namespace Go.Proofs.YthlhbocobgkdmaaGreat
open Go.AE
set_option linter.unusedVariables false
set_option linter.unusedSimpArgs false
theorem ne_self {w : Nat} : ((w : Int) != (w : Int)) = false := by simp
theorem ne_zero {w : Nat} (h : 1 ≤ w) : ((w : Int) == 0) = false := by simp; omega
theorem bin_mul {w a b : Nat} (h1 : 1 ≤ w) (h2 : w ≤ 128) (ha : a < 2 ^ w) (hb : b < 2 ^ w) : Ev (fun n => bv_Bin n (.int .i64 2) (vec w a) (vec w b)) fun r => r = (true, [vec w (a * b % 2 ^ w), .int .i64 0]) :=
  Ev.eq (fun n => bv_Bin_eq n _ _ _ _ _) (Ev.no rfl (Ev.no rfl (Ev.no ne_self (Ev.no (ne_zero h1) (Ev.no rfl (Ev.no rfl (Ev.yes rfl (evCall (times_is h1 h2 ha hb) (Ev.yes rfl (Ev.ret rfl))))))))))
theorem bin_add {w a b : Nat} (h1 : 1 ≤ w) (h2 : w ≤ 128) (ha : a < 2 ^ w) (hb : b < 2 ^ w) : Ev (fun n => bv_Bin n (.int .i64 0) (vec w a) (vec w b)) fun r => r = (true, [vec w ((a + b) % 2 ^ w), .int .i64 0]) :=
  Ev.eq (fun n => bv_Bin_eq n _ _ _ _ _) (Ev.no rfl (Ev.no rfl (Ev.no ne_self (Ev.no (ne_zero h1) (Ev.yes rfl (evCall (plus_is (k := 0) h1 h2 ha hb (by decide)) (Ev.yes rfl (Ev.ret rfl))))))))
theorem un_neg {w a : Nat} (h1 : 1 ≤ w) (h2 : w ≤ 128) (ha : a < 2 ^ w) : Ev (fun n => bv_Un n (.int .i64 1) (vec w a)) fun r => r = (true, [vec w ((2 ^ w - a) % 2 ^ w), .int .i64 0]) :=
  Ev.eq (fun n => bv_Un_eq n _ _ _) (Ev.no rfl (Ev.no rfl (Ev.no (ne_zero h1) (Ev.no rfl (Ev.yes rfl (evCall (neg_is h1 h2 ha) (Ev.yes rfl (Ev.ret rfl))))))))
def valB (b : Nat) (l : List Nat) : Nat := l.foldl (fun a d => a * b + d) 0
theorem two_pos (w : Nat) : 0 < 2 ^ w := Nat.two_pow_pos w
/-- What a text comes to as a number: an error, or a width, a number, signed, sized. -/
inductive Num
  | bad (e : Nat)
  | ok (w n : Nat) (sg sz : Bool)
def Num.own : Num → List D
  | .bad e => [.agg [.int .i64 0, .lst 1 [], .bool false, .bool false], iD e]
  | .ok w n sg sz => [.agg [.int .i64 (w : Int), .lst 1 (wordsN w n), .bool sg, .bool sz], iD 0]
def Num.Ok : Num → Prop
  | .bad e => e ≠ 0
  | .ok w n sg sz => 1 ≤ w ∧ w ≤ 128 ∧ n < 2 ^ w ∧ (sz = false → w = 32)
def ofF (n : Nat) : Num := bif decide (n < 2147483648) then .ok 32 n true false else .bad 3
def plainF (s : List UInt8) : Num := match s with
  | [] => .bad 6
  | c :: t => match digF 10 (c :: t) with
    | none => .bad 5
    | some l => ofF (min (decV l) 2147483648)
def cutQ : List UInt8 → Option (List UInt8 × List UInt8)
  | [] => none
  | c :: t => bif c == 39 then some ([], t) else (cutQ t).map fun p => (c :: p.1, p.2)
def isS (c : UInt8) : Bool := c == 115 || c == 83
inductive Bsd
  | bad (e : Nat)
  | ok (t : List UInt8) (b : Nat) (sg : Bool)
def based1 (t : List UInt8) (sg : Bool) : Bsd := match t with
  | [] => .bad 6
  | c :: r => bif baseN c == 0 then .bad 5 else .ok r (baseN c) sg
def basedF (s : List UInt8) : Bsd := match s with
  | [] => .bad 6
  | c :: t => bif isS c then based1 t true else based1 (c :: t) false
def tailF (w : Nat) (sz : Bool) (r : List UInt8) : Num := match basedF r with
  | .bad e => .bad e
  | .ok t b sg => match t with
    | [] => .bad 6
    | c :: u => match digF b (c :: u) with
      | none => .bad 5
      | some l => bif decide (w < 1) then .bad 2 else bif decide (w > 128) then .bad 2 else .ok w (valB b l % 2 ^ w) sg sz
def parseF (s : List UInt8) : Num := match cutQ s with
  | none => plainF s
  | some (a, r) => match a with
    | [] => tailF 32 false r
    | c :: u => match digF 10 (c :: u) with
      | none => .bad 5
      | some l => tailF (min (decV l) 129) true r
theorem lt17 {l : List Nat} {b : Nat} (hb : b ≤ 16) (h : ∀ d ∈ l, d < b) : ∀ d ∈ l, d < 17 := fun d hd => by have := h d hd; omega
theorem cutQ_len : ∀ {s a r : List UInt8}, cutQ s = some (a, r) → s = a ++ 39 :: r ∧ idxStr [39] s 0 = (a.length : Int)
  | [], _, _, h => by cases h
  | c :: t, a, r, h => by
    unfold cutQ at h
    cases hc : c == 39 with
    | true =>
      rw [hc] at h
      cases h
      have : c = 39 := by simpa using hc
      subst this
      exact ⟨rfl, rfl⟩
    | false =>
      rw [hc] at h
      obtain ⟨p, hp, he⟩ := Option.map_eq_some_iff.1 (show (cutQ t).map (fun p => (c :: p.1, p.2)) = some (a, r) from h)
      obtain ⟨a', r'⟩ := p
      cases he
      obtain ⟨h1, h2⟩ := cutQ_len hp
      refine ⟨by rw [h1]; rfl, ?_⟩
      have hi : idxStr [39] (c :: t) 0 = idxStr [39] t 1 := by
        show (bif ([39] : List UInt8).isPrefixOf (c :: t) then ((0 : Nat) : Int) else idxStr [39] t 1) = _
        have : ([39] : List UInt8).isPrefixOf (c :: t) = false := by
          have h39 : ((39 : UInt8) == c) = false := by
            have := beq_eq_false_iff_ne.1 hc
            exact beq_eq_false_iff_ne.2 fun e => this e.symm
          simp [List.isPrefixOf, h39]
        rw [this]; rfl
      have sh : ∀ (s : List UInt8) (j : Nat), 0 ≤ idxStr [39] s 0 → idxStr [39] s j = (j : Int) + idxStr [39] s 0 := by
        intro s
        induction s with
        | nil => intro j h0; simp [idxStr] at h0
        | cons x s ih =>
          intro j h0
          unfold idxStr at h0 ⊢
          cases hp : ([39] : List UInt8).isPrefixOf (x :: s) with
          | true => simp
          | false =>
            rw [hp] at h0
            simp only [cond_false] at h0 ⊢
            by_cases h00 : 0 ≤ idxStr [39] s 0
            · rw [ih (j + 1) h00, ih (0 + 1) h00]; omega
            · exfalso
              have neg : ∀ (s : List UInt8) (j : Nat), ¬ 0 ≤ idxStr [39] s 0 → ¬ 0 ≤ idxStr [39] s j := by
                intro s
                induction s with
                | nil => intro j _; simp [idxStr]
                | cons y s ih2 =>
                  intro j hn
                  unfold idxStr at hn ⊢
                  cases hq : ([39] : List UInt8).isPrefixOf (y :: s) with
                  | true => rw [hq] at hn; exact absurd (Int.natCast_nonneg 0) hn
                  | false =>
                    rw [hq] at hn
                    simp only [cond_false] at hn ⊢
                    intro hj
                    by_cases h3 : 0 ≤ idxStr [39] s 0
                    · have : ∀ (s : List UInt8) (j k : Nat), 0 ≤ idxStr [39] s j → 0 ≤ idxStr [39] s k := by
                        intro s
                        induction s with
                        | nil => intro j k h; simp [idxStr] at h
                        | cons z s ih3 =>
                          intro j k h
                          unfold idxStr at h ⊢
                          cases hz : ([39] : List UInt8).isPrefixOf (z :: s) with
                          | true => exact Int.natCast_nonneg k
                          | false => rw [hz] at h; exact ih3 _ _ h
                      exact hn (this s 0 (0 + 1) h3)
                    · exact ih2 (j + 1) h3 hj
              exact neg s (0 + 1) h00 h0
      rw [hi, sh t 1 (by rw [h2]; omega), h2]
      simp only [List.length_cons]; omega
theorem cutQ_none : ∀ {s : List UInt8} (j : Nat), cutQ s = none → idxStr [39] s j = -1
  | [], _, _ => rfl
  | c :: t, j, h => by
    unfold cutQ at h
    cases hc : c == 39 with
    | true => rw [hc] at h; cases h
    | false =>
      rw [hc] at h
      have h := Option.map_eq_none_iff.1 (show (cutQ t).map (fun p => (c :: p.1, p.2)) = none from h)
      show (bif ([39] : List UInt8).isPrefixOf (c :: t) then (j : Int) else idxStr [39] t (j + 1)) = _
      have : ([39] : List UInt8).isPrefixOf (c :: t) = false := by
        have h39 : ((39 : UInt8) == c) = false := by
          have := beq_eq_false_iff_ne.1 hc
          exact beq_eq_false_iff_ne.2 fun e => this e.symm
        simp [List.isPrefixOf, h39]
      rw [this]
      exact cutQ_none (j + 1) h
def Bsd.own : Bsd → List D
  | .bad e => [.str [], .int .i64 0, .bool false, iD e]
  | .ok t b sg => [.str t, iD b, .bool sg, iD 0]
theorem drop1 (c : UInt8) (t : List UInt8) : ((c :: t).drop 1).take (((c :: t).length : Int).toNat - 1) = t := by
  show t.take _ = t
  rw [List.take_of_length_le (by simp only [List.length_cons]; omega)]
theorem slice1 (c : UInt8) (t : List UInt8) : (true && decide ((1 : Int) ≤ ((c :: t).length : Int)) && decide (((c :: t).length : Int) ≤ ((c :: t).length : Int))) = true := and_tt (and_tt rfl (decide_eq_true (by simp only [List.length_cons]; omega))) (decide_eq_true (Int.le_refl _))
theorem cons_in (c : UInt8) (t : List UInt8) : (true && decide ((0 : Int) < ((c :: t).length : Int))) = true := and_tt rfl (decide_eq_true (by simp only [List.length_cons]; omega))
theorem orS_all : ∀ k : Fin 256, (orI ((UInt8.ofFin k).toNat : Int) == 115) = isS (UInt8.ofFin k) := by decide +kernel
theorem orS (c : UInt8) : (orI (c.toNat : Int) == 115) = isS c := byByte (P := fun c => (orI (c.toNat : Int) == 115) = isS c) orS_all c
theorem base_zero (c : UInt8) : ((baseN c : Int) == 0) = (baseN c == 0) := by
  cases baseN c with
  | zero => rfl
  | succ k => show _ = false; simp; omega
theorem baseN_all : ∀ k : Fin 256, baseN (UInt8.ofFin k) ≤ 16 := by decide +kernel
theorem baseN_le (c : UInt8) : baseN c ≤ 16 := byByte (P := fun c => baseN c ≤ 16) baseN_all c
theorem based1_ok {t r : List UInt8} {b : Nat} {sg sg' : Bool} (h : based1 t sg' = .ok r b sg) : b ≤ 16 ∧ r.length ≤ t.length := by
  cases t with
  | nil => cases h
  | cons c u =>
    unfold based1 at h
    cases hb : baseN c == 0 with
    | true => simp [hb] at h
    | false =>
      simp [hb] at h
      obtain ⟨rfl, rfl, _⟩ := h
      exact ⟨baseN_le c, by simp⟩
theorem basedF_ok {s r : List UInt8} {b : Nat} {sg : Bool} (h : basedF s = .ok r b sg) : b ≤ 16 ∧ r.length ≤ s.length := by
  cases s with
  | nil => cases h
  | cons c t =>
    unfold basedF at h
    cases hc : isS c with
    | true =>
      simp only [hc, cond_true] at h
      have := based1_ok h
      exact ⟨this.1, by simp only [List.length_cons]; omega⟩
    | false =>
      simp only [hc, cond_false] at h
      exact based1_ok h
end Go.Proofs.YthlhbocobgkdmaaGreat
