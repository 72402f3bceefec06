/- The reference's literals: Parse, Text, Int told exactly. -/
import Derived.Test.YtkjocbdjenmegaaDoorRefB
namespace Go.Proofs.YtkjocbdjenmegaaDoor
open Go.AE
set_option linter.unusedVariables false
def Num.ref : Num → List D
  | .bad e => [.agg [.lst 1 [], .bool false, .bool false], iD e]
  | .ok w n sg sz => [.agg [.lst 1 (bitsD w n), .bool sg, .bool sz], iD 0]
theorem decV_nil : decV [] = 0 := rfl
def tailN (w : Nat) (sz : Bool) (b : Nat) (sg : Bool) (u : List UInt8) : Num := match u with
  | [] => .bad 6
  | c :: t => match digF b (c :: t) with
    | none => .bad 5
    | some l => bif decide (w < 1) then .bad 2 else bif decide (w > 128) then .bad 2 else .ok w (valB b l % 2 ^ w) sg sz
def tailB (w : Nat) (sz : Bool) (x : Bsd) : Num := match x with
  | .bad e => .bad e
  | .ok t b sg => tailN w sz b sg t
theorem tailF_eq (w : Nat) (sz : Bool) (r : List UInt8) : tailF w sz r = tailB w sz (basedF r) := by
  unfold tailF tailB
  cases basedF r with
  | bad e => rfl
  | ok t b sg => cases t <;> rfl
theorem byte_eq (c k : UInt8) : ((c.toNat : Int) == (k.toNat : Int)) = (c == k) := by
  cases h : c == k with
  | true =>
    have : c = k := eq_of_beq h
    subst this
    simp
  | false =>
    have h := beq_eq_false_iff_ne.1 h
    have : c.toNat ≠ k.toNat := fun e => h (UInt8.toNat_inj.1 e)
    simp; omega
theorem plainF_ne {s : List UInt8} {e : Nat} (h : plainF s = .bad e) : e ≠ 0 := by
  cases s with
  | nil => cases h; decide
  | cons c t =>
    have h : (match digF 10 (c :: t) with | none => Num.bad 5 | some l => ofF (min (decV l) 2147483648)) = .bad e := h
    cases hF : digF 10 (c :: t) with
    | none => rw [hF] at h; cases h; decide
    | some l =>
      rw [hF] at h
      have h : (bif decide (min (decV l) 2147483648 < 2147483648) then Num.ok 32 (min (decV l) 2147483648) true false else .bad 3) = .bad e := h
      cases hd : decide (min (decV l) 2147483648 < 2147483648) with
      | true => rw [hd] at h; cases h
      | false => rw [hd] at h; cases h; decide
theorem based1_ne {t : List UInt8} {sg : Bool} {e : Nat} (h : based1 t sg = .bad e) : e ≠ 0 := by
  cases t with
  | nil => cases h; decide
  | cons c u =>
    have h : (bif baseN c == 0 then Bsd.bad 5 else .ok u (baseN c) sg) = .bad e := h
    cases hb : baseN c == 0 with
    | true => rw [hb] at h; cases h; decide
    | false => rw [hb] at h; cases h
theorem basedF_ne {s : List UInt8} {e : Nat} (h : basedF s = .bad e) : e ≠ 0 := by
  cases s with
  | nil => cases h; decide
  | cons c t =>
    have h : (bif isS c then based1 t true else based1 (c :: t) false) = .bad e := h
    cases hc : isS c with
    | true => rw [hc] at h; exact based1_ne (t := t) (sg := true) h
    | false => rw [hc] at h; exact based1_ne (t := c :: t) (sg := false) h
theorem tailN_ok (w : Nat) (sz : Bool) (b : Nat) (sg : Bool) (u : List UInt8) (hsz : sz = false → w = 32) : Num.Ok (tailN w sz b sg u) := by
  cases u with
  | nil => exact (by decide : (6 : Nat) ≠ 0)
  | cons c t =>
    show Num.Ok (match digF b (c :: t) with | none => .bad 5 | some l => bif decide (w < 1) then .bad 2 else bif decide (w > 128) then .bad 2 else .ok w (valB b l % 2 ^ w) sg sz)
    cases digF b (c :: t) with
    | none => exact (by decide : (5 : Nat) ≠ 0)
    | some l =>
      show Num.Ok (bif decide (w < 1) then .bad 2 else bif decide (w > 128) then .bad 2 else .ok w (valB b l % 2 ^ w) sg sz)
      by_cases h1 : w < 1
      · rw [decide_eq_true h1]; exact (by decide : (2 : Nat) ≠ 0)
      · rw [decide_eq_false h1]
        by_cases h2 : w > 128
        · rw [decide_eq_true h2]; exact (by decide : (2 : Nat) ≠ 0)
        · rw [decide_eq_false h2]
          exact ⟨by omega, by omega, Nat.mod_lt _ (two_pos w), hsz⟩
theorem tailF_ok (w : Nat) (sz : Bool) (r : List UInt8) (hsz : sz = false → w = 32) : Num.Ok (tailF w sz r) := by
  rw [tailF_eq]
  unfold tailB
  cases hb : basedF r with
  | bad e => exact basedF_ne hb
  | ok t b sg => exact tailN_ok w sz b sg t hsz
theorem plainF_ok (s : List UInt8) : Num.Ok (plainF s) := by
  cases hp : plainF s with
  | bad e => exact plainF_ne hp
  | ok w n sg sz =>
    cases s with
    | nil => cases hp
    | cons c t =>
      have h : (match digF 10 (c :: t) with | none => Num.bad 5 | some l => ofF (min (decV l) 2147483648)) = .ok w n sg sz := hp
      cases hF : digF 10 (c :: t) with
      | none => rw [hF] at h; cases h
      | some l =>
        rw [hF] at h
        have h : (bif decide (min (decV l) 2147483648 < 2147483648) then Num.ok 32 (min (decV l) 2147483648) true false else .bad 3) = .ok w n sg sz := h
        cases hd : decide (min (decV l) 2147483648 < 2147483648) with
        | false => rw [hd] at h; cases h
        | true =>
          rw [hd] at h
          cases h
          have := of_decide_eq_true hd
          exact ⟨by decide, by decide, by have : (2 : Nat) ^ 32 = 4294967296 := rfl; omega, fun _ => rfl⟩
theorem parseF_ok (s : List UInt8) : Num.Ok (parseF s) := by
  unfold parseF
  cases cutQ s with
  | none => exact plainF_ok s
  | some p =>
    obtain ⟨a, r⟩ := p
    cases a with
    | nil => exact tailF_ok 32 false r fun _ => rfl
    | cons c u =>
      show Num.Ok (match digF 10 (c :: u) with | none => .bad 5 | some l => tailF (min (decV l) 129) true r)
      cases digF 10 (c :: u) with
      | none => exact (by decide : (5 : Nat) ≠ 0)
      | some l => exact tailF_ok _ true r fun h => by cases h
end Go.Proofs.YtkjocbdjenmegaaDoor
