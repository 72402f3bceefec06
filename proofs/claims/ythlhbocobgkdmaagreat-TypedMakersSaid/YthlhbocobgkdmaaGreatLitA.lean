/- Literals: values of digits, digits, small numbers, bases, told exactly. -/
import Derived.Test.YthlhbocobgkdmaaGreatBv3
namespace Go.Proofs.YthlhbocobgkdmaaGreat
open Go.AE
set_option linter.unusedVariables false
set_option linter.unusedSimpArgs false
theorem evCall {t : Nat → Out} {k : List D → Nat → Out} {ds : List D} {P : Bool × List D → Prop} (h : Ev t fun r => r = (true, ds)) (hk : Ev (k ds) P) : Ev (fun n => AE.bindC (t n) fun ds => k ds n) P :=
  Ev.bindC h fun _ _ e => by cases e; exact ⟨rfl, hk⟩
theorem evLoop {t : Nat → Out} {k : List D → Nat → Out} {ds : List D} {P : Bool × List D → Prop} (h : Ev t fun r => r = (false, ds)) (hk : Ev (k ds) P) : Ev (fun n => AE.bindL (t n) fun ds => k ds n) P :=
  Ev.bindL h (fun _ e => by cases e) fun _ e => by cases e; exact hk
theorem evOut {t : Nat → Out} {k : List D → Nat → Out} {ds : List D} {P : Bool × List D → Prop} (h : Ev t fun r => r = (true, ds)) (hk : P (true, ds)) : Ev (fun n => AE.bindL (t n) fun ds => k ds n) P :=
  Ev.bindL h (fun _ e => by cases e; exact hk) fun _ e => by cases e
theorem evDfn {t u : Nat → Out} {P : Bool × List D → Prop} (he : ∀ n, t n = u n) (h : Ev u P) : Ev t P := by
  have : t = u := funext he
  rw [this]; exact h
theorem evAgree {t : Nat → Out} {a b : Bool × List D} (h : Ev t fun r => r = a) (h' : Ev t fun r => r = b) : a = b := by
  obtain ⟨r, ⟨h1, h2⟩, _⟩ := (h.same h').run
  exact h1.symm.trans h2
def iD (x : Nat) : D := .int .i64 (x : Int)
def valN (c : UInt8) : Nat := bif decide (48 ≤ c.toNat) && decide (c.toNat ≤ 57) then c.toNat - 48 else bif decide (97 ≤ c.toNat) && decide (c.toNat ≤ 102) then c.toNat - 87 else bif decide (65 ≤ c.toNat) && decide (c.toNat ≤ 70) then c.toNat - 55 else 16
def hexS : List UInt8 := [48, 49, 50, 51, 52, 53, 54, 55, 56, 57, 97, 98, 99, 100, 101, 102]
def hexI (y : Int) : Int := bif decide (idxByte y.toNat.toUInt8 hexS 0 ≥ 0) then idxByte y.toNat.toUInt8 hexS 0 else 16
def valI (x : Int) : Int := bif decide (x ≥ 65) then (bif decide (x ≤ 70) then hexI (IntKind.u8.wrap (x + 32)) else hexI x) else hexI x
theorem byByte {P : UInt8 → Prop} (h : ∀ k : Fin 256, P (UInt8.ofFin k)) (c : UInt8) : P c := by
  have := h c.toFin
  exact this
theorem valI_all : ∀ k : Fin 256, valI ((UInt8.ofFin k).toNat : Int) = (valN (UInt8.ofFin k) : Int) := by decide +kernel
theorem valI_is (c : UInt8) : valI (c.toNat : Int) = (valN c : Int) := byByte (P := fun c => valI (c.toNat : Int) = (valN c : Int)) valI_all c
theorem valN_all : ∀ k : Fin 256, valN (UInt8.ofFin k) ≤ 16 := by decide +kernel
theorem valN_le (c : UInt8) : valN c ≤ 16 := byByte (P := fun c => valN c ≤ 16) valN_all c
def digG (b : Nat) : List UInt8 → Option (List Nat)
  | [] => some []
  | c :: t => bif ((c.toNat : Int) == 95) then digG b t else bif decide (valN c < b) then (digG b t).map (valN c :: ·) else none
def digF (b : Nat) : List UInt8 → Option (List Nat)
  | [] => none
  | c :: t => bif decide (valN c < b) then (digG b t).map (valN c :: ·) else none
def digitsR (b : Nat) (s : List UInt8) : List D := match s with
  | [] => [.int .i64 6, .lst 1 []]
  | c :: t => match digF b (c :: t) with
    | none => [.int .i64 5, .lst 1 []]
    | some l => [.int .i64 0, .lst 1 (l.map iD)]
theorem digG_len {b : Nat} : ∀ {s : List UInt8} {l : List Nat}, digG b s = some l → l.length ≤ s.length ∧ ∀ d ∈ l, d < b
  | [], l, h => by cases h; exact ⟨Nat.le_refl _, fun d hd => by simp at hd⟩
  | c :: t, l, h => by
    unfold digG at h
    cases h1 : ((c.toNat : Int) == 95) with
    | true =>
      rw [h1] at h
      have := digG_len (s := t) h
      exact ⟨by simp only [List.length_cons]; omega, this.2⟩
    | false =>
      rw [h1] at h
      cases h2 : decide (valN c < b) with
      | false => rw [h2] at h; cases h
      | true =>
        rw [h2] at h
        obtain ⟨l', hl, rfl⟩ := Option.map_eq_some_iff.1 (show (digG b t).map (valN c :: ·) = some l from h)
        have := digG_len (s := t) hl
        refine ⟨by simp only [List.length_cons]; omega, fun d hd => ?_⟩
        rcases List.mem_cons.1 hd with rfl | hd
        · exact of_decide_eq_true h2
        · exact this.2 d hd
theorem digF_len {b : Nat} {s : List UInt8} {l : List Nat} (h : digF b s = some l) : l.length ≤ s.length ∧ ∀ d ∈ l, d < b := by
  cases s with
  | nil => cases h
  | cons c t =>
    replace h : (bif decide (valN c < b) then (digG b t).map (valN c :: ·) else none) = some l := h
    cases h2 : decide (valN c < b) with
    | false => rw [h2] at h; cases h
    | true =>
      rw [h2] at h
      obtain ⟨l', hl, rfl⟩ := Option.map_eq_some_iff.1 (show (digG b t).map (valN c :: ·) = some l from h)
      have := digG_len (s := t) hl
      refine ⟨by simp only [List.length_cons]; omega, fun d hd => ?_⟩
      rcases List.mem_cons.1 hd with rfl | hd
      · exact of_decide_eq_true h2
      · exact this.2 d hd
theorem get_strL {s : List UInt8} {j : Nat} (h : j < s.length) : s[((j : Nat) : Int).toNat]?.getD 0 = s[j] := by
  rw [Int.toNat_natCast, List.getElem?_eq_getElem h]; rfl
theorem dec_nat (x b : Nat) : decide ((x : Int) < (b : Int)) = decide (x < b) := by
  by_cases h : x < b
  · rw [decide_eq_true h, decide_eq_true (by omega)]
  · rw [decide_eq_false h, decide_eq_false (by omega)]
def decV (l : List Nat) : Nat := l.foldl (fun a d => 10 * a + d) 0
theorem min_step (v m d : Nat) : min (10 * min v m + d) m = min (10 * v + d) m := by omega
def baseN (c : UInt8) : Nat := bif c == 98 || c == 66 then 2 else bif c == 111 || c == 79 then 8 else bif c == 100 || c == 68 then 10 else bif c == 104 || c == 72 then 16 else 0
def orI (x : Int) : Int := IntKind.u8.wrap ((BitVec.ofInt (IntKind.u8).bits x ||| BitVec.ofInt (IntKind.u8).bits 32).toNat : Int)
def baseI (x : Int) : Int := bif orI x == 98 then 2 else bif orI x == 111 then 8 else bif orI x == 100 then 10 else bif orI x == 104 then 16 else 0
theorem baseI_all : ∀ k : Fin 256, baseI ((UInt8.ofFin k).toNat : Int) = (baseN (UInt8.ofFin k) : Int) := by decide +kernel
end Go.Proofs.YthlhbocobgkdmaaGreat
