/- Konst: operators of two, the program's and the reference's. -/
import Derived.Test.YtkjocbdjenmegaaDoorKnC
namespace Go.Proofs.YtkjocbdjenmegaaDoor
open Go.AE
set_option linter.unusedVariables false
def opT : List (List UInt8) := [[43], [45], [42], [47], [37], [38], [124], [94], [126, 94], [60, 60], [62, 62], [60, 60, 60], [62, 62, 62], [60], [60, 61], [62], [62, 61], [61, 61], [33, 61], [38, 38], [124, 124]]
def InR (n : Int) : Prop := -2147483648 ≤ n ∧ n ≤ 2147483647
theorem imul_bound {a b : Int} (ha : a.natAbs ≤ 2147483648) (hb : b.natAbs ≤ 2147483648) : -4611686018427387904 ≤ a * b ∧ a * b ≤ 4611686018427387904 := by
  have h : (a * b).natAbs ≤ 2147483648 * 2147483648 := by rw [Int.natAbs_mul]; exact Nat.mul_le_mul ha hb
  omega
theorem pow31 {k : Nat} (hk : k ≤ 31) : 2 ^ k ≤ 2147483648 := Nat.pow_le_pow_right (n := 2) (by decide) hk
theorem abs_div {a b : Int} (hb : b ≠ 0) : a.tdiv b = bif !(decide (a < 0) == decide (b < 0)) then -((bif decide (a < 0) then -a else a).tdiv (bif decide (b < 0) then -b else b)) else (bif decide (a < 0) then -a else a).tdiv (bif decide (b < 0) then -b else b) := by
  by_cases h1 : a < 0 <;> by_cases h2 : b < 0
  · simp [h1, h2, Int.neg_tdiv, Int.tdiv_neg]
  · simp [h1, h2, Int.neg_tdiv]
  · simp [h1, h2, Int.tdiv_neg]
  · simp [h1, h2]
theorem floor_div {a p : Int} (hp : 0 < p) : a / p = bif decide (a.tdiv p * p > a) then a.tdiv p - 1 else a.tdiv p := by
  have hd : a.tdiv p * p + a.tmod p = a := by rw [Int.mul_comm]; exact Int.mul_tdiv_add_tmod a p
  generalize hq : a.tdiv p = q at hd ⊢
  generalize hr : a.tmod p = r at hd
  have hlt : r < p := by rw [← hr]; exact Int.tmod_lt_of_pos a hp
  have hge : -p < r := by
    rw [← hr]
    rcases Int.lt_or_le a 0 with h | h
    · have := Int.tmod_lt_of_pos (-a) hp
      rw [Int.neg_tmod] at this
      omega
    · have := Int.tmod_nonneg p h
      omega
  cases h : decide (q * p > a) with
  | true =>
    have h := of_decide_eq_true h
    refine ((Int.ediv_emod_unique (r := r + p) hp).2 ⟨?_, by omega, by omega⟩).1
    simp only [cond_true]
    rw [Int.mul_sub, Int.mul_one, Int.mul_comm p q]
    omega
  | false =>
    have h := of_decide_eq_false h
    refine ((Int.ediv_emod_unique (r := r) hp).2 ⟨?_, by omega, by omega⟩).1
    simp only [cond_false]
    rw [Int.mul_comm p q]
    omega
theorem tdiv_abs {a b : Int} (ha : a.natAbs ≤ 2147483648) : (a.tdiv b).natAbs ≤ 2147483648 := by
  have := Int.natAbs_tdiv_le_natAbs a b
  omega
/-- An operator's value where it has one. -/
def resV (t : List UInt8) (a b : Int) : Int :=
  bif t == [43] then a + b else bif t == [45] then a - b else bif t == [42] then a * b else bif t == [47] then a.tdiv b else bif t == [37] then a.tmod b
  else bif t == [38] then bwI t a b else bif t == [124] then bwI t a b else bif t == [94] then bwI t a b else bif t == [126, 94] then bwI t a b
  else bif t == [60, 60] then a * ((2 ^ b.toNat : Nat) : Int) else bif t == [60, 60, 60] then a * ((2 ^ b.toNat : Nat) : Int) else bif t == [62, 62] then a / ((2 ^ b.toNat : Nat) : Int) else bif t == [62, 62, 62] then a / ((2 ^ b.toNat : Nat) : Int)
  else bif t == [60] then trI (decide (a < b)) else bif t == [60, 61] then trI (decide (a ≤ b)) else bif t == [62] then trI (decide (a > b)) else bif t == [62, 61] then trI (decide (a ≥ b)) else bif t == [61, 61] then trI (a == b) else bif t == [33, 61] then trI (a != b) else trI (b != 0)
/-- Where it has none. -/
def offB (t : List UInt8) (b : Int) : Bool := bif t == [47] then b == 0 else bif t == [37] then b == 0 else bif t == [60, 60] then decide (b < 0) || decide (b > 31) else bif t == [60, 60, 60] then decide (b < 0) || decide (b > 31) else bif t == [62, 62] then decide (b < 0) || decide (b > 31) else bif t == [62, 62, 62] then decide (b < 0) || decide (b > 31) else false
theorem sh_in {b : Int} (h : (decide (b < 0) || decide (b > 31)) = false) : 0 ≤ b ∧ b ≤ 31 := by
  rw [Bool.or_eq_false_iff] at h
  have h1 := of_decide_eq_false h.1
  have h2 := of_decide_eq_false h.2
  omega
theorem shl_val {a b : Int} (ha : InR a) (h : 0 ≤ b ∧ b ≤ 31) : IntKind.i64.wrap (a * 2 ^ (min b.toNat (IntKind.i64).bits)) = a * ((2 ^ b.toNat : Nat) : Int) := by
  have hk : b.toNat ≤ 31 := by omega
  have hm : min b.toNat (IntKind.i64).bits = b.toNat := Nat.min_eq_left (by show b.toNat ≤ 64; omega)
  have hp := pow31 hk
  obtain ⟨h1, h2⟩ := ha
  rw [hm, show (2 : Int) ^ b.toNat = ((2 ^ b.toNat : Nat) : Int) by simp]
  generalize 2 ^ b.toNat = x at hp ⊢
  have hb := imul_bound (a := a) (b := (x : Int)) (by omega) (by omega)
  exact wrap_id (by omega) (by omega)
theorem shr_val {a b : Int} (h : 0 ≤ b ∧ b ≤ 31) : a.fdiv (2 ^ (min b.toNat (IntKind.i64).bits)) = a / ((2 ^ b.toNat : Nat) : Int) := by
  have hm : min b.toNat (IntKind.i64).bits = b.toNat := Nat.min_eq_left (by show b.toNat ≤ 64; omega)
  rw [hm, show (2 : Int) ^ b.toNat = ((2 ^ b.toNat : Nat) : Int) by simp, Int.fdiv_eq_ediv_of_nonneg _ (Int.natCast_nonneg _)]
theorem ores_is {t : List UInt8} (ht : t ∈ opT) (p0 p1 p2 : Int) (xs L : List D) {a b : Int} (ha : InR a) (hb : InR b) (ho : offB t b = false) (q0 q1 q2 e : Int) :
    Ev (fun n => konst_evaler_result n (exD 4 p0 p1 p2 t xs) (.int .i64 a) (.int .i64 b) (.lst 2 L) (.int .i64 q0) (.int .i64 q1) (.int .i64 q2) (.int .i64 e)) fun r => r = (true, [.int .i64 (resV t a b), .lst 2 L, .int .i64 q0, .int .i64 q1, .int .i64 q2, .int .i64 e]) := by
  obtain ⟨a1, a2⟩ := ha
  obtain ⟨b1, b2⟩ := hb
  refine Ev.eq (fun n => konst_evaler_result_eq n _ _ _ _ _ _ _ _ _ _ _ _ _) ?_
  simp only [opT, List.mem_cons, List.not_mem_nil, or_false] at ht
  rcases ht with rfl | rfl | rfl | rfl | rfl | rfl | rfl | rfl | rfl | rfl | rfl | rfl | rfl | rfl | rfl | rfl | rfl | rfl | rfl | rfl | rfl
  · (repeat (first | refine Ev.no rfl ?_ | refine Ev.yes rfl ?_))
    rw [wrap_id (x := a + b) (by omega) (by omega)]; exact Ev.ret rfl
  · (repeat (first | refine Ev.no rfl ?_ | refine Ev.yes rfl ?_))
    rw [wrap_id (x := a - b) (by omega) (by omega)]; exact Ev.ret rfl
  · (repeat (first | refine Ev.no rfl ?_ | refine Ev.yes rfl ?_))
    have := imul_bound (a := a) (b := b) (by omega) (by omega)
    rw [wrap_id (x := a * b) (by omega) (by omega)]; exact Ev.ret rfl
  · have ho : (b == 0) = false := ho
    have hb0 : b ≠ 0 := by simpa using ho
    have := tdiv_abs (a := a) (b := b) (by omega)
    (repeat (first | refine Ev.no rfl ?_ | refine Ev.yes rfl ?_))
    refine Ev.no (decide_eq_false hb0) ?_
    rw [wrap_id (x := a.tdiv b) (by omega) (by omega)]; exact Ev.ret rfl
  · have ho : (b == 0) = false := ho
    have hb0 : b ≠ 0 := by simpa using ho
    (repeat (first | refine Ev.no rfl ?_ | refine Ev.yes rfl ?_))
    exact Ev.no (decide_eq_false hb0) (Ev.ret rfl)
  · (repeat (first | refine Ev.no rfl ?_ | refine Ev.yes rfl ?_))
    rw [own_and (by omega) (by omega) (by omega) (by omega)]; exact Ev.ret rfl
  · (repeat (first | refine Ev.no rfl ?_ | refine Ev.yes rfl ?_))
    rw [own_or (by omega) (by omega) (by omega) (by omega)]; exact Ev.ret rfl
  · (repeat (first | refine Ev.no rfl ?_ | refine Ev.yes rfl ?_))
    rw [own_xor (by omega) (by omega) (by omega) (by omega)]; exact Ev.ret rfl
  · (repeat (first | refine Ev.no rfl ?_ | refine Ev.yes rfl ?_))
    rw [own_xnor (by omega) (by omega) (by omega) (by omega)]; exact Ev.ret rfl
  · have hs := sh_in ho
    (repeat (first | refine Ev.no rfl ?_ | refine Ev.yes rfl ?_))
    refine Ev.no (decide_eq_false (by omega)) ?_
    rw [shl_val ⟨a1, a2⟩ hs]; exact Ev.ret rfl
  · have hs := sh_in ho
    (repeat (first | refine Ev.no rfl ?_ | refine Ev.yes rfl ?_))
    refine Ev.no (decide_eq_false (by omega)) ?_
    rw [shr_val hs]; exact Ev.ret rfl
  · have hs := sh_in ho
    (repeat (first | refine Ev.no rfl ?_ | refine Ev.yes rfl ?_))
    refine Ev.no (decide_eq_false (by omega)) ?_
    rw [shl_val ⟨a1, a2⟩ hs]; exact Ev.ret rfl
  · have hs := sh_in ho
    (repeat (first | refine Ev.no rfl ?_ | refine Ev.yes rfl ?_))
    refine Ev.no (decide_eq_false (by omega)) ?_
    rw [shr_val hs]; exact Ev.ret rfl
  all_goals ((repeat (first | refine Ev.no rfl ?_ | refine Ev.yes rfl ?_)); refine evCall (truth_is _) (Ev.yes rfl (Ev.ret rfl)))
end Go.Proofs.YtkjocbdjenmegaaDoor
