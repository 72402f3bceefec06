/- The library's count of bits; the own operations on one. -/
import Derived.Test.YthlhbocobgkdmaaGreatMkG
namespace Go.Proofs.YthlhbocobgkdmaaGreat
open Go.AE
set_option linter.unusedVariables false
set_option linter.unusedSimpArgs false
theorem wrap_bv (x : BitVec 64) : IntKind.i64.wrap (x.toNat : Int) = x.toInt := by
  have := x.isLt
  rw [IntKind.wrap_i64, BitVec.toInt_eq_toNat_cond]
  have e : ((2 ^ 64 : Nat) : Int) = 18446744073709551616 := rfl
  rw [e]
  split <;> omega
theorem andI {x m : Nat} (hx : x < M64) (hm : m < M64) : IntKind.u64.wrap (((BitVec.ofInt (IntKind.u64).bits (x : Int) &&& BitVec.ofInt (IntKind.u64).bits (m : Int)).toNat : Nat) : Int) = ((x &&& m : Nat) : Int) := by
  rw [and_nat hx hm, wrap_u64_nat, Nat.mod_eq_of_lt (show x &&& m < M64 from Nat.and_lt_two_pow (n := 64) _ hm)]
theorem addI {x y : Nat} : IntKind.u64.wrap ((x : Int) + (y : Int)) = (((x + y) % M64 : Nat) : Int) := by
  rw [← Int.natCast_add, wrap_u64_nat]
theorem addS {x y : Nat} (h : x + y < M64) : IntKind.u64.wrap ((x : Int) + (y : Int)) = ((x + y : Nat) : Int) := by
  rw [addI, Nat.mod_eq_of_lt h]
theorem low7 {x : Nat} (hx : x < M64) : IntKind.i64.wrap (((BitVec.ofInt (IntKind.i64).bits (IntKind.i64.wrap (x : Int)) &&& BitVec.ofInt (IntKind.i64).bits 127).toNat : Nat) : Int) = ((x % 128 : Nat) : Int) := by
  have e : ((x : Nat) : Int) = ((BitVec.ofNat 64 x).toNat : Int) := by rw [BitVec.toNat_ofNat]; exact congrArg Int.ofNat (Nat.mod_eq_of_lt hx).symm
  have e2 : BitVec.ofInt (IntKind.i64).bits (IntKind.i64.wrap (x : Int)) = BitVec.ofNat 64 x := by
    rw [e, wrap_bv]
    show BitVec.ofInt 64 (BitVec.ofNat 64 x).toInt = _
    rw [BitVec.ofInt_toInt]
  have e3 : (BitVec.ofInt (IntKind.i64).bits (IntKind.i64.wrap (x : Int)) &&& BitVec.ofInt (IntKind.i64).bits 127).toNat = x % 128 := by
    rw [e2]
    show (BitVec.ofNat 64 x &&& BitVec.ofInt 64 127).toNat = _
    rw [BitVec.toNat_and, BitVec.toNat_ofNat, show x % 2 ^ 64 = x from Nat.mod_eq_of_lt hx]
    exact Nat.and_two_pow_sub_one_eq_mod x 7
  rw [e3, wrap_id (by omega) (by omega)]
theorem ones_is {x : Nat} (hx : x < M64) : Ev (fun n => math_bits_OnesCount64 n (wd x)) fun r => r = (true, [.int .i64 ((onesF (cAll 8 x) % 128 : Nat) : Int)]) := by
  refine Ev.eq (fun n => math_bits_OnesCount64_eq n _) (Ev.ret ?_)
  have m85 : (6148914691236517205 : Int) = ((mkB 85 8 : Nat) : Int) := by decide +kernel
  have m51 : (3689348814741910323 : Int) = ((mkB 51 8 : Nat) : Int) := by decide +kernel
  have m15 : (1085102592571150095 : Int) = ((mkB 15 8 : Nat) : Int) := by decide +kernel
  have k85 : mkB 85 8 = 6148914691236517205 := by decide +kernel
  have k51 : mkB 51 8 = 3689348814741910323 := by decide +kernel
  have k15 : mkB 15 8 = 1085102592571150095 := by decide +kernel
  have b85 : mkB 85 8 < M64 := by rw [k85]; decide
  have b51 : mkB 51 8 < M64 := by rw [k51]; decide
  have b15 : mkB 15 8 < M64 := by rw [k15]; decide
  have hM : M64 = 18446744073709551616 := rfl
  have l1 : c1 8 x ≤ 12297829382473034410 := by
    have h1 := Nat.and_le_right (n := x / 2) (m := mkB 85 8)
    have h2 := Nat.and_le_right (n := x) (m := mkB 85 8)
    unfold c1
    omega
  have l2 : c2 8 (c1 8 x) ≤ 7378697629483820646 := by
    have h1 := Nat.and_le_right (n := c1 8 x / 4) (m := mkB 51 8)
    have h2 := Nat.and_le_right (n := c1 8 x) (m := mkB 51 8)
    unfold c2
    omega
  have hx2 : x / 2 ^ 1 < M64 := Nat.lt_of_le_of_lt (Nat.div_le_self _ _) hx
  have s1 : (x / 2 ^ 1 &&& mkB 85 8) + (x &&& mkB 85 8) = c1 8 x := rfl
  have s2 : (c1 8 x / 2 ^ 2 &&& mkB 51 8) + (c1 8 x &&& mkB 51 8) = c2 8 (c1 8 x) := rfl
  have s3 : (c2 8 (c1 8 x) / 2 ^ 4 + c2 8 (c1 8 x)) &&& mkB 15 8 = cAll 8 x := rfl
  rw [m85, m51, m15, fdiv_pow x 1, andI hx2 b85, andI hx b85, addS (by rw [s1]; omega), s1]
  rw [fdiv_pow (c1 8 x) 2, andI (Nat.lt_of_le_of_lt (Nat.div_le_self _ _) (by omega)) b51, andI (by omega) b51, addS (by rw [s2]; omega), s2]
  have d4 : c2 8 (c1 8 x) / 2 ^ 4 ≤ c2 8 (c1 8 x) / 16 := Nat.le_refl _
  rw [fdiv_pow (c2 8 (c1 8 x)) 4, addS (by omega), andI (by omega) b15, s3]
  rw [fdiv_pow (cAll 8 x) 8, addI, fdiv_pow _ 16, addI, fdiv_pow _ 32, addI]
  rw [low7 (Nat.mod_lt _ (by decide))]
  rfl
section
variable {w a : Nat} (h1 : 1 ≤ w) (h2 : w ≤ 64) (ha : a < 2 ^ w)
include h1 h2 ha
theorem un_own : ∀ op : Nat, op < 6 → Ev (fun n => bv_Un n (.int .i64 (op : Int)) (vec w a)) fun r => r = (true, [vec (unW w op) (unN w a op), .int .i64 0]) := by
  intro op hop
  have hp := Nat.two_pow_pos w
  have hn : 2 ^ w - 1 - a < 2 ^ w := by omega
  have hM := lt_m64 h2 ha
  refine Ev.eq (fun n => bv_Un_eq n ..) (Ev.no (decide_eq_false (by omega)) (Ev.no (decide_eq_false (by omega)) (Ev.no (ne_zero h1) ?_)))
  have nt := not_is (w := w) (a := a) h1 (by omega) ha
  have an := any_is (w := w) (a := a) h2
  match op, hop with
  | 0, _ => exact Ev.yes rfl (evCall nt (Ev.yes rfl (Ev.ret rfl)))
  | 1, _ => exact Ev.no rfl (Ev.yes rfl (evCall (neg_is h1 (by omega) ha) (Ev.yes rfl (Ev.ret rfl))))
  | 2, _ => exact Ev.no rfl (Ev.no rfl (Ev.yes rfl (evCall nt (Ev.yes rfl (evCall (any_is (a := 2 ^ w - 1 - a) h2) (Ev.yes rfl (evCall (truth_is _) (Ev.yes rfl (Ev.ret rfl)))))))))
  | 3, _ => exact Ev.no rfl (Ev.no rfl (Ev.no rfl (Ev.yes rfl (evCall an (Ev.yes rfl (evCall (truth_is _) (Ev.yes rfl (Ev.ret rfl))))))))
  | 5, _ => exact Ev.no rfl (Ev.no rfl (Ev.no rfl (Ev.no rfl (Ev.yes rfl (evCall an (Ev.yes rfl (evCall (truth_is _) (Ev.yes rfl (Ev.ret rfl)))))))))
  | 4, _ =>
    refine Ev.no rfl (Ev.no rfl (Ev.no rfl (Ev.no rfl (Ev.no rfl ?_))))
    rw [wordsN1 h2]
    have hz : onesF (cAll 8 a) % 128 < 128 := Nat.mod_lt _ (by decide)
    have one := ones_is hM
    have hpar := ones_par hM
    rw [← parN_is h2 ha] at hpar
    generalize onesF (cAll 8 a) % 128 = z at *
    have step : Ev (fun n => bv_Un_L2 n (.int .i64 0) (.lst 1 [wd a]) (.int .i64 1) (.int .i64 0) (.int .i64 0) (.lst 1 [])) fun r => r = (false, [.int .i64 (z : Int), .lst 1 [wd a], .int .i64 1, .int .i64 1, .int .i64 0, .lst 1 []]) := by
      refine Ev.eq (fun n => bv_Un_L2_eq n ..) (Ev.yes rfl (Ev.yes rfl (Ev.yes rfl (evCall one (Ev.yes rfl ?_)))))
      show Ev (fun n => bv_Un_L2 n (.int .i64 (IntKind.i64.wrap (0 + (z : Int)))) (.lst 1 [wd a]) (.int .i64 1) (.int .i64 (IntKind.i64.wrap (0 + 1))) (.int .i64 0) (.lst 1 [])) _
      rw [Int.zero_add, wrap_nat (by omega), show IntKind.i64.wrap (0 + 1) = 1 from rfl]
      exact Ev.eq (fun n => bv_Un_L2_eq n ..) (Ev.no rfl (Ev.ret rfl))
    refine evLoop step (Ev.yes rfl ?_)
    have e : (((z : Int).tmod 2) == 1) = parN w a := by
      rw [← hpar, Int.tmod_eq_emod_of_nonneg (by omega), Bool.eq_iff_iff, decide_eq_true_iff, beq_iff_eq]
      omega
    show Ev (fun n => bindC (bv_truth n (.bool (((z : Int).tmod 2) == 1))) _) _
    rw [e]
    exact evCall (truth_is _) (Ev.yes rfl (Ev.ret rfl))
  | n + 6, h => exact absurd h (by omega)
end
end Go.Proofs.YthlhbocobgkdmaaGreat
