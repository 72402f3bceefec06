/- Konst: operators of two bit by bit. -/
import Derived.Test.YtkjocbdjenmegaaDoorKnB
namespace Go.Proofs.YtkjocbdjenmegaaDoor
open Go.AE
set_option linter.unusedVariables false
def bitF (t : List UInt8) (x y : Bool) : Bool := bif t == [38] then x && y else bif t == [124] then x || y else bif t == [94] then !(x == y) else (x == y)
def opB (t : List UInt8) (x y : BitVec 33) : BitVec 33 := bif t == [38] then x &&& y else bif t == [124] then x ||| y else bif t == [94] then x ^^^ y else ~~~(x ^^^ y)
theorem opB_bit (t : List UInt8) (x y : BitVec 33) {i : Nat} (hi : i < 33) : (opB t x y).getLsbD i = bitF t (x.getLsbD i) (y.getLsbD i) := by
  unfold opB bitF
  cases t == [38] with
  | true => simp
  | false =>
    cases t == [124] with
    | true => simp
    | false =>
      cases t == [94] with
      | true => simp only [cond_true, cond_false, BitVec.getLsbD_xor]; cases x.getLsbD i <;> cases y.getLsbD i <;> rfl
      | false =>
        simp only [cond_false, BitVec.getLsbD_not, BitVec.getLsbD_xor, decide_eq_true hi, Bool.true_and]
        cases x.getLsbD i <;> cases y.getLsbD i <;> rfl
def bwI (t : List UInt8) (a b : Int) : Int := (opB t (BitVec.ofInt 33 a) (BitVec.ofInt 33 b)).toInt
theorem wrap_bv (x : BitVec 64) : IntKind.i64.wrap (x.toNat : Int) = x.toInt := by
  have := x.isLt
  rw [IntKind.wrap_i64, BitVec.toInt_eq_toNat_cond]
  have e : ((2 ^ 64 : Nat) : Int) = 18446744073709551616 := rfl
  rw [e]
  split <;> omega
theorem ofInt_ext {a : Int} (h1 : -4294967296 ≤ a) (h2 : a < 4294967296) : BitVec.ofInt 64 a = (BitVec.ofInt 33 a).signExtend 64 := by
  show BitVec.ofInt 64 a = BitVec.ofInt 64 (BitVec.ofInt 33 a).toInt
  rw [BitVec.toInt_ofInt, Int.bmod_eq_of_le (by show -(((2 ^ 33 : Nat) : Int) / 2) ≤ a; omega) (by show a < (((2 ^ 33 : Nat) : Int) + 1) / 2; omega)]
theorem own_and {a b : Int} (ha1 : -4294967296 ≤ a) (ha2 : a < 4294967296) (hb1 : -4294967296 ≤ b) (hb2 : b < 4294967296) : IntKind.i64.wrap ((BitVec.ofInt (IntKind.i64).bits a &&& BitVec.ofInt (IntKind.i64).bits b).toNat : Int) = bwI [38] a b := by
  show IntKind.i64.wrap ((BitVec.ofInt 64 a &&& BitVec.ofInt 64 b).toNat : Int) = (BitVec.ofInt 33 a &&& BitVec.ofInt 33 b).toInt
  rw [wrap_bv, ofInt_ext ha1 ha2, ofInt_ext hb1 hb2, ← BitVec.signExtend_and, BitVec.toInt_signExtend_of_le (by decide)]
theorem own_or {a b : Int} (ha1 : -4294967296 ≤ a) (ha2 : a < 4294967296) (hb1 : -4294967296 ≤ b) (hb2 : b < 4294967296) : IntKind.i64.wrap ((BitVec.ofInt (IntKind.i64).bits a ||| BitVec.ofInt (IntKind.i64).bits b).toNat : Int) = bwI [124] a b := by
  show IntKind.i64.wrap ((BitVec.ofInt 64 a ||| BitVec.ofInt 64 b).toNat : Int) = (BitVec.ofInt 33 a ||| BitVec.ofInt 33 b).toInt
  rw [wrap_bv, ofInt_ext ha1 ha2, ofInt_ext hb1 hb2, ← BitVec.signExtend_or, BitVec.toInt_signExtend_of_le (by decide)]
theorem own_xor {a b : Int} (ha1 : -4294967296 ≤ a) (ha2 : a < 4294967296) (hb1 : -4294967296 ≤ b) (hb2 : b < 4294967296) : IntKind.i64.wrap ((BitVec.ofInt (IntKind.i64).bits a ^^^ BitVec.ofInt (IntKind.i64).bits b).toNat : Int) = bwI [94] a b := by
  show IntKind.i64.wrap ((BitVec.ofInt 64 a ^^^ BitVec.ofInt 64 b).toNat : Int) = (BitVec.ofInt 33 a ^^^ BitVec.ofInt 33 b).toInt
  rw [wrap_bv, ofInt_ext ha1 ha2, ofInt_ext hb1 hb2, ← BitVec.signExtend_xor, BitVec.toInt_signExtend_of_le (by decide)]
theorem own_not (x : BitVec 64) : BitVec.ofInt 64 (-1) ^^^ x = ~~~x := by
  have e : BitVec.ofInt 64 (-1) = BitVec.allOnes 64 := by decide
  rw [e, BitVec.allOnes_xor]
theorem own_xnor {a b : Int} (ha1 : -4294967296 ≤ a) (ha2 : a < 4294967296) (hb1 : -4294967296 ≤ b) (hb2 : b < 4294967296) : IntKind.i64.wrap ((BitVec.ofInt (IntKind.i64).bits (if (IntKind.i64).signed then -1 else (IntKind.i64).max) ^^^ BitVec.ofInt (IntKind.i64).bits (IntKind.i64.wrap ((BitVec.ofInt (IntKind.i64).bits a ^^^ BitVec.ofInt (IntKind.i64).bits b).toNat : Int))).toNat : Int) = bwI [126, 94] a b := by
  show IntKind.i64.wrap ((BitVec.ofInt 64 (-1) ^^^ BitVec.ofInt 64 (IntKind.i64.wrap ((BitVec.ofInt 64 a ^^^ BitVec.ofInt 64 b).toNat : Int))).toNat : Int) = (~~~(BitVec.ofInt 33 a ^^^ BitVec.ofInt 33 b)).toInt
  rw [wrap_bv, wrap_bv, BitVec.ofInt_toInt, own_not, ofInt_ext ha1 ha2, ofInt_ext hb1 hb2, ← BitVec.signExtend_xor, ← BitVec.signExtend_not (by decide), BitVec.toInt_signExtend_of_le (by decide)]
theorem own_neg1 {a : Int} (ha1 : -9223372036854775808 ≤ a) (ha2 : a ≤ 9223372036854775807) : IntKind.i64.wrap ((BitVec.ofInt (IntKind.i64).bits (if (IntKind.i64).signed then -1 else (IntKind.i64).max) ^^^ BitVec.ofInt (IntKind.i64).bits a).toNat : Int) = -1 - a := by
  show IntKind.i64.wrap ((BitVec.ofInt 64 (-1) ^^^ BitVec.ofInt 64 a).toNat : Int) = -1 - a
  have e : (BitVec.ofInt 64 a).toInt = a := by rw [BitVec.toInt_ofInt, Int.bmod_eq_of_le (by show -(((2 ^ 64 : Nat) : Int) / 2) ≤ a; omega) (by show a < (((2 ^ 64 : Nat) : Int) + 1) / 2; omega)]
  rw [wrap_bv, own_not]
  have hlt := (BitVec.ofInt 64 a).isLt
  have e2 : ((2 ^ 64 : Nat) : Int) = 18446744073709551616 := rfl
  rw [BitVec.toInt_eq_toNat_cond, e2] at e ⊢
  rw [BitVec.toNat_not]
  split at e <;> split <;> omega
end Go.Proofs.YtkjocbdjenmegaaDoor
