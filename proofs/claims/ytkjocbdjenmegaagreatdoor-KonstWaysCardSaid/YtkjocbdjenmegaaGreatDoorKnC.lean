/- Konst: operators of two bit by bit. -/
import Derived.Test.YtkjocbdjenmegaaGreatDoorKnB
namespace Go.Proofs.YtkjocbdjenmegaaGreatDoor
open Go.AE
set_option linter.unusedVariables false
def bitF (t : List UInt8) (x y : Bool) : Bool := bif t == [38] then x && y else bif t == [124] then x || y else bif t == [94] then !(x == y) else (x == y)
theorem bitwise_loop {t : List UInt8} {lx ly : List Bool} (hx : lx.length = 33) (hy : ly.length = 33) : ∀ (m j : Nat), j + m = 33 →
    Ev (fun n => ref11_bitwise_L0 n (.str t) (.int .i64 (j : Int)) (.lst 1 (lx.map bD)) (.lst 1 (ly.map bD)) (.lst 1 (((List.zipWith (bitF t) lx ly).take j ++ List.replicate m false).map bD))) fun r => r = (false, [.str t, .int .i64 33, .lst 1 (lx.map bD), .lst 1 (ly.map bD), .lst 1 ((List.zipWith (bitF t) lx ly).map bD)]) := by
  have hL : (List.zipWith (bitF t) lx ly).length = 33 := by rw [List.length_zipWith, hx, hy]; rfl
  intro m
  induction m with
  | zero =>
    intro j hm
    have : j = 33 := by omega
    subst this
    have e : (List.zipWith (bitF t) lx ly).take 33 ++ List.replicate 0 false = List.zipWith (bitF t) lx ly := by
      rw [List.take_of_length_le (by omega)]; simp
    rw [e]
    exact Ev.eq (fun n => ref11_bitwise_L0_eq n _ _ _ _ _) (Ev.no rfl (Ev.ret rfl))
  | succ m ih =>
    intro j hm
    have hj : j < 33 := by omega
    have ix : j < (lx.map bD).length := by rw [List.length_map]; omega
    have iy : j < (ly.map bD).length := by rw [List.length_map]; omega
    have hpl : ((List.zipWith (bitF t) lx ly).take j).length = j := by rw [List.length_take]; omega
    have hlen : ((((List.zipWith (bitF t) lx ly).take j ++ List.replicate (m + 1) false)).map bD).length = 33 := by rw [List.length_map, List.length_append, List.length_replicate, hpl]; omega
    have hin : (decide ((0 : Int) ≤ (j : Int)) && decide ((j : Int) < ((((List.zipWith (bitF t) lx ly).take j ++ List.replicate (m + 1) false).map bD).length : Int))) = true := in_range (by rw [hlen]; omega)
    have hv : (List.zipWith (bitF t) lx ly)[j] = bitF t lx[j] ly[j] := List.getElem_zipWith
    have hset : ∀ b : Bool, b = bitF t lx[j] ly[j] → (((List.zipWith (bitF t) lx ly).take j ++ List.replicate (m + 1) false).map bD).set ((j : Nat) : Int).toNat (D.bool b) = ((List.zipWith (bitF t) lx ly).take (j + 1) ++ List.replicate m false).map bD := by
      intro b hb
      have e := set_at false b (List.replicate m false) ((List.zipWith (bitF t) lx ly).take j)
      rw [hpl] at e
      rw [Int.toNat_natCast, show D.bool b = bD b from rfl, ← List.map_set, List.replicate_succ, e, List.take_succ_eq_append_getElem (by omega), hv, ← hb, List.append_assoc]; rfl
    have hw : IntKind.i64.wrap ((j : Int) + 1) = ((j + 1 : Nat) : Int) := wrap_succ (by omega)
    have nx := ih (j + 1) (by omega)
    have gx : (lx.map bD)[((j : Nat) : Int).toNat]?.getD D.top = bD lx[j] := by rw [get_nat ix, List.getElem_map]
    have gy : (ly.map bD)[((j : Nat) : Int).toNat]?.getD D.top = bD ly[j] := by rw [get_nat iy, List.getElem_map]
    refine Ev.eq (fun n => ref11_bitwise_L0_eq n _ _ _ _ _) (Ev.yes (decide_eq_true (by omega)) ?_)
    rw [gx, gy, hw]
    have fin : ∀ b : Bool, b = bitF t lx[j] ly[j] → Ev (fun n => ref11_bitwise_L0 n (.str t) (.int .i64 ((j + 1 : Nat) : Int)) (.lst 1 (lx.map bD)) (.lst 1 (ly.map bD)) (.lst 1 ((((List.zipWith (bitF t) lx ly).take j ++ List.replicate (m + 1) false).map bD).set ((j : Nat) : Int).toNat (D.bool b)))) fun r => r = (false, [.str t, .int .i64 33, .lst 1 (lx.map bD), .lst 1 (ly.map bD), .lst 1 ((List.zipWith (bitF t) lx ly).map bD)]) := by
      intro b hb
      rw [hset b hb]
      exact nx
    cases h1 : t == [38] with
    | true =>
      have hb : ∀ x y, bitF t x y = (x && y) := by intro x y; unfold bitF; rw [h1]; rfl
      rw [hb] at fin
      refine Ev.yes rfl (Ev.yes (in_range ix) (Ev.yes rfl ?_))
      show Ev (fun n => bif lx[j] then _ else _) _
      cases hq : lx[j] with
      | true => exact Ev.yes rfl (Ev.yes (in_range iy) (Ev.yes rfl (Ev.yes hin (fin ly[j] (by rw [hq]; rfl)))))
      | false => exact Ev.no rfl (Ev.yes hin (fin false (by rw [hq]; rfl)))
    | false =>
      refine Ev.no rfl ?_
      cases h2 : t == [124] with
      | true =>
        have hb : ∀ x y, bitF t x y = (x || y) := by intro x y; unfold bitF; rw [h1, h2]; rfl
        rw [hb] at fin
        refine Ev.yes rfl (Ev.yes (in_range ix) (Ev.yes rfl ?_))
        show Ev (fun n => bif lx[j] then _ else _) _
        cases hq : lx[j] with
        | true => exact Ev.yes rfl (Ev.yes hin (fin true (by rw [hq]; rfl)))
        | false => exact Ev.no rfl (Ev.yes (in_range iy) (Ev.yes rfl (Ev.yes hin (fin ly[j] (by rw [hq]; rfl)))))
      | false =>
        refine Ev.no rfl ?_
        cases h3 : t == [94] with
        | true =>
          have hb : ∀ x y, bitF t x y = (!(x == y)) := by intro x y; unfold bitF; rw [h1, h2, h3]; rfl
          rw [hb] at fin
          exact Ev.yes rfl (Ev.yes (in_range ix) (Ev.yes rfl (Ev.yes (in_range iy) (Ev.yes rfl (Ev.yes hin (fin _ rfl))))))
        | false =>
          have hb : ∀ x y, bitF t x y = (x == y) := by intro x y; unfold bitF; rw [h1, h2, h3]; rfl
          rw [hb] at fin
          exact Ev.no rfl (Ev.yes (in_range ix) (Ev.yes rfl (Ev.yes (in_range iy) (Ev.yes rfl (Ev.yes hin (fin _ rfl))))))
def opB (t : List UInt8) (x y : BitVec 33) : BitVec 33 := bif t == [38] then x &&& y else bif t == [124] then x ||| y else bif t == [94] then x ^^^ y else ~~~(x ^^^ y)
theorem opB_bit (t : List UInt8) (x y : BitVec 33) {i : Nat} (hi : i < 33) : (opB t x y).getLsbD i = bitF t (x.getLsbD i) (y.getLsbD i) := by
  unfold opB bitF
  cases t == [38] with
  | true => simp
  | false =>
    cases t == [124] with
    | true => simp
    | false =>
      cases t == [94] with
      | true => simp only [cond_true, cond_false, BitVec.getLsbD_xor]; cases x.getLsbD i <;> cases y.getLsbD i <;> rfl
      | false =>
        simp only [cond_false, BitVec.getLsbD_not, BitVec.getLsbD_xor, decide_eq_true hi, Bool.true_and]
        cases x.getLsbD i <;> cases y.getLsbD i <;> rfl
def bwI (t : List UInt8) (a b : Int) : Int := (opB t (BitVec.ofInt 33 a) (BitVec.ofInt 33 b)).toInt
theorem bitwise_is (t : List UInt8) {a b : Int} (ha1 : -1099511627776 ≤ a) (ha2 : a ≤ 1099511627776) (hb1 : -1099511627776 ≤ b) (hb2 : b ≤ 1099511627776) : Ev (fun n => ref11_bitwise n (.str t) (.int .i64 a) (.int .i64 b)) fun r => r = (true, [.int .i64 (bwI t a b)]) := by
  have la := bitL_len 33 a
  have lb := bitL_len 33 b
  have hl := bitwise_loop (t := t) la lb 33 0 rfl
  have hL : (List.zipWith (bitF t) (bitL 33 a) (bitL 33 b)).length = 33 := by rw [List.length_zipWith, la, lb]; rfl
  have hn := knumber_is hL
  have hv : (numB ((List.zipWith (bitF t) (bitL 33 a) (bitL 33 b)).take 32) : Int) - (bif (List.zipWith (bitF t) (bitL 33 a) (bitL 33 b)).getD 32 false then 4294967296 else 0) = bwI t a b := by
    refine toInt_bits hL fun i hi => ?_
    rw [opB_bit t _ _ hi, ofInt_bits, ofInt_bits]
    rw [List.getD_eq_getElem?_getD, List.getD_eq_getElem?_getD, List.getD_eq_getElem?_getD, List.getElem?_eq_getElem (by omega), List.getElem?_eq_getElem (by omega), List.getElem?_eq_getElem (by omega)]
    have hi2 : i < (List.zipWith (bitF t) (bitL 33 a) (bitL 33 b)).length := by omega
    show _ = (List.zipWith (bitF t) (bitL 33 a) (bitL 33 b))[i]'hi2
    exact (List.getElem_zipWith (h := hi2)).symm
  rw [hv] at hn
  refine Ev.eq (fun n => ref11_bitwise_eq n _ _ _) (evCall (kbits_is ha1 ha2) (Ev.yes rfl (evCall (kbits_is hb1 hb2) (Ev.yes rfl (evLoop hl (Ev.yes rfl (evCall hn (Ev.yes rfl (Ev.ret rfl)))))))))
theorem wrap_bv (x : BitVec 64) : IntKind.i64.wrap (x.toNat : Int) = x.toInt := by
  have := x.isLt
  rw [IntKind.wrap_i64, BitVec.toInt_eq_toNat_cond]
  have e : ((2 ^ 64 : Nat) : Int) = 18446744073709551616 := rfl
  rw [e]
  split <;> omega
theorem ofInt_ext {a : Int} (h1 : -4294967296 ≤ a) (h2 : a < 4294967296) : BitVec.ofInt 64 a = (BitVec.ofInt 33 a).signExtend 64 := by
  show BitVec.ofInt 64 a = BitVec.ofInt 64 (BitVec.ofInt 33 a).toInt
  rw [BitVec.toInt_ofInt, Int.bmod_eq_of_le (by show -(((2 ^ 33 : Nat) : Int) / 2) ≤ a; omega) (by show a < (((2 ^ 33 : Nat) : Int) + 1) / 2; omega)]
theorem own_and {a b : Int} (ha1 : -4294967296 ≤ a) (ha2 : a < 4294967296) (hb1 : -4294967296 ≤ b) (hb2 : b < 4294967296) : IntKind.i64.wrap ((BitVec.ofInt (IntKind.i64).bits a &&& BitVec.ofInt (IntKind.i64).bits b).toNat : Int) = bwI [38] a b := by
  show IntKind.i64.wrap ((BitVec.ofInt 64 a &&& BitVec.ofInt 64 b).toNat : Int) = (BitVec.ofInt 33 a &&& BitVec.ofInt 33 b).toInt
  rw [wrap_bv, ofInt_ext ha1 ha2, ofInt_ext hb1 hb2, ← BitVec.signExtend_and, BitVec.toInt_signExtend_of_le (by decide)]
theorem own_or {a b : Int} (ha1 : -4294967296 ≤ a) (ha2 : a < 4294967296) (hb1 : -4294967296 ≤ b) (hb2 : b < 4294967296) : IntKind.i64.wrap ((BitVec.ofInt (IntKind.i64).bits a ||| BitVec.ofInt (IntKind.i64).bits b).toNat : Int) = bwI [124] a b := by
  show IntKind.i64.wrap ((BitVec.ofInt 64 a ||| BitVec.ofInt 64 b).toNat : Int) = (BitVec.ofInt 33 a ||| BitVec.ofInt 33 b).toInt
  rw [wrap_bv, ofInt_ext ha1 ha2, ofInt_ext hb1 hb2, ← BitVec.signExtend_or, BitVec.toInt_signExtend_of_le (by decide)]
theorem own_xor {a b : Int} (ha1 : -4294967296 ≤ a) (ha2 : a < 4294967296) (hb1 : -4294967296 ≤ b) (hb2 : b < 4294967296) : IntKind.i64.wrap ((BitVec.ofInt (IntKind.i64).bits a ^^^ BitVec.ofInt (IntKind.i64).bits b).toNat : Int) = bwI [94] a b := by
  show IntKind.i64.wrap ((BitVec.ofInt 64 a ^^^ BitVec.ofInt 64 b).toNat : Int) = (BitVec.ofInt 33 a ^^^ BitVec.ofInt 33 b).toInt
  rw [wrap_bv, ofInt_ext ha1 ha2, ofInt_ext hb1 hb2, ← BitVec.signExtend_xor, BitVec.toInt_signExtend_of_le (by decide)]
theorem own_not (x : BitVec 64) : BitVec.ofInt 64 (-1) ^^^ x = ~~~x := by
  have e : BitVec.ofInt 64 (-1) = BitVec.allOnes 64 := by decide
  rw [e, BitVec.allOnes_xor]
theorem own_xnor {a b : Int} (ha1 : -4294967296 ≤ a) (ha2 : a < 4294967296) (hb1 : -4294967296 ≤ b) (hb2 : b < 4294967296) : IntKind.i64.wrap ((BitVec.ofInt (IntKind.i64).bits (if (IntKind.i64).signed then -1 else (IntKind.i64).max) ^^^ BitVec.ofInt (IntKind.i64).bits (IntKind.i64.wrap ((BitVec.ofInt (IntKind.i64).bits a ^^^ BitVec.ofInt (IntKind.i64).bits b).toNat : Int))).toNat : Int) = bwI [126, 94] a b := by
  show IntKind.i64.wrap ((BitVec.ofInt 64 (-1) ^^^ BitVec.ofInt 64 (IntKind.i64.wrap ((BitVec.ofInt 64 a ^^^ BitVec.ofInt 64 b).toNat : Int))).toNat : Int) = (~~~(BitVec.ofInt 33 a ^^^ BitVec.ofInt 33 b)).toInt
  rw [wrap_bv, wrap_bv, BitVec.ofInt_toInt, own_not, ofInt_ext ha1 ha2, ofInt_ext hb1 hb2, ← BitVec.signExtend_xor, ← BitVec.signExtend_not (by decide), BitVec.toInt_signExtend_of_le (by decide)]
theorem own_neg1 {a : Int} (ha1 : -9223372036854775808 ≤ a) (ha2 : a ≤ 9223372036854775807) : IntKind.i64.wrap ((BitVec.ofInt (IntKind.i64).bits (if (IntKind.i64).signed then -1 else (IntKind.i64).max) ^^^ BitVec.ofInt (IntKind.i64).bits a).toNat : Int) = -1 - a := by
  show IntKind.i64.wrap ((BitVec.ofInt 64 (-1) ^^^ BitVec.ofInt 64 a).toNat : Int) = -1 - a
  have e : (BitVec.ofInt 64 a).toInt = a := by rw [BitVec.toInt_ofInt, Int.bmod_eq_of_le (by show -(((2 ^ 64 : Nat) : Int) / 2) ≤ a; omega) (by show a < (((2 ^ 64 : Nat) : Int) + 1) / 2; omega)]
  rw [wrap_bv, own_not]
  have hlt := (BitVec.ofInt 64 a).isLt
  have e2 : ((2 ^ 64 : Nat) : Int) = 18446744073709551616 := rfl
  rw [BitVec.toInt_eq_toNat_cond, e2] at e ⊢
  rw [BitVec.toNat_not]
  split at e <;> split <;> omega
end Go.Proofs.YtkjocbdjenmegaaGreatDoor
