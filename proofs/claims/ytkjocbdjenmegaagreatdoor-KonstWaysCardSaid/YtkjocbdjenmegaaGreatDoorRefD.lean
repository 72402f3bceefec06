/- The reference's literals: Dec, Text, Int told exactly. -/
import Derived.Test.YtkjocbdjenmegaaGreatDoorRefC
import Derived.Test.YtkjocbdjenmegaaGreatDoorLitE
namespace Go.Proofs.YtkjocbdjenmegaaGreatDoor
open Go.AE
set_option linter.unusedVariables false
theorem toByte1 {x : Int} (h0 : 0 ≤ x) (h1 : x < 10) : List.map toByte [D.int .u8 (IntKind.u8.wrap (IntKind.i64.wrap (48 + x)))] = [UInt8.ofNat (48 + x.toNat)] := by
  rw [wrap_id (by omega) (by omega), wrap_u8n]
  have : ((48 + x) % 256).toNat = 48 + x.toNat := by omega
  show [UInt8.ofNat ((48 + x) % 256).toNat] = _
  rw [this]
theorem hexByte {d : Nat} (h : d < 16) : List.map toByte [D.int .u8 ((([48, 49, 50, 51, 52, 53, 54, 55, 56, 57, 97, 98, 99, 100, 101, 102] : List UInt8)[((d : Nat) : Int).toNat]?.getD 0).toNat : Int)] = [hexC d] := by
  rw [hexD_at h]
  exact toByte_cD [hexC d]
theorem hexN_full : ∀ (k n : Nat), hexN (k + 1) n true = nib n k :: hexN k n true := fun k n => by
  rw [hexN_succ]
  simp
theorem hexC_zero : ∀ k : Fin 16, (((hexC k.val).toNat : Int) == 48) = decide (k.val = 0) := by decide +kernel
theorem rInt_is {w n : Nat} (h1 : 1 ≤ w) (h2 : w ≤ 1000) (hn : n < 2 ^ w) (sg sz : Bool) : Ev (fun k => ref02_Int k (.agg [.lst 1 (bitsD w n), .bool sg, .bool sz])) fun r => r = (true, [.int .i64 (intF w n sg).1, iD (intF w n sg).2]) := by
  have e1 : IntKind.i64.wrap ((w : Int) - 1) = ((w - 1 : Nat) : Int) := by rw [wrap_id (by omega) (by omega)]; omega
  have hmod : (2 ^ w - n) % 2 ^ w < 2 ^ w := Nat.mod_lt _ (two_pos w)
  have j1 : ∀ q : Bool, q = (sg && n.testBit (w - 1)) → Ev (fun k => ref02_Int_j1 k q (bitsD w n)) fun r => r = (true, [.int .i64 (intF w n sg).1, iD (intF w n sg).2]) := by
    intro q hq
    refine evDfn (fun k => ref02_Int_j1_def k _ _) ?_
    unfold intF
    rw [← hq]
    cases q with
    | true =>
      refine Ev.yes rfl (evCall (Neg_is h2 hn) (Ev.yes rfl (evCall (rNum_is (m := 1099511627776) h2 hmod (by decide)) (Ev.yes rfl ?_))))
      generalize (2 ^ w - n) % 2 ^ w = v
      show Ev (fun _ => bif (decide (((min v 1099511627776 : Nat) : Int) > (2147483648 : Int))) then _ else (some (true, [(.int .i64 (IntKind.i64.wrap (0 - ((min v 1099511627776 : Nat) : Int)))), (.int .i64 (0 : Int))]))) _
      by_cases h : v ≤ 2147483648
      · refine Ev.no (decide_eq_false (by omega)) (Ev.ret ?_)
        rw [wrap_id (by omega) (by omega), Nat.min_eq_left (by omega), decide_eq_true h]
        show (true, [D.int .i64 (0 - (v : Int)), _]) = (true, [D.int .i64 (-(v : Int)), _])
        rw [Int.zero_sub]; rfl
      · refine Ev.yes (decide_eq_true (by omega)) (Ev.ret ?_)
        rw [decide_eq_false h]; rfl
    | false =>
      refine Ev.no rfl (evCall (rNum_is (m := 1099511627776) h2 hn (by decide)) (Ev.yes rfl ?_))
      show Ev (fun _ => bif (decide (((min n 1099511627776 : Nat) : Int) ≥ (2147483648 : Int))) then _ else (some (true, [(.int .i64 ((min n 1099511627776 : Nat) : Int)), (.int .i64 (0 : Int))]))) _
      by_cases h : n ≥ 2147483648
      · rw [decide_eq_true h]
        exact Ev.yes (decide_eq_true (by omega)) (Ev.ret rfl)
      · rw [decide_eq_false h]
        refine Ev.no (decide_eq_false (by omega)) (Ev.ret ?_)
        rw [Nat.min_eq_left (by omega)]; rfl
  refine Ev.eq (fun k => ref02_Int_eq k _ _ _) ?_
  rw [bitsD_len]
  refine Ev.no (ne_zero h1) ?_
  cases sg with
  | false => exact Ev.no rfl (j1 false rfl)
  | true =>
    rw [e1]
    refine Ev.yes rfl (Ev.yes (and_tt (decide_eq_true (by omega)) (decide_eq_true (by omega))) ?_)
    rw [bitsD_at (by omega)]
    exact Ev.yes rfl (j1 _ rfl)
theorem rInt0_is (sg sz : Bool) : Ev (fun k => ref02_Int k (.agg [.lst 1 [], .bool sg, .bool sz])) fun r => r = (true, [.int .i64 0, iD 2]) :=
  Ev.eq (fun k => ref02_Int_eq k _ _ _) (Ev.yes rfl (Ev.ret rfl))
end Go.Proofs.YtkjocbdjenmegaaGreatDoor
