/- The reference's literals: Dec, Text, Int told exactly. -/
import Derived.Test.YtkjocbdjenmegaaDoorRefC
import Derived.Test.YtkjocbdjenmegaaDoorLitE
namespace Go.Proofs.YtkjocbdjenmegaaDoor
open Go.AE
set_option linter.unusedVariables false
theorem toByte1 {x : Int} (h0 : 0 ≤ x) (h1 : x < 10) : List.map toByte [D.int .u8 (IntKind.u8.wrap (IntKind.i64.wrap (48 + x)))] = [UInt8.ofNat (48 + x.toNat)] := by
  rw [wrap_id (by omega) (by omega), wrap_u8n]
  have : ((48 + x) % 256).toNat = 48 + x.toNat := by omega
  show [UInt8.ofNat ((48 + x) % 256).toNat] = _
  rw [this]
theorem hexByte {d : Nat} (h : d < 16) : List.map toByte [D.int .u8 ((([48, 49, 50, 51, 52, 53, 54, 55, 56, 57, 97, 98, 99, 100, 101, 102] : List UInt8)[((d : Nat) : Int).toNat]?.getD 0).toNat : Int)] = [hexC d] := by
  rw [hexD_at h]
  exact toByte_cD [hexC d]
theorem hexN_full : ∀ (k n : Nat), hexN (k + 1) n true = nib n k :: hexN k n true := fun k n => by
  rw [hexN_succ]
  simp
theorem hexC_zero : ∀ k : Fin 16, (((hexC k.val).toNat : Int) == 48) = decide (k.val = 0) := by decide +kernel
end Go.Proofs.YtkjocbdjenmegaaDoor
