import Derived.Test.YtpmjplpnpnmlcaaGreatDoorRows
import Derived.Test.YtpmjplpnpnmlcaaGreatDoorTie
import Derived.Test.YtpmjplpnpnmlcaaGreatDoorEng
import Derived.HandedShaped
import Derived.LaidLaws
import Derived.Stop.LaidErr
import Derived.Handed
import Derived.LaidHandle
import Derived.KernelRfl
set_option linter.all false
namespace Go.Proofs.YtpmjplpnpnmlcaaGreatDoor
open Go.AE
namespace Claim
theorem f_wf : Rows.elabFirstsRow.wfByText (OpenSpec.ofChange Rows.elabFirstsSpec) = true := by kernel_rfl
theorem f_main : Tryz.pinned.checked.prog.mainIs = some (true, "16a04560f04ee2d2d31e39f31ee3eeabb448da85cdc95d70a2d66cfb2a1bfef6".toList) := by kernel_rfl
theorem f_name : Tryz.pinned.checked.prog.funcNamed Rows.elabFirstsRow.func = some 6 := by kernel_rfl
theorem f_name2 : Tryz.prog.funcNamed "sluicegate/sluicegatelaw14.ElabFirsts" = some 6 := by kernel_rfl
theorem f_looks : false = Tryz.prog.looks [] := by kernel_rfl
theorem f_goes : false = Rows.elabFirstsRow.goesBy Tryz.pinned.checked.prog := by kernel_rfl
theorem f_inst : Tryz.f6.isInstance Tryz.pinned.checked.prog Rows.elabFirstsRow.origin Rows.elabFirstsRow.targs := of_decide_eq_true (by kernel_rfl)
theorem f_wrap : Tryz.f6.isWrapper Tryz.pinned.checked.prog Rows.elabFirstsRow.wrapper Rows.elabFirstsRow.mainSum := by unfold Func.isWrapper; first | (rw [if_pos (by decide +kernel)]; kernel_rfl) | (rw [if_neg (by decide +kernel)]; exact ⟨rfl, rfl⟩)
end Claim
end Go.Proofs.YtpmjplpnpnmlcaaGreatDoor
