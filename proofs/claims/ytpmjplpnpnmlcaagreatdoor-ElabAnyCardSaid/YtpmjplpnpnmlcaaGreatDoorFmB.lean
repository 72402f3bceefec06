import Derived.Test.YtpmjplpnpnmlcaaGreatDoorRows
import Derived.Test.YtpmjplpnpnmlcaaGreatDoorTie
import Derived.Test.YtpmjplpnpnmlcaaGreatDoorEng
import Derived.HandedShaped
import Derived.LaidLaws
import Derived.Stop.LaidErr
import Derived.Handed
import Derived.LaidHandle
import Derived.KernelRfl
set_option linter.all false
namespace Go.Proofs.YtpmjplpnpnmlcaaGreatDoor
open Go.AE
namespace Claim
theorem Vv:Rows.elabAnyRow.wfByText (OpenSpec.ofChange Rows.elabAnySpec)=true:=by kernel_rfl
theorem Hx:Tryz.pinned.checked.prog.mainIs=some (true,"16a04560f04ee2d2d31e39f31ee3eeabb448da85cdc95d70a2d66cfb2a1bfef6".toList):=by kernel_rfl
theorem Hy:Tryz.pinned.checked.prog.funcNamed Rows.elabAnyRow.func=some 5:=by kernel_rfl
theorem Am:Tryz.prog.funcNamed "sluicegate/sluicegatelaw14.ElabAny"=some 5:=by kernel_rfl
theorem Al:false=Tryz.prog.looks []:=by kernel_rfl
theorem Hv:false=Rows.elabAnyRow.goesBy Tryz.pinned.checked.prog:=by kernel_rfl
theorem Hw:Tryz.f5.isInstance Tryz.pinned.checked.prog Rows.elabAnyRow.origin Rows.elabAnyRow.targs:=E7 (by kernel_rfl)
theorem Hz:Tryz.f5.isWrapper Tryz.pinned.checked.prog Rows.elabAnyRow.wrapper Rows.elabAnyRow.mainSum:=by unfold Func.isWrapper;first|(rw [if_pos (by decide +kernel)];kernel_rfl)|(rw [if_neg (by decide +kernel)];exact⟨rfl,rfl⟩)
end Claim
end Go.Proofs.YtpmjplpnpnmlcaaGreatDoor
