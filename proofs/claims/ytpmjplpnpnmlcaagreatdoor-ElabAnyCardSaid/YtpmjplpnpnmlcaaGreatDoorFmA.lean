import Derived.Test.YtpmjplpnpnmlcaaGreatDoorRows
import Derived.Test.YtpmjplpnpnmlcaaGreatDoorTie
import Derived.Test.YtpmjplpnpnmlcaaGreatDoorEng
import Derived.HandedShaped
import Derived.LaidLaws
import Derived.Stop.LaidErr
import Derived.Handed
import Derived.LaidHandle
import Derived.KernelRfl
set_option linter.all false
namespace Go.Proofs.YtpmjplpnpnmlcaaGreatDoor
open Go.AE
namespace Claim
theorem k0:(Rows.elabAnyRow.wf (OpenSpec.ofChange Rows.elabAnySpec))=true:=by kernel_rfl
theorem k1:(laidOutB Tryz.pinned.checked.prog)=true:=by kernel_rfl
theorem k2:(mapsRowed Tryz.pinned.checked.prog)=true:=by kernel_rfl
theorem k3:(Tryz.f5.params.all (Tryz.pinned.checked.prog.readableRec ·))=true:=by kernel_rfl
theorem k4:(namedTie Tryz.pinned.checked.prog Rows.elabAnyRow.named Rows.elabAnySpec.vars)=true:=by kernel_rfl
theorem k5:((Rows.elabAnyRow.stops==[]))=true:=by kernel_rfl
theorem k6:((Tryz.pinned.checked.prog.stops==[]))=true:=by kernel_rfl
theorem k7:((Rows.elabAnyRow.knobs==[]))=true:=by kernel_rfl
theorem k8:((Tryz.pinned.checked.prog.stopKnobs==[]))=true:=by kernel_rfl
theorem k9:((Rows.elabAnyRow.inPlace==Tryz.pinned.checked.prog.inPlace 5))=true:=by kernel_rfl
theorem Fq:((Rows.elabAnyRow.unfollowed==Tryz.pinned.checked.prog.unfollowed 5))=true:=by kernel_rfl
theorem Ur:((Rows.elabAnyRow.recurses==Tryz.pinned.checked.prog.recurses 5))=true:=by kernel_rfl
theorem Wc:((Rows.elabAnyRow.named==Tryz.pinned.checked.prog.varsNamed 5))=true:=by kernel_rfl
theorem Wd:((Rows.elabAnyRow.maps==(Tryz.f5.params.toList++Rows.elabAnySpec.plain.varTypes Tryz.pinned.checked.prog).any (Tryz.pinned.checked.prog.mapsRec ·)))=true:=by kernel_rfl
theorem We:((Rows.elabAnyRow.ifaces==(Tryz.f5.params.toList++Rows.elabAnySpec.plain.varTypes Tryz.pinned.checked.prog).any (Tryz.pinned.checked.prog.ifacesRec ·)))=true:=by kernel_rfl
theorem Wf:((Rows.elabAnyRow.mapsOut==Tryz.pinned.checked.prog.mapsAmong Tryz.f5.resultTypes.toList))=true:=by kernel_rfl
theorem aA8:((Rows.elabAnyRow.loops==(Tryz.f5.params.toList++Rows.elabAnySpec.plain.varTypes Tryz.pinned.checked.prog).any (Tryz.pinned.checked.prog.loopsFrom ·)))=true:=by kernel_rfl
theorem aA9:((Rows.elabAnyRow.wideKeys==(Tryz.f5.params.toList++Rows.elabAnySpec.plain.varTypes Tryz.pinned.checked.prog++Tryz.f5.resultTypes.toList).any (Tryz.pinned.checked.prog.wideKeysFrom ·)))=true:=by kernel_rfl
theorem aB0:(Rows.elabAnySpec.vars.all (Tryz.pinned.checked.prog.varReadable ·))=true:=by kernel_rfl
theorem aB1:(Tryz.f5.resultTypes.all (fun t=>Tryz.pinned.checked.prog.readableRec t&&decide (t<Tryz.pinned.checked.prog.types.size)))=true:=by kernel_rfl
theorem aB2:((Rows.elabAnyRow.ifacesOut==Tryz.f5.resultTypes.toList.any (Tryz.pinned.checked.prog.ifacesRec ·)))=true:=by kernel_rfl
theorem aB3:((Rows.elabAnyRow.loopsOut==Tryz.f5.resultTypes.toList.any (Tryz.pinned.checked.prog.loopsFrom ·)))=true:=by kernel_rfl
theorem aB4:((Rows.elabAnyRow.plainKeys==Tryz.pinned.checked.prog.plainKeys))=true:=by kernel_rfl
theorem aB5:(Rows.elabAnyRow.shortTexts.isNone)=true:=by kernel_rfl
theorem aB6:(Tryz.pinned.checked.prog.stopsHeard)=true:=by kernel_rfl
theorem aB7:(Tryz.pinned.checked.prog.mayEnter)=true:=by kernel_rfl
theorem aB8:((Rows.elabAnyRow.lifted==Tryz.pinned.checked.prog.liftsFinal))=true:=by kernel_rfl
theorem aB9:((Tryz.pinned.checked.prog.make==some Rows.elabAnyRow.make))=true:=by kernel_rfl
theorem aC0:((Rows.elabAnyRow.kinds==(if Rows.elabAnyRow.domain.isEmpty then [] else Tryz.f5.params.toList.map fun t=>match Tryz.pinned.checked.prog.underlying t with|some (.int k)=>some k|_=>none)))=true:=by kernel_rfl
theorem aC1:((Rows.elabAnyRow.pinned==Rows.elabAnyRow.pinnedBy))=true:=by kernel_rfl
theorem aC2:((Rows.elabAnyRow.veiled==(Tryz.f5.params.toList++Rows.elabAnySpec.plain.varTypes Tryz.pinned.checked.prog++Tryz.f5.resultTypes.toList).any (Tryz.pinned.checked.prog.veiledRec ·)))=true:=by kernel_rfl
theorem aC3:(Rows.elabAnyRow.veiledFits Tryz.pinned.checked.prog Tryz.f5.params.toList (Tryz.f5.params.toList++Rows.elabAnySpec.plain.varTypes Tryz.pinned.checked.prog++Tryz.f5.resultTypes.toList))=true:=by kernel_rfl
end Claim
end Go.Proofs.YtpmjplpnpnmlcaaGreatDoor
