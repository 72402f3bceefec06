import Derived.Test.YtpmjplpnpnmlcaaGreatDoorIf0
import Derived.KernelRfl
set_option linter.all false
set_option maxRecDepth 100000
namespace Go.Proofs.YtpmjplpnpnmlcaaGreatDoor
open Go.AE Go.AE.Q Go.AE.Dc
theorem XQ:QR C sg pg 45 240:=by
 repeat (refine wD (fun _ _=>?_) ?_;kernel_rfl)
 trivial
theorem Sq:QR C sg pg 4 286:=by
 repeat (refine wD (fun _ _=>?_) ?_;kernel_rfl)
 trivial
end Go.Proofs.YtpmjplpnpnmlcaaGreatDoor
