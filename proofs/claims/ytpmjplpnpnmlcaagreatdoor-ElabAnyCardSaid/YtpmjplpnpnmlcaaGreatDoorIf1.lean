import Derived.Test.YtpmjplpnpnmlcaaGreatDoorIf0
import Derived.KernelRfl
set_option linter.all false
set_option maxRecDepth 100000
namespace Go.Proofs.YtpmjplpnpnmlcaaGreatDoor
open Go.AE Go.AE.Q Go.AE.Dc
theorem ZI:QR C sg pg 60 0:=by
 repeat (refine wD (fun _ _=>?_) ?_;kernel_rfl)
 trivial
end Go.Proofs.YtpmjplpnpnmlcaaGreatDoor
