import Derived.Test.YtpmjplpnpnmlcaaGreatDoorQv
import Derived.KernelRfl
set_option linter.all false
set_option maxRecDepth 100000
namespace Go.Proofs.YtpmjplpnpnmlcaaGreatDoor
open Go.AE Go.AE.Q Go.AE.Dc
theorem Ue:Er 91 275=true:=by kernel_rfl
end Go.Proofs.YtpmjplpnpnmlcaaGreatDoor
