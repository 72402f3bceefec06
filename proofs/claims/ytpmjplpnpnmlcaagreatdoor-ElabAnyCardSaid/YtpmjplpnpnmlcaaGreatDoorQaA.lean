import Derived.Test.YtpmjplpnpnmlcaaGreatDoorIfF
import Derived.Test.YtpmjplpnpnmlcaaGreatDoorFaA
import Derived.Test.YtpmjplpnpnmlcaaGreatDoorEng
import Derived.KernelRfl
set_option linter.all false
namespace Go.Proofs.YtpmjplpnpnmlcaaGreatDoor
open Go.AE
set_option maxRecDepth 100000
theorem TW:Ru 1 [] (true,[.bool true]):=Pc (n:=1000) (by kernel_rfl)
end Go.Proofs.YtpmjplpnpnmlcaaGreatDoor
