/- Texts with a fault, evaluated. -/
import Derived.Test.YtpmjplpnpnmlcaaGreatDoorFaD
set_option linter.all false
namespace Go.Proofs.YtpmjplpnpnmlcaaGreatDoor
open Go.AE
set_option maxRecDepth 100000 in
theorem fau7 : Fau (bo 7) 8 14 := fun t l => by kernel_rfl
set_option maxRecDepth 100000 in
theorem fau15 : Fau (bo 15) 8 13 := fun t l => by kernel_rfl
set_option maxRecDepth 100000 in
theorem fau23 : Fau (bo 23) 34 9 := fun t l => by kernel_rfl
set_option maxRecDepth 100000 in
theorem fau31 : Fau (bo 31) 31 2 := fun t l => by kernel_rfl
end Go.Proofs.YtpmjplpnpnmlcaaGreatDoor
