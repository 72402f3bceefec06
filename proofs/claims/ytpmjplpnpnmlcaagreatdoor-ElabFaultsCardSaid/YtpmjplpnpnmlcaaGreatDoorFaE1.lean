/- Texts with a fault, evaluated. -/
import Derived.Test.YtpmjplpnpnmlcaaGreatDoorFaD
set_option linter.all false
namespace Go.Proofs.YtpmjplpnpnmlcaaGreatDoor
open Go.AE
set_option maxRecDepth 100000 in
theorem fau1 : Fau (bo 1) 1 3 := fun t l => by kernel_rfl
set_option maxRecDepth 100000 in
theorem fau9 : Fau (bo 9) 21 9 := fun t l => by kernel_rfl
set_option maxRecDepth 100000 in
theorem fau17 : Fau (bo 17) 1 14 := fun t l => by kernel_rfl
set_option maxRecDepth 100000 in
theorem fau25 : Fau (bo 25) 21 9 := fun t l => by kernel_rfl
end Go.Proofs.YtpmjplpnpnmlcaaGreatDoor
