/- Texts with a fault, evaluated. -/
import Derived.Test.YtpmjplpnpnmlcaaGreatDoorFaD
set_option linter.all false
namespace Go.Proofs.YtpmjplpnpnmlcaaGreatDoor
open Go.AE
set_option maxRecDepth 100000 in
theorem fau4 : Fau (bo 4) 8 9 := fun t l => by kernel_rfl
set_option maxRecDepth 100000 in
theorem fau12 : Fau (bo 12) 1 13 := fun t l => by kernel_rfl
set_option maxRecDepth 100000 in
theorem fau20 : Fau (bo 20) 9 11 := fun t l => by kernel_rfl
set_option maxRecDepth 100000 in
theorem fau28 : Fau (bo 28) 49 11 := fun t l => by kernel_rfl
end Go.Proofs.YtpmjplpnpnmlcaaGreatDoor
