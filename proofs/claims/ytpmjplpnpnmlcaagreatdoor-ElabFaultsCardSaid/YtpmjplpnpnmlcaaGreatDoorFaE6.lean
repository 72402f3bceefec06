/- Texts with a fault, evaluated. -/
import Derived.Test.YtpmjplpnpnmlcaaGreatDoorFaD
set_option linter.all false
namespace Go.Proofs.YtpmjplpnpnmlcaaGreatDoor
open Go.AE
set_option maxRecDepth 100000 in
theorem fau6 : Fau (bo 6) 12 11 := fun t l => by kernel_rfl
set_option maxRecDepth 100000 in
theorem fau14 : Fau (bo 14) 37 13 := fun t l => by kernel_rfl
set_option maxRecDepth 100000 in
theorem fau22 : Fau (bo 22) 9 17 := fun t l => by kernel_rfl
set_option maxRecDepth 100000 in
theorem fau30 : Fau (bo 30) 34 10 := fun t l => by kernel_rfl
end Go.Proofs.YtpmjplpnpnmlcaaGreatDoor
