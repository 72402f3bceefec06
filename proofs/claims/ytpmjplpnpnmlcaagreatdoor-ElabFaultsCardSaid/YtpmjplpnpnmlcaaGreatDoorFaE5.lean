/- Texts with a fault, evaluated. -/
import Derived.Test.YtpmjplpnpnmlcaaGreatDoorFaD
set_option linter.all false
namespace Go.Proofs.YtpmjplpnpnmlcaaGreatDoor
open Go.AE
set_option maxRecDepth 100000 in
theorem fau5 : Fau (bo 5) 8 11 := fun t l => by kernel_rfl
set_option maxRecDepth 100000 in
theorem fau13 : Fau (bo 13) 9 13 := fun t l => by kernel_rfl
set_option maxRecDepth 100000 in
theorem fau21 : Fau (bo 21) 51 17 := fun t l => by kernel_rfl
set_option maxRecDepth 100000 in
theorem fau29 : Fau (bo 29) 16 9 := fun t l => by kernel_rfl
end Go.Proofs.YtpmjplpnpnmlcaaGreatDoor
