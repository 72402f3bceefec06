/- Texts with a fault, evaluated. -/
import Derived.Test.YtpmjplpnpnmlcaaGreatDoorFaD
set_option linter.all false
namespace Go.Proofs.YtpmjplpnpnmlcaaGreatDoor
open Go.AE
set_option maxRecDepth 100000 in
theorem fau3 : Fau (bo 3) 1 3 := fun t l => by kernel_rfl
set_option maxRecDepth 100000 in
theorem fau11 : Fau (bo 11) 1 9 := fun t l => by kernel_rfl
set_option maxRecDepth 100000 in
theorem fau19 : Fau (bo 19) 9 16 := fun t l => by kernel_rfl
set_option maxRecDepth 100000 in
theorem fau27 : Fau (bo 27) 28 9 := fun t l => by kernel_rfl
end Go.Proofs.YtpmjplpnpnmlcaaGreatDoor
