/- Texts with a fault, evaluated. -/
import Derived.Test.YtpmjplpnpnmlcaaGreatDoorFaD
set_option linter.all false
namespace Go.Proofs.YtpmjplpnpnmlcaaGreatDoor
open Go.AE
set_option maxRecDepth 100000 in
theorem fau2 : Fau (bo 2) 1 3 := fun t l => by kernel_rfl
set_option maxRecDepth 100000 in
theorem fau10 : Fau (bo 10) 1 11 := fun t l => by kernel_rfl
set_option maxRecDepth 100000 in
theorem fau18 : Fau (bo 18) 10 15 := fun t l => by kernel_rfl
set_option maxRecDepth 100000 in
theorem fau26 : Fau (bo 26) 24 11 := fun t l => by kernel_rfl
end Go.Proofs.YtpmjplpnpnmlcaaGreatDoor
