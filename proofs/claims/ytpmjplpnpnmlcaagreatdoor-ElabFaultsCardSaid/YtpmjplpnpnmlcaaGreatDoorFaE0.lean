/- Texts with a fault, evaluated. -/
import Derived.Test.YtpmjplpnpnmlcaaGreatDoorFaD
set_option linter.all false
namespace Go.Proofs.YtpmjplpnpnmlcaaGreatDoor
open Go.AE
set_option maxRecDepth 100000 in
theorem fau0 : Fau (bo 0) 1 10 := fun t l => by kernel_rfl
set_option maxRecDepth 100000 in
theorem fau8 : Fau (bo 8) 8 3 := fun t l => by kernel_rfl
set_option maxRecDepth 100000 in
theorem fau16 : Fau (bo 16) 43 11 := fun t l => by kernel_rfl
set_option maxRecDepth 100000 in
theorem fau24 : Fau (bo 24) 46 19 := fun t l => by kernel_rfl
end Go.Proofs.YtpmjplpnpnmlcaaGreatDoor
