import Derived.Test.YtpmjplpnpnmlcaaGreatDoorM3
set_option linter.all false
namespace Go.Proofs.YtpmjplpnpnmlcaaGreatDoor
open Go.AE
set_option maxRecDepth 100000 in
theorem fip49 : Fi 49 false := fun L m => by kernel_rfl
set_option maxRecDepth 100000 in
theorem fin49 : Fi 49 true := fun L m => by kernel_rfl
set_option maxRecDepth 100000 in
theorem fip50 : Fi 50 false := fun L m => by kernel_rfl
set_option maxRecDepth 100000 in
theorem fin50 : Fi 50 true := fun L m => by kernel_rfl
set_option maxRecDepth 100000 in
theorem fip51 : Fi 51 false := fun L m => by kernel_rfl
set_option maxRecDepth 100000 in
theorem fin51 : Fi 51 true := fun L m => by kernel_rfl
set_option maxRecDepth 100000 in
theorem fip52 : Fi 52 false := fun L m => by kernel_rfl
set_option maxRecDepth 100000 in
theorem fin52 : Fi 52 true := fun L m => by kernel_rfl
set_option maxRecDepth 100000 in
theorem fip53 : Fi 53 false := fun L m => by kernel_rfl
set_option maxRecDepth 100000 in
theorem fin53 : Fi 53 true := fun L m => by kernel_rfl
set_option maxRecDepth 100000 in
theorem fip54 : Fi 54 false := fun L m => by kernel_rfl
set_option maxRecDepth 100000 in
theorem fin54 : Fi 54 true := fun L m => by kernel_rfl
set_option maxRecDepth 100000 in
theorem fip55 : Fi 55 false := fun L m => by kernel_rfl
set_option maxRecDepth 100000 in
theorem fin55 : Fi 55 true := fun L m => by kernel_rfl
set_option maxRecDepth 100000 in
theorem fip56 : Fi 56 false := fun L m => by kernel_rfl
set_option maxRecDepth 100000 in
theorem fin56 : Fi 56 true := fun L m => by kernel_rfl
end Go.Proofs.YtpmjplpnpnmlcaaGreatDoor
