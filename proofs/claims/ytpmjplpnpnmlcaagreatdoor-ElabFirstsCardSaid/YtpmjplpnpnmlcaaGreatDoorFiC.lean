import Derived.Test.YtpmjplpnpnmlcaaGreatDoorM3
set_option linter.all false
namespace Go.Proofs.YtpmjplpnpnmlcaaGreatDoor
open Go.AE
set_option maxRecDepth 100000 in
theorem fip97 : Fi 97 false := fun L m => by kernel_rfl
set_option maxRecDepth 100000 in
theorem fin97 : Fi 97 true := fun L m => by kernel_rfl
set_option maxRecDepth 100000 in
theorem fip98 : Fi 98 false := fun L m => by kernel_rfl
set_option maxRecDepth 100000 in
theorem fin98 : Fi 98 true := fun L m => by kernel_rfl
set_option maxRecDepth 100000 in
theorem fip99 : Fi 99 false := fun L m => by kernel_rfl
set_option maxRecDepth 100000 in
theorem fin99 : Fi 99 true := fun L m => by kernel_rfl
set_option maxRecDepth 100000 in
theorem fip100 : Fi 100 false := fun L m => by kernel_rfl
set_option maxRecDepth 100000 in
theorem fin100 : Fi 100 true := fun L m => by kernel_rfl
set_option maxRecDepth 100000 in
theorem fip101 : Fi 101 false := fun L m => by kernel_rfl
set_option maxRecDepth 100000 in
theorem fin101 : Fi 101 true := fun L m => by kernel_rfl
set_option maxRecDepth 100000 in
theorem fip102 : Fi 102 false := fun L m => by kernel_rfl
set_option maxRecDepth 100000 in
theorem fin102 : Fi 102 true := fun L m => by kernel_rfl
set_option maxRecDepth 100000 in
theorem fip103 : Fi 103 false := fun L m => by kernel_rfl
set_option maxRecDepth 100000 in
theorem fin103 : Fi 103 true := fun L m => by kernel_rfl
set_option maxRecDepth 100000 in
theorem fip104 : Fi 104 false := fun L m => by kernel_rfl
set_option maxRecDepth 100000 in
theorem fin104 : Fi 104 true := fun L m => by kernel_rfl
end Go.Proofs.YtpmjplpnpnmlcaaGreatDoor
