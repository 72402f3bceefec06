import Derived.Test.YtpmjplpnpnmlcaaGreatDoorM3
set_option linter.all false
namespace Go.Proofs.YtpmjplpnpnmlcaaGreatDoor
open Go.AE
set_option maxRecDepth 100000 in
theorem fip81 : Fi 81 false := fun L m => by kernel_rfl
set_option maxRecDepth 100000 in
theorem fin81 : Fi 81 true := fun L m => by kernel_rfl
set_option maxRecDepth 100000 in
theorem fip82 : Fi 82 false := fun L m => by kernel_rfl
set_option maxRecDepth 100000 in
theorem fin82 : Fi 82 true := fun L m => by kernel_rfl
set_option maxRecDepth 100000 in
theorem fip83 : Fi 83 false := fun L m => by kernel_rfl
set_option maxRecDepth 100000 in
theorem fin83 : Fi 83 true := fun L m => by kernel_rfl
set_option maxRecDepth 100000 in
theorem fip84 : Fi 84 false := fun L m => by kernel_rfl
set_option maxRecDepth 100000 in
theorem fin84 : Fi 84 true := fun L m => by kernel_rfl
set_option maxRecDepth 100000 in
theorem fip85 : Fi 85 false := fun L m => by kernel_rfl
set_option maxRecDepth 100000 in
theorem fin85 : Fi 85 true := fun L m => by kernel_rfl
set_option maxRecDepth 100000 in
theorem fip86 : Fi 86 false := fun L m => by kernel_rfl
set_option maxRecDepth 100000 in
theorem fin86 : Fi 86 true := fun L m => by kernel_rfl
set_option maxRecDepth 100000 in
theorem fip87 : Fi 87 false := fun L m => by kernel_rfl
set_option maxRecDepth 100000 in
theorem fin87 : Fi 87 true := fun L m => by kernel_rfl
set_option maxRecDepth 100000 in
theorem fip88 : Fi 88 false := fun L m => by kernel_rfl
set_option maxRecDepth 100000 in
theorem fin88 : Fi 88 true := fun L m => by kernel_rfl
end Go.Proofs.YtpmjplpnpnmlcaaGreatDoor
