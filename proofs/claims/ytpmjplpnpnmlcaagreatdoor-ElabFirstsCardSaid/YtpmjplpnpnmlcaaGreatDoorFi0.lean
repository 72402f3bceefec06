import Derived.Test.YtpmjplpnpnmlcaaGreatDoorM3
set_option linter.all false
namespace Go.Proofs.YtpmjplpnpnmlcaaGreatDoor
open Go.AE
set_option maxRecDepth 100000 in
theorem fip1 : Fi 1 false := fun L m => by kernel_rfl
set_option maxRecDepth 100000 in
theorem fin1 : Fi 1 true := fun L m => by kernel_rfl
set_option maxRecDepth 100000 in
theorem fip2 : Fi 2 false := fun L m => by kernel_rfl
set_option maxRecDepth 100000 in
theorem fin2 : Fi 2 true := fun L m => by kernel_rfl
set_option maxRecDepth 100000 in
theorem fip3 : Fi 3 false := fun L m => by kernel_rfl
set_option maxRecDepth 100000 in
theorem fin3 : Fi 3 true := fun L m => by kernel_rfl
set_option maxRecDepth 100000 in
theorem fip4 : Fi 4 false := fun L m => by kernel_rfl
set_option maxRecDepth 100000 in
theorem fin4 : Fi 4 true := fun L m => by kernel_rfl
set_option maxRecDepth 100000 in
theorem fip5 : Fi 5 false := fun L m => by kernel_rfl
set_option maxRecDepth 100000 in
theorem fin5 : Fi 5 true := fun L m => by kernel_rfl
set_option maxRecDepth 100000 in
theorem fip6 : Fi 6 false := fun L m => by kernel_rfl
set_option maxRecDepth 100000 in
theorem fin6 : Fi 6 true := fun L m => by kernel_rfl
set_option maxRecDepth 100000 in
theorem fip7 : Fi 7 false := fun L m => by kernel_rfl
set_option maxRecDepth 100000 in
theorem fin7 : Fi 7 true := fun L m => by kernel_rfl
set_option maxRecDepth 100000 in
theorem fip8 : Fi 8 false := fun L m => by kernel_rfl
set_option maxRecDepth 100000 in
theorem fin8 : Fi 8 true := fun L m => by kernel_rfl
end Go.Proofs.YtpmjplpnpnmlcaaGreatDoor
