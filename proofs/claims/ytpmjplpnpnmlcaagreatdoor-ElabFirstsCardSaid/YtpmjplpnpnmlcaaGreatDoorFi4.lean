import Derived.Test.YtpmjplpnpnmlcaaGreatDoorM3
set_option linter.all false
namespace Go.Proofs.YtpmjplpnpnmlcaaGreatDoor
open Go.AE
set_option maxRecDepth 100000 in
theorem fip33 : Fi 33 false := fun L m => by kernel_rfl
set_option maxRecDepth 100000 in
theorem fin33 : Fi 33 true := fun L m => by kernel_rfl
set_option maxRecDepth 100000 in
theorem fip34 : Fi 34 false := fun L m => by kernel_rfl
set_option maxRecDepth 100000 in
theorem fin34 : Fi 34 true := fun L m => by kernel_rfl
set_option maxRecDepth 100000 in
theorem fip35 : Fi 35 false := fun L m => by kernel_rfl
set_option maxRecDepth 100000 in
theorem fin35 : Fi 35 true := fun L m => by kernel_rfl
set_option maxRecDepth 100000 in
theorem fip36 : Fi 36 false := fun L m => by kernel_rfl
set_option maxRecDepth 100000 in
theorem fin36 : Fi 36 true := fun L m => by kernel_rfl
set_option maxRecDepth 100000 in
theorem fip37 : Fi 37 false := fun L m => by kernel_rfl
set_option maxRecDepth 100000 in
theorem fin37 : Fi 37 true := fun L m => by kernel_rfl
set_option maxRecDepth 100000 in
theorem fip38 : Fi 38 false := fun L m => by kernel_rfl
set_option maxRecDepth 100000 in
theorem fin38 : Fi 38 true := fun L m => by kernel_rfl
set_option maxRecDepth 100000 in
theorem fip39 : Fi 39 false := fun L m => by kernel_rfl
set_option maxRecDepth 100000 in
theorem fin39 : Fi 39 true := fun L m => by kernel_rfl
set_option maxRecDepth 100000 in
theorem fip40 : Fi 40 false := fun L m => by kernel_rfl
set_option maxRecDepth 100000 in
theorem fin40 : Fi 40 true := fun L m => by kernel_rfl
end Go.Proofs.YtpmjplpnpnmlcaaGreatDoor
