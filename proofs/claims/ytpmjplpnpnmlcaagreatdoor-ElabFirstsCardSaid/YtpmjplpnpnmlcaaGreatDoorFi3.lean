import Derived.Test.YtpmjplpnpnmlcaaGreatDoorM3
set_option linter.all false
namespace Go.Proofs.YtpmjplpnpnmlcaaGreatDoor
open Go.AE
set_option maxRecDepth 100000 in
theorem fip25 : Fi 25 false := fun L m => by kernel_rfl
set_option maxRecDepth 100000 in
theorem fin25 : Fi 25 true := fun L m => by kernel_rfl
set_option maxRecDepth 100000 in
theorem fip26 : Fi 26 false := fun L m => by kernel_rfl
set_option maxRecDepth 100000 in
theorem fin26 : Fi 26 true := fun L m => by kernel_rfl
set_option maxRecDepth 100000 in
theorem fip27 : Fi 27 false := fun L m => by kernel_rfl
set_option maxRecDepth 100000 in
theorem fin27 : Fi 27 true := fun L m => by kernel_rfl
set_option maxRecDepth 100000 in
theorem fip28 : Fi 28 false := fun L m => by kernel_rfl
set_option maxRecDepth 100000 in
theorem fin28 : Fi 28 true := fun L m => by kernel_rfl
set_option maxRecDepth 100000 in
theorem fip29 : Fi 29 false := fun L m => by kernel_rfl
set_option maxRecDepth 100000 in
theorem fin29 : Fi 29 true := fun L m => by kernel_rfl
set_option maxRecDepth 100000 in
theorem fip30 : Fi 30 false := fun L m => by kernel_rfl
set_option maxRecDepth 100000 in
theorem fin30 : Fi 30 true := fun L m => by kernel_rfl
set_option maxRecDepth 100000 in
theorem fip31 : Fi 31 false := fun L m => by kernel_rfl
set_option maxRecDepth 100000 in
theorem fin31 : Fi 31 true := fun L m => by kernel_rfl
set_option maxRecDepth 100000 in
theorem fip32 : Fi 32 false := fun L m => by kernel_rfl
set_option maxRecDepth 100000 in
theorem fin32 : Fi 32 true := fun L m => by kernel_rfl
end Go.Proofs.YtpmjplpnpnmlcaaGreatDoor
