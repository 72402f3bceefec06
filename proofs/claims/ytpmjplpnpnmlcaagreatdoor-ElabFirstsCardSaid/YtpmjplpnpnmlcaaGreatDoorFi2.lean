import Derived.Test.YtpmjplpnpnmlcaaGreatDoorM3
set_option linter.all false
namespace Go.Proofs.YtpmjplpnpnmlcaaGreatDoor
open Go.AE
set_option maxRecDepth 100000 in
theorem fip17 : Fi 17 false := fun L m => by kernel_rfl
set_option maxRecDepth 100000 in
theorem fin17 : Fi 17 true := fun L m => by kernel_rfl
set_option maxRecDepth 100000 in
theorem fip18 : Fi 18 false := fun L m => by kernel_rfl
set_option maxRecDepth 100000 in
theorem fin18 : Fi 18 true := fun L m => by kernel_rfl
set_option maxRecDepth 100000 in
theorem fip19 : Fi 19 false := fun L m => by kernel_rfl
set_option maxRecDepth 100000 in
theorem fin19 : Fi 19 true := fun L m => by kernel_rfl
set_option maxRecDepth 100000 in
theorem fip20 : Fi 20 false := fun L m => by kernel_rfl
set_option maxRecDepth 100000 in
theorem fin20 : Fi 20 true := fun L m => by kernel_rfl
set_option maxRecDepth 100000 in
theorem fip21 : Fi 21 false := fun L m => by kernel_rfl
set_option maxRecDepth 100000 in
theorem fin21 : Fi 21 true := fun L m => by kernel_rfl
set_option maxRecDepth 100000 in
theorem fip22 : Fi 22 false := fun L m => by kernel_rfl
set_option maxRecDepth 100000 in
theorem fin22 : Fi 22 true := fun L m => by kernel_rfl
set_option maxRecDepth 100000 in
theorem fip23 : Fi 23 false := fun L m => by kernel_rfl
set_option maxRecDepth 100000 in
theorem fin23 : Fi 23 true := fun L m => by kernel_rfl
set_option maxRecDepth 100000 in
theorem fip24 : Fi 24 false := fun L m => by kernel_rfl
set_option maxRecDepth 100000 in
theorem fin24 : Fi 24 true := fun L m => by kernel_rfl
end Go.Proofs.YtpmjplpnpnmlcaaGreatDoor
