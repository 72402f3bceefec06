import Derived.Test.YtpmjplpnpnmlcaaGreatDoorM3
set_option linter.all false
namespace Go.Proofs.YtpmjplpnpnmlcaaGreatDoor
open Go.AE
set_option maxRecDepth 100000 in
theorem fip105 : Fi 105 false := fun L m => by kernel_rfl
set_option maxRecDepth 100000 in
theorem fin105 : Fi 105 true := fun L m => by kernel_rfl
set_option maxRecDepth 100000 in
theorem fip106 : Fi 106 false := fun L m => by kernel_rfl
set_option maxRecDepth 100000 in
theorem fin106 : Fi 106 true := fun L m => by kernel_rfl
set_option maxRecDepth 100000 in
theorem fip107 : Fi 107 false := fun L m => by kernel_rfl
set_option maxRecDepth 100000 in
theorem fin107 : Fi 107 true := fun L m => by kernel_rfl
set_option maxRecDepth 100000 in
theorem fip108 : Fi 108 false := fun L m => by kernel_rfl
set_option maxRecDepth 100000 in
theorem fin108 : Fi 108 true := fun L m => by kernel_rfl
set_option maxRecDepth 100000 in
theorem fip109 : Fi 109 false := fun L m => by kernel_rfl
set_option maxRecDepth 100000 in
theorem fin109 : Fi 109 true := fun L m => by kernel_rfl
set_option maxRecDepth 100000 in
theorem fip110 : Fi 110 false := fun L m => by kernel_rfl
set_option maxRecDepth 100000 in
theorem fin110 : Fi 110 true := fun L m => by kernel_rfl
set_option maxRecDepth 100000 in
theorem fip111 : Fi 111 false := fun L m => by kernel_rfl
set_option maxRecDepth 100000 in
theorem fin111 : Fi 111 true := fun L m => by kernel_rfl
set_option maxRecDepth 100000 in
theorem fip112 : Fi 112 false := fun L m => by kernel_rfl
set_option maxRecDepth 100000 in
theorem fin112 : Fi 112 true := fun L m => by kernel_rfl
end Go.Proofs.YtpmjplpnpnmlcaaGreatDoor
