import Derived.Test.YtpmjplpnpnmlcaaGreatDoorM3
set_option linter.all false
namespace Go.Proofs.YtpmjplpnpnmlcaaGreatDoor
open Go.AE
set_option maxRecDepth 100000 in
theorem fip113 : Fi 113 false := fun L m => by kernel_rfl
set_option maxRecDepth 100000 in
theorem fin113 : Fi 113 true := fun L m => by kernel_rfl
set_option maxRecDepth 100000 in
theorem fip114 : Fi 114 false := fun L m => by kernel_rfl
set_option maxRecDepth 100000 in
theorem fin114 : Fi 114 true := fun L m => by kernel_rfl
set_option maxRecDepth 100000 in
theorem fip115 : Fi 115 false := fun L m => by kernel_rfl
set_option maxRecDepth 100000 in
theorem fin115 : Fi 115 true := fun L m => by kernel_rfl
set_option maxRecDepth 100000 in
theorem fip116 : Fi 116 false := fun L m => by kernel_rfl
set_option maxRecDepth 100000 in
theorem fin116 : Fi 116 true := fun L m => by kernel_rfl
set_option maxRecDepth 100000 in
theorem fip117 : Fi 117 false := fun L m => by kernel_rfl
set_option maxRecDepth 100000 in
theorem fin117 : Fi 117 true := fun L m => by kernel_rfl
set_option maxRecDepth 100000 in
theorem fip118 : Fi 118 false := fun L m => by kernel_rfl
set_option maxRecDepth 100000 in
theorem fin118 : Fi 118 true := fun L m => by kernel_rfl
set_option maxRecDepth 100000 in
theorem fip119 : Fi 119 false := fun L m => by kernel_rfl
set_option maxRecDepth 100000 in
theorem fin119 : Fi 119 true := fun L m => by kernel_rfl
set_option maxRecDepth 100000 in
theorem fip120 : Fi 120 false := fun L m => by kernel_rfl
set_option maxRecDepth 100000 in
theorem fin120 : Fi 120 true := fun L m => by kernel_rfl
end Go.Proofs.YtpmjplpnpnmlcaaGreatDoor
