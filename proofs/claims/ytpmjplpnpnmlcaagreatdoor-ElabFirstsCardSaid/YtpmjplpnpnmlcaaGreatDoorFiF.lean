import Derived.Test.YtpmjplpnpnmlcaaGreatDoorM3
set_option linter.all false
namespace Go.Proofs.YtpmjplpnpnmlcaaGreatDoor
open Go.AE
set_option maxRecDepth 100000 in
theorem fip121 : Fi 121 false := fun L m => by kernel_rfl
set_option maxRecDepth 100000 in
theorem fin121 : Fi 121 true := fun L m => by kernel_rfl
set_option maxRecDepth 100000 in
theorem fip122 : Fi 122 false := fun L m => by kernel_rfl
set_option maxRecDepth 100000 in
theorem fin122 : Fi 122 true := fun L m => by kernel_rfl
set_option maxRecDepth 100000 in
theorem fip123 : Fi 123 false := fun L m => by kernel_rfl
set_option maxRecDepth 100000 in
theorem fin123 : Fi 123 true := fun L m => by kernel_rfl
set_option maxRecDepth 100000 in
theorem fip124 : Fi 124 false := fun L m => by kernel_rfl
set_option maxRecDepth 100000 in
theorem fin124 : Fi 124 true := fun L m => by kernel_rfl
set_option maxRecDepth 100000 in
theorem fip125 : Fi 125 false := fun L m => by kernel_rfl
set_option maxRecDepth 100000 in
theorem fin125 : Fi 125 true := fun L m => by kernel_rfl
set_option maxRecDepth 100000 in
theorem fip126 : Fi 126 false := fun L m => by kernel_rfl
set_option maxRecDepth 100000 in
theorem fin126 : Fi 126 true := fun L m => by kernel_rfl
set_option maxRecDepth 100000 in
theorem fip127 : Fi 127 false := fun L m => by kernel_rfl
set_option maxRecDepth 100000 in
theorem fin127 : Fi 127 true := fun L m => by kernel_rfl
set_option maxRecDepth 100000 in
theorem fip128 : Fi 128 false := fun L m => by kernel_rfl
set_option maxRecDepth 100000 in
theorem fin128 : Fi 128 true := fun L m => by kernel_rfl
end Go.Proofs.YtpmjplpnpnmlcaaGreatDoor
