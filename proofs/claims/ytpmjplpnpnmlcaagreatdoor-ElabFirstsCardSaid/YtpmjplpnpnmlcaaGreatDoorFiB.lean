import Derived.Test.YtpmjplpnpnmlcaaGreatDoorM3
set_option linter.all false
namespace Go.Proofs.YtpmjplpnpnmlcaaGreatDoor
open Go.AE
set_option maxRecDepth 100000 in
theorem fip89 : Fi 89 false := fun L m => by kernel_rfl
set_option maxRecDepth 100000 in
theorem fin89 : Fi 89 true := fun L m => by kernel_rfl
set_option maxRecDepth 100000 in
theorem fip90 : Fi 90 false := fun L m => by kernel_rfl
set_option maxRecDepth 100000 in
theorem fin90 : Fi 90 true := fun L m => by kernel_rfl
set_option maxRecDepth 100000 in
theorem fip91 : Fi 91 false := fun L m => by kernel_rfl
set_option maxRecDepth 100000 in
theorem fin91 : Fi 91 true := fun L m => by kernel_rfl
set_option maxRecDepth 100000 in
theorem fip92 : Fi 92 false := fun L m => by kernel_rfl
set_option maxRecDepth 100000 in
theorem fin92 : Fi 92 true := fun L m => by kernel_rfl
set_option maxRecDepth 100000 in
theorem fip93 : Fi 93 false := fun L m => by kernel_rfl
set_option maxRecDepth 100000 in
theorem fin93 : Fi 93 true := fun L m => by kernel_rfl
set_option maxRecDepth 100000 in
theorem fip94 : Fi 94 false := fun L m => by kernel_rfl
set_option maxRecDepth 100000 in
theorem fin94 : Fi 94 true := fun L m => by kernel_rfl
set_option maxRecDepth 100000 in
theorem fip95 : Fi 95 false := fun L m => by kernel_rfl
set_option maxRecDepth 100000 in
theorem fin95 : Fi 95 true := fun L m => by kernel_rfl
set_option maxRecDepth 100000 in
theorem fip96 : Fi 96 false := fun L m => by kernel_rfl
set_option maxRecDepth 100000 in
theorem fin96 : Fi 96 true := fun L m => by kernel_rfl
end Go.Proofs.YtpmjplpnpnmlcaaGreatDoor
