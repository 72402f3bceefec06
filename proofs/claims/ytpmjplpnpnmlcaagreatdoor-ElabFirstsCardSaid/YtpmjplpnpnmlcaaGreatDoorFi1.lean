import Derived.Test.YtpmjplpnpnmlcaaGreatDoorM3
set_option linter.all false
namespace Go.Proofs.YtpmjplpnpnmlcaaGreatDoor
open Go.AE
set_option maxRecDepth 100000 in
theorem fip9 : Fi 9 false := fun L m => by kernel_rfl
set_option maxRecDepth 100000 in
theorem fin9 : Fi 9 true := fun L m => by kernel_rfl
set_option maxRecDepth 100000 in
theorem fip10 : Fi 10 false := fun L m => by kernel_rfl
set_option maxRecDepth 100000 in
theorem fin10 : Fi 10 true := fun L m => by kernel_rfl
set_option maxRecDepth 100000 in
theorem fip11 : Fi 11 false := fun L m => by kernel_rfl
set_option maxRecDepth 100000 in
theorem fin11 : Fi 11 true := fun L m => by kernel_rfl
set_option maxRecDepth 100000 in
theorem fip12 : Fi 12 false := fun L m => by kernel_rfl
set_option maxRecDepth 100000 in
theorem fin12 : Fi 12 true := fun L m => by kernel_rfl
set_option maxRecDepth 100000 in
theorem fip13 : Fi 13 false := fun L m => by kernel_rfl
set_option maxRecDepth 100000 in
theorem fin13 : Fi 13 true := fun L m => by kernel_rfl
set_option maxRecDepth 100000 in
theorem fip14 : Fi 14 false := fun L m => by kernel_rfl
set_option maxRecDepth 100000 in
theorem fin14 : Fi 14 true := fun L m => by kernel_rfl
set_option maxRecDepth 100000 in
theorem fip15 : Fi 15 false := fun L m => by kernel_rfl
set_option maxRecDepth 100000 in
theorem fin15 : Fi 15 true := fun L m => by kernel_rfl
set_option maxRecDepth 100000 in
theorem fip16 : Fi 16 false := fun L m => by kernel_rfl
set_option maxRecDepth 100000 in
theorem fin16 : Fi 16 true := fun L m => by kernel_rfl
end Go.Proofs.YtpmjplpnpnmlcaaGreatDoor
