import Derived.Test.YtpmjplpnpnmlcaaGreatDoorM3
set_option linter.all false
namespace Go.Proofs.YtpmjplpnpnmlcaaGreatDoor
open Go.AE
set_option maxRecDepth 100000 in
theorem fip73 : Fi 73 false := fun L m => by kernel_rfl
set_option maxRecDepth 100000 in
theorem fin73 : Fi 73 true := fun L m => by kernel_rfl
set_option maxRecDepth 100000 in
theorem fip74 : Fi 74 false := fun L m => by kernel_rfl
set_option maxRecDepth 100000 in
theorem fin74 : Fi 74 true := fun L m => by kernel_rfl
set_option maxRecDepth 100000 in
theorem fip75 : Fi 75 false := fun L m => by kernel_rfl
set_option maxRecDepth 100000 in
theorem fin75 : Fi 75 true := fun L m => by kernel_rfl
set_option maxRecDepth 100000 in
theorem fip76 : Fi 76 false := fun L m => by kernel_rfl
set_option maxRecDepth 100000 in
theorem fin76 : Fi 76 true := fun L m => by kernel_rfl
set_option maxRecDepth 100000 in
theorem fip77 : Fi 77 false := fun L m => by kernel_rfl
set_option maxRecDepth 100000 in
theorem fin77 : Fi 77 true := fun L m => by kernel_rfl
set_option maxRecDepth 100000 in
theorem fip78 : Fi 78 false := fun L m => by kernel_rfl
set_option maxRecDepth 100000 in
theorem fin78 : Fi 78 true := fun L m => by kernel_rfl
set_option maxRecDepth 100000 in
theorem fip79 : Fi 79 false := fun L m => by kernel_rfl
set_option maxRecDepth 100000 in
theorem fin79 : Fi 79 true := fun L m => by kernel_rfl
set_option maxRecDepth 100000 in
theorem fip80 : Fi 80 false := fun L m => by kernel_rfl
set_option maxRecDepth 100000 in
theorem fin80 : Fi 80 true := fun L m => by kernel_rfl
end Go.Proofs.YtpmjplpnpnmlcaaGreatDoor
