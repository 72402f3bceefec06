import Derived.Test.YtpmjplpnpnmlcaaGreatDoorM3
set_option linter.all false
namespace Go.Proofs.YtpmjplpnpnmlcaaGreatDoor
open Go.AE
set_option maxRecDepth 100000 in
theorem fip65 : Fi 65 false := fun L m => by kernel_rfl
set_option maxRecDepth 100000 in
theorem fin65 : Fi 65 true := fun L m => by kernel_rfl
set_option maxRecDepth 100000 in
theorem fip66 : Fi 66 false := fun L m => by kernel_rfl
set_option maxRecDepth 100000 in
theorem fin66 : Fi 66 true := fun L m => by kernel_rfl
set_option maxRecDepth 100000 in
theorem fip67 : Fi 67 false := fun L m => by kernel_rfl
set_option maxRecDepth 100000 in
theorem fin67 : Fi 67 true := fun L m => by kernel_rfl
set_option maxRecDepth 100000 in
theorem fip68 : Fi 68 false := fun L m => by kernel_rfl
set_option maxRecDepth 100000 in
theorem fin68 : Fi 68 true := fun L m => by kernel_rfl
set_option maxRecDepth 100000 in
theorem fip69 : Fi 69 false := fun L m => by kernel_rfl
set_option maxRecDepth 100000 in
theorem fin69 : Fi 69 true := fun L m => by kernel_rfl
set_option maxRecDepth 100000 in
theorem fip70 : Fi 70 false := fun L m => by kernel_rfl
set_option maxRecDepth 100000 in
theorem fin70 : Fi 70 true := fun L m => by kernel_rfl
set_option maxRecDepth 100000 in
theorem fip71 : Fi 71 false := fun L m => by kernel_rfl
set_option maxRecDepth 100000 in
theorem fin71 : Fi 71 true := fun L m => by kernel_rfl
set_option maxRecDepth 100000 in
theorem fip72 : Fi 72 false := fun L m => by kernel_rfl
set_option maxRecDepth 100000 in
theorem fin72 : Fi 72 true := fun L m => by kernel_rfl
end Go.Proofs.YtpmjplpnpnmlcaaGreatDoor
