import Derived.Test.YtpmjplpnpnmlcaaGreatDoorM3
set_option linter.all false
namespace Go.Proofs.YtpmjplpnpnmlcaaGreatDoor
open Go.AE
set_option maxRecDepth 100000 in
theorem fip41 : Fi 41 false := fun L m => by kernel_rfl
set_option maxRecDepth 100000 in
theorem fin41 : Fi 41 true := fun L m => by kernel_rfl
set_option maxRecDepth 100000 in
theorem fip42 : Fi 42 false := fun L m => by kernel_rfl
set_option maxRecDepth 100000 in
theorem fin42 : Fi 42 true := fun L m => by kernel_rfl
set_option maxRecDepth 100000 in
theorem fip43 : Fi 43 false := fun L m => by kernel_rfl
set_option maxRecDepth 100000 in
theorem fin43 : Fi 43 true := fun L m => by kernel_rfl
set_option maxRecDepth 100000 in
theorem fip44 : Fi 44 false := fun L m => by kernel_rfl
set_option maxRecDepth 100000 in
theorem fin44 : Fi 44 true := fun L m => by kernel_rfl
set_option maxRecDepth 100000 in
theorem fip45 : Fi 45 false := fun L m => by kernel_rfl
set_option maxRecDepth 100000 in
theorem fin45 : Fi 45 true := fun L m => by kernel_rfl
set_option maxRecDepth 100000 in
theorem fip46 : Fi 46 false := fun L m => by kernel_rfl
set_option maxRecDepth 100000 in
theorem fin46 : Fi 46 true := fun L m => by kernel_rfl
set_option maxRecDepth 100000 in
theorem fip47 : Fi 47 false := fun L m => by kernel_rfl
set_option maxRecDepth 100000 in
theorem fin47 : Fi 47 true := fun L m => by kernel_rfl
set_option maxRecDepth 100000 in
theorem fip48 : Fi 48 false := fun L m => by kernel_rfl
set_option maxRecDepth 100000 in
theorem fin48 : Fi 48 true := fun L m => by kernel_rfl
end Go.Proofs.YtpmjplpnpnmlcaaGreatDoor
