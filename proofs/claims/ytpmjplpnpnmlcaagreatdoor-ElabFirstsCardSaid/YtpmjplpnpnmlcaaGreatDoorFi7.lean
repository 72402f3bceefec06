import Derived.Test.YtpmjplpnpnmlcaaGreatDoorM3
set_option linter.all false
namespace Go.Proofs.YtpmjplpnpnmlcaaGreatDoor
open Go.AE
set_option maxRecDepth 100000 in
theorem fip57 : Fi 57 false := fun L m => by kernel_rfl
set_option maxRecDepth 100000 in
theorem fin57 : Fi 57 true := fun L m => by kernel_rfl
set_option maxRecDepth 100000 in
theorem fip58 : Fi 58 false := fun L m => by kernel_rfl
set_option maxRecDepth 100000 in
theorem fin58 : Fi 58 true := fun L m => by kernel_rfl
set_option maxRecDepth 100000 in
theorem fip59 : Fi 59 false := fun L m => by kernel_rfl
set_option maxRecDepth 100000 in
theorem fin59 : Fi 59 true := fun L m => by kernel_rfl
set_option maxRecDepth 100000 in
theorem fip60 : Fi 60 false := fun L m => by kernel_rfl
set_option maxRecDepth 100000 in
theorem fin60 : Fi 60 true := fun L m => by kernel_rfl
set_option maxRecDepth 100000 in
theorem fip61 : Fi 61 false := fun L m => by kernel_rfl
set_option maxRecDepth 100000 in
theorem fin61 : Fi 61 true := fun L m => by kernel_rfl
set_option maxRecDepth 100000 in
theorem fip62 : Fi 62 false := fun L m => by kernel_rfl
set_option maxRecDepth 100000 in
theorem fin62 : Fi 62 true := fun L m => by kernel_rfl
set_option maxRecDepth 100000 in
theorem fip63 : Fi 63 false := fun L m => by kernel_rfl
set_option maxRecDepth 100000 in
theorem fin63 : Fi 63 true := fun L m => by kernel_rfl
set_option maxRecDepth 100000 in
theorem fip64 : Fi 64 false := fun L m => by kernel_rfl
set_option maxRecDepth 100000 in
theorem fin64 : Fi 64 true := fun L m => by kernel_rfl
end Go.Proofs.YtpmjplpnpnmlcaaGreatDoor
