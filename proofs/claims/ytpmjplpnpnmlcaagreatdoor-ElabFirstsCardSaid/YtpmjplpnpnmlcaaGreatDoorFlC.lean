import Derived.Test.YtpmjplpnpnmlcaaGreatDoorRows
import Derived.Test.YtpmjplpnpnmlcaaGreatDoorTie
import Derived.Test.YtpmjplpnpnmlcaaGreatDoorFlA
import Derived.Test.YtpmjplpnpnmlcaaGreatDoorFlB
import Derived.Test.YtpmjplpnpnmlcaaGreatDoorEng
import Derived.HandedShaped
import Derived.LaidLaws
import Derived.Stop.LaidErr
import Derived.Handed
import Derived.LaidHandle
import Derived.KernelRfl
set_option linter.all false
namespace Go.Proofs.YtpmjplpnpnmlcaaGreatDoor
open Go.AE
namespace Claim
theorem and_t {a b : Bool} (h : a = true) (k : b = true) : (a && b) = true := by rw [h, k]; rfl
set_option maxRecDepth 100000 in
theorem joined : joinedFacts Tryz.pinned.checked.prog 6 Tryz.f6 Rows.elabFirstsSpec Rows.elabFirstsRow = true := and_t (and_t (and_t (and_t (and_t (and_t (and_t (and_t (and_t (and_t (and_t (and_t (and_t (and_t (and_t (and_t (and_t (and_t (and_t (and_t (and_t (and_t (and_t (and_t (and_t (and_t (and_t (and_t (and_t (and_t (and_t k0 k1) k2) k3) k4) k5) k6) k7) k8) k9) k10) k11) k12) k13) k14) k15) k16) k17) k18) k19) k20) k21) k22) k23) k24) k25) k26) k27) k28) k29) k30) k31
end Claim
end Go.Proofs.YtpmjplpnpnmlcaaGreatDoor
