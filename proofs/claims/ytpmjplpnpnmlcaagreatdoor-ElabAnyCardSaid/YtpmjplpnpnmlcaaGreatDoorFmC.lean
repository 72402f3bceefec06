import Derived.Test.YtpmjplpnpnmlcaaGreatDoorRows
import Derived.Test.YtpmjplpnpnmlcaaGreatDoorTie
import Derived.Test.YtpmjplpnpnmlcaaGreatDoorFmA
import Derived.Test.YtpmjplpnpnmlcaaGreatDoorFmB
import Derived.Test.YtpmjplpnpnmlcaaGreatDoorEng
import Derived.HandedShaped
import Derived.LaidLaws
import Derived.Stop.LaidErr
import Derived.Handed
import Derived.LaidHandle
import Derived.KernelRfl
set_option linter.all false
namespace Go.Proofs.YtpmjplpnpnmlcaaGreatDoor
open Go.AE
namespace Claim
theorem Q2 {a b:Bool}(h:a=true)(k:b=true):(a&&b)=true:=by rw [h,k];rfl
set_option maxRecDepth 100000 in
theorem Io:joinedFacts Tryz.pinned.checked.prog 5 Tryz.f5 Rows.elabAnySpec Rows.elabAnyRow=true:=Q2 (Q2 (Q2 (Q2 (Q2 (Q2 (Q2 (Q2 (Q2 (Q2 (Q2 (Q2 (Q2 (Q2 (Q2 (Q2 (Q2 (Q2 (Q2 (Q2 (Q2 (Q2 (Q2 (Q2 (Q2 (Q2 (Q2 (Q2 (Q2 (Q2 (Q2 k0 k1) k2) k3) k4) k5) k6) k7) k8) k9) Fq) Ur) Wc) Wd) We) Wf) aA8) aA9) aB0) aB1) aB2) aB3) aB4) aB5) aB6) aB7) aB8) aB9) aC0) aC1) aC2) aC3
end Claim
end Go.Proofs.YtpmjplpnpnmlcaaGreatDoor
