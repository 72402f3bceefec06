/- The fixed fact of layer 12. -/
import Derived.Test.YthlhbocobgkdmaaGreatAe1
import Derived.Test.YthlhbocobgkdmaaGreatEng
namespace Go.Proofs.YthlhbocobgkdmaaGreat
open Go.AE
set_option linter.unusedVariables false
set_option linter.unusedSimpArgs false
set_option maxRecDepth 1000000
theorem awake12_run (n : Nat) : law12_awake (n + 24) = some (true, [.bool true]) := by kernel_rfl
end Go.Proofs.YthlhbocobgkdmaaGreat
