import Derived.Test.YthlhbocobgkdmaaGreatAe1
import Derived.Test.YthlhbocobgkdmaaGreatAe2
import Derived.Test.YthlhbocobgkdmaaGreatEng
set_option linter.all false
namespace Go.Proofs.YthlhbocobgkdmaaGreat
open Go.AE
set_option maxRecDepth 1000000
theorem WK (n:Nat):jQ (n+24)=some (true,[.bool true]):=by kernel_rfl
end Go.Proofs.YthlhbocobgkdmaaGreat
