/- The fixed fact of layer 10 (a minute in the kernel). -/
import Derived.Test.YtalibicpmfbieaaGreatDoorAe1
import Derived.Test.YtalibicpmfbieaaGreatDoorAe2
import Derived.Test.YtalibicpmfbieaaGreatDoorEng
namespace Go.Proofs.YtalibicpmfbieaaGreatDoor
open Go.AE
set_option linter.unusedVariables false
set_option linter.unusedSimpArgs false
set_option maxRecDepth 1000000
theorem awake10_run (n : Nat) : law10_awake (n + 400) = some (true, [.bool true]) := by kernel_rfl
theorem awake10 : Ev (fun n => law10_awake n) fun r => r = (true, [.bool true]) :=
  ⟨_, rfl, 400, fun n hn => by
    obtain ⟨m, rfl⟩ : ∃ m, n = m + 400 := ⟨n - 400, by omega⟩
    exact awake10_run m⟩
end Go.Proofs.YtalibicpmfbieaaGreatDoor
