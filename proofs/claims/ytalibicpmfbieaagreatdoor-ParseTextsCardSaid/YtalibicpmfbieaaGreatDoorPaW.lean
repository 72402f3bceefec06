import Derived.Test.YtalibicpmfbieaaGreatDoorAe1
import Derived.Test.YtalibicpmfbieaaGreatDoorAe2
import Derived.Test.YtalibicpmfbieaaGreatDoorAe3
import Derived.Test.YtalibicpmfbieaaGreatDoorEng
namespace Go.Proofs.YtalibicpmfbieaaGreatDoor
open Go.AE
set_option linter.unusedVariables false
set_option linter.unusedSimpArgs false
set_option maxRecDepth 1000000
theorem UM (n:Nat):iR (n+400)=some (true,[.bool true]):=by kernel_rfl
theorem Lm:U (fun n=>iR n) fun r=>r=(true,[.bool true]):=
 ⟨_,rfl,400,fun n hn=>by
  obtain⟨m,rfl⟩:∃ m,n=m+400:=⟨n-400,by omega⟩
  exact UM m⟩
end Go.Proofs.YtalibicpmfbieaaGreatDoor
