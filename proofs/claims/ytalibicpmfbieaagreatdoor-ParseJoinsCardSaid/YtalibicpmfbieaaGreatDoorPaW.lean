import Derived.Test.YtalibicpmfbieaaGreatDoorAe1
import Derived.Test.YtalibicpmfbieaaGreatDoorAe2
import Derived.Test.YtalibicpmfbieaaGreatDoorAe3
import Derived.Test.YtalibicpmfbieaaGreatDoorEng
set_option linter.all false
namespace Go.Proofs.YtalibicpmfbieaaGreatDoor
open Go.AE
set_option maxRecDepth 1000000
theorem XV (n:Nat):lM (n+400)=some (true,[.bool true]):=by kernel_rfl
theorem Pn:U (fun n=>lM n) fun r=>r=(true,[.bool true]):=
 ⟨_,rfl,400,fun n hn=>by
  obtain⟨m,rfl⟩:∃ m,n=m+400:=⟨n-400,by omega⟩
  exact XV m⟩
end Go.Proofs.YtalibicpmfbieaaGreatDoor
