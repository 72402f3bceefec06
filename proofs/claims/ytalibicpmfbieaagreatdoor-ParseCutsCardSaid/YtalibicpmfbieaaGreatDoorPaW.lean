import Derived.Test.YtalibicpmfbieaaGreatDoorAe1
import Derived.Test.YtalibicpmfbieaaGreatDoorAe2
import Derived.Test.YtalibicpmfbieaaGreatDoorAe3
import Derived.Test.YtalibicpmfbieaaGreatDoorEng
set_option linter.all false
namespace Go.Proofs.YtalibicpmfbieaaGreatDoor
open Go.AE
set_option maxRecDepth 1000000
def ZR (n:Nat):nD (n+400)=some (true,[.bool true]):=by kernel_rfl
def Ut:U (fun n=>nD n) fun r=>r=(true,[.bool true]):=⟨_,rfl,400,fun n a=>by obtain⟨m,rfl⟩:∃ m,n=m+400:=⟨n-400,by omega⟩;exact ZR m⟩
end Go.Proofs.YtalibicpmfbieaaGreatDoor
