import Derived.Test.YthlhbocobgkdmaaGreatZLitA
set_option linter.all false
namespace Go.Proofs.YthlhbocobgkdmaaGreatZ
open Go.AE
inductive JR
 |bad (e:Nat)
 |ok (w n:Nat) (sg sz:Bool)
def JR.own:JR→List D
 | .bad e=>[.agg [.int .i64 0,.Z 1 [],.bool false,.bool false],iD e]
 | .ok w n sg sz=>[.agg [.int .i64 (w:Int),.Z 1 (I9 w n),.bool sg,.bool sz],iD 0]
inductive Nv
 |bad (e:Nat)
 |ok (t:F9) (b:Nat) (sg:Bool)
def Nv.own:Nv→List D
 | .bad e=>[.str [],.int .i64 0,.bool false,iD e]
 | .ok t b sg=>[.str t,iD b,.bool sg,iD 0]
end Go.Proofs.YthlhbocobgkdmaaGreatZ
