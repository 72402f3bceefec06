import Derived.Test.YthlhbocobgkdmaaGreatZBv3
set_option linter.all false
namespace Go.Proofs.YthlhbocobgkdmaaGreatZ
open Go.AE
theorem H4 {t:Nat→Out}{k:List D→Nat→Out}{ds:List D}{P:Bool×List D→Prop}(h:U t fun r=>r=(true,ds))(hk:U (k ds) P):U (fun n=>AE.H3 (t n) fun ds=>k ds n) P:=
 U.H3 h fun _ _ e=>by cases e;exact⟨rfl,hk⟩
theorem fJ {t:Nat→Out}{k:List D→Nat→Out}{ds:List D}{P:Bool×List D→Prop}(h:U t fun r=>r=(false,ds))(hk:U (k ds) P):U (fun n=>AE.J2 (t n) fun ds=>k ds n) P:=
 U.J2 h (fun _ e=>by cases e) fun _ e=>by cases e;exact hk
def iD (x:Nat):D:= .int .i64 (x:Int)
end Go.Proofs.YthlhbocobgkdmaaGreatZ
