import Derived.Test.YtpmjplpnpnmlcaaGreatDoorQt
import Derived.Test.YtpmjplpnpnmlcaaGreatDoorIfF
import Derived.Test.YtpmjplpnpnmlcaaGreatDoorEng
import Derived.KernelRfl
set_option linter.all false
namespace Go.Proofs.YtpmjplpnpnmlcaaGreatDoor
open Go.AE
set_option maxRecDepth 100000
open Go.AE.Q Go.AE.Dc
def Ok:fX:= .mk 1 (.mk [3,0] [.k (.l 19 19 [.m 0 1 (.c 0)]),.k (.l 2 15 []),.k .s] [] [.ge (.m 9 (-1) (.c 68719476736)),.ge (.m 17 (-1) (.c 68719476736)),.ge (.m 28 (-1) (.c 2147483648))]) (.mk [20] [.k .s,.k (.i .i64),.k (.i .i64),.k .s,.k (.i .i64),.k .b,.k (.i .i64),.k (.l 4 0 []),.k (.i .i64),.k .b,.k (.i .i64),.k (.i .i64),.k (.i .i64),.k (.i .i64),.k (.i .i64),.k .b,.k (.i .i64),.k (.l 1 0 []),.k (.l 9 0 [])] [.mk 4 19 [.m 0 1 (.c 0)]] []) [] true 209 (.c 0)
noncomputable def OH (f:Nat):fX:=H9 (Nat.beq f 263) Ok (W9 f)
theorem Ui:EI HH OH Ie Ih Lb 263 0x80210800008020014400842000020080050000000c40000031000000c4000000000000000000000000000000000000000000000000000000031000000c400000000000000000000000001017800002008000088200000200400=true:=by kernel_rfl
def Oj:fX:= .mk 1 (.mk [3,0] [.k (.l 19 19 [.m 0 1 (.c 0)]),.k (.l 2 15 []),.k (.i .i64)] [] [.ge (.m 9 (-1) (.c 68719476736)),.ge (.m 17 (-1) (.c 68719476736)),.ge (.m 9 (-1) (.c 2000000000)),.ge (.m 24 (-1) (.c 2)),.ge (.m 24 1 (.c (-2)))]) (.mk [3] [.k (.l 19 19 [.m 0 1 (.c 0)]),.k (.l 2 15 [])] [] [.ge (.m 33 (-1) (.c 68719476736)),.ge (.m 41 (-1) (.c 68719476736)),.ge (.m 9 1 (.m 33 (-1) (.c 0))),.ge (.m 9 1 (.m 41 (-1) (.c 0)))]) [] true 260 (.c 0)
noncomputable def OG (f:Nat):fX:=H9 (Nat.beq f 214) Oj (W9 f)
theorem Uh:EI HH OG Ie Ih Dq 214 0x4a1104030000128442000010840000461000000000009c23080600000000021080000080100001104000004008000088200000200400=true:=by kernel_rfl
end Go.Proofs.YtpmjplpnpnmlcaaGreatDoor
