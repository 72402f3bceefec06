import Derived.Test.YthlhbocobgkdmaaGreatEng
import Derived.Test.YthlhbocobgkdmaaGreatProg
import Derived.KernelRfl
set_option linter.all false
namespace Go.Proofs.YthlhbocobgkdmaaGreatZ
open Go.AE
set_option maxRecDepth 100000
noncomputable section
instance:Coe Int D:=⟨.int .i64⟩
instance:Coe F9 D:=⟨.str⟩
instance:Coe Bool D:=⟨.bool⟩
abbrev dI:SV:= .d (.leaf (.int .i64))
abbrev dS:SV:= .d (.leaf .str)
abbrev dB:SV:= .d (.leaf .bool)
abbrev dL (n:Nat):SV:= .d (.leaf (.Z n))
abbrev dV:CO:= .var [dL 5,dI,dI,dI,dI,dI,dI,dI]
abbrev F8 (f:D→D→D→D→D→D→D→D→Out)(r:List D)(k:Nat):Out:=f (.Z 5 (Y r k).l) (.int .i64 (Y r (k+1)).i) (.int .i64 (Y r (k+2)).i) (.int .i64 (Y r (k+3)).i) (.int .i64 (Y r (k+4)).i) (.int .i64 (Y r (k+5)).i) (.int .i64 (Y r (k+6)).i) (.int .i64 (Y r (k+7)).i)
def TL:List (Nat×List D):=[]
def Bq:List (Nat×Nat×Nat):=[(102,0,2),(139,0,1)]
def TA:List (Nat×Nat×Nat):=[(101,0,2),(104,0,2),(109,0,2),(139,0,2),(146,0,2)]
def TS:List (Nat×Nat×List Nat):=[(50,0,[2,4,15,16,17]),
 (54,0,[1,3,9,10])]
def An:List (Nat×Nat×List Nat):=[]
def uD:List (Nat×(List D→Option (Bool×List D))):=[]
def EK:List (Nat×(Sk→List D→Option (List D))):=[]
def C:oA:={ P:=Tryz.prog,own:=Mv Bq,dres:=Mv TA,keep:=Mx TS,cut:=Mx An,CK:=NF EK,ext:=LS uD,FD:=fun _=>True,glob:=Tr TL }
def I0:Ty:= .agg [.int .i64,.Z 1]
def Q2.sk:Sk:=⟨[(0,.d I0)],[]⟩
def Q2.H9:Sk:=⟨[(0,.row 0)],[.row 4 1 0]⟩
def Q2 (n:Nat)(x0:D):Out:=run C n (.call 54 Q2.sk [x0])
def gV.sk:Sk:=⟨[(0,dL 1)],[]⟩
def gV.H9:Sk:=⟨[(0,.d I0),(1,dI)],[]⟩
def gV (n:Nat)(x0:D):Out:=run C n (.call 50 gV.sk [x0])
def dP.sk:Sk:=⟨[(0,dI)],[]⟩
def dP.H9:Sk:=⟨[(0,dB)],[]⟩
def dP (n:Nat)(x0:D):Out:=run C n (.call 100 dP.sk [x0])
def L0.sk:Sk:=⟨[(0,dI)],[]⟩
def L0.H9:Sk:=⟨[(0,.agg [dI,.row 0])],[.row 128 1 0]⟩
def L0 (n:Nat)(x0:D):Out:=run C n (.call 101 L0.sk [x0])
def L3.sk:Sk:=⟨[(0,.d I0),(1,dI)],[]⟩
def L3.H9:Sk:=⟨[(0,dB)],[]⟩
def L3 (n:Nat)(x0 x1:D):Out:=run C n (.call 32 L3.sk [x0,x1])
def fC.sk:Sk:=⟨[(0,dI)],[]⟩
def fC.H9:Sk:=⟨[(0,dI)],[]⟩
def fC (n:Nat)(x0:D):Out:=run C n (.call 138 fC.sk [x0])
def K5.sk:Sk:=⟨[(0,.agg [dI,.row 0]),(1,dI),(2,dB)],[.row 128 1 1]⟩
def K5.H9:Sk:=⟨[],[.row 128 1 1]⟩
def K5 (n:Nat)(x0 x1 x2 x3:D):Out:=run C n (.call 102 K5.sk [x0,x1,x2,x3])
def N5.sk:Sk:=⟨[(1,.ptr 0 0),(3,.row 1),(9,dI),(10,dI)],[.var [dI,dL 1],.row 4 1 0]⟩
def N5.body:Code:=N9 C 54 0
def N5 (n:Nat)(x0 x1 x2 x3 x4:D):Out:=run C n (.loop 54 Q2.H9 [] [] false 0 N5.body N5.sk [x0,x1,x2,x3,x4])
def bC.sk:Sk:=⟨[(2,.ptr 0 0),(4,.ptr 1 0),(15,dL 1),(16,dI),(17,dI)],[.var [dI,.row 2],.var [dI,.row 3],.row 128 1 0,.row 128 1 0]⟩
def bC.body:Code:=N9 C 50 0
def bC (n:Nat)(x0 x1 x2 x3 x4 x5 x6:D):Out:=run C n (.loop 50 gV.H9 [] [] false 0 bC.body bC.sk [x0,x1,x2,x3,x4,x5,x6])
end
end Go.Proofs.YthlhbocobgkdmaaGreatZ
