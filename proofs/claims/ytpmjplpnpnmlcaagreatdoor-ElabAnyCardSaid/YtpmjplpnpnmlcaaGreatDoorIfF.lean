import Derived.Test.YtpmjplpnpnmlcaaGreatDoorIf1
import Derived.Test.YtpmjplpnpnmlcaaGreatDoorIf2
import Derived.Test.YtpmjplpnpnmlcaaGreatDoorIf3
import Derived.Test.YtpmjplpnpnmlcaaGreatDoorIf4
import Derived.Test.YtpmjplpnpnmlcaaGreatDoorIf5
import Derived.Test.YtpmjplpnpnmlcaaGreatDoorIf6
import Derived.Test.YtpmjplpnpnmlcaaGreatDoorIf7
import Derived.Test.YtpmjplpnpnmlcaaGreatDoorIf8
import Derived.Test.YtpmjplpnpnmlcaaGreatDoorIf9
import Derived.Test.YtpmjplpnpnmlcaaGreatDoorIf10
import Derived.KernelRfl
set_option linter.all false
set_option maxRecDepth 100000
namespace Go.Proofs.YtpmjplpnpnmlcaaGreatDoor
open Go.AE Go.AE.Q Go.AE.Dc
theorem Sf:SU C sg 285 (.o fun xs=>(aQ) ⟨sl [dS,dS],[]⟩ xs):=EE (show sg 285=cS 272 (sl [dS,dS]) [] (sl [dB]) [] by kernel_rfl) fun _=>rfl
theorem Sh:SU C sg 290 (.o fun xs=>(sU) ⟨sl [dS,dS],[]⟩ xs):=EE (show sg 290=cS 266 (sl [dS,dS]) [] (sl [dS,dS,dB]) [] by kernel_rfl) fun _=>rfl
theorem Si:SU C sg 307 (.o fun xs=>(mF) ⟨sl [dI],[]⟩ xs):=EE (show sg 307=cS 107 (sl [dI]) [] (sl [dS]) [] by kernel_rfl) fun _=>rfl
theorem Sp:SU C sg 383 (.o fun xs=>(eN 298 9) ⟨sl [.row 0,dI,dI],[.row 298 9 2]⟩ xs):=EE (show sg 383=cS 332 (sl [.row 0,dI,dI]) [.row 298 9 2] (sl [dL 9]) [] by kernel_rfl) fun _=>rfl
noncomputable def Vh:Td:=[(285,some (fun xs=>(aQ) ⟨sl [dS,dS],[]⟩ xs)),(290,some (fun xs=>(sU) ⟨sl [dS,dS],[]⟩ xs)),(307,some (fun xs=>(mF) ⟨sl [dI],[]⟩ xs)),(383,some (fun xs=>(eN 298 9) ⟨sl [.row 0,dI,dI],[.row 298 9 2]⟩ xs))]
noncomputable def bd (f:Nat):Bd:=Vk 490 pg f Vh
theorem UW (f:Nat)(h:f<490)(hn:∀ p∈Vh,f≠p.1):jY C sg f (pg f):=by
 have hn:f≠285∧f≠290∧f≠307∧f≠383∧True:=⟨hn _ (B8 ..),hn _ (C0 _ (B8 ..)),hn _ (C0 _ (C0 _ (B8 ..))),hn _ (C0 _ (C0 _ (C0 _ (B8 ..)))),trivial⟩
 by_cases h0:f<60∧0≤f
 ·exact N7 ZI h0.2 h0.1
 by_cases h60:f<120∧60≤f
 ·exact N7 Sr h60.2 h60.1
 by_cases h120:f<180∧120≤f
 ·exact N7 XP h120.2 h120.1
 by_cases h180:f<240∧180≤f
 ·exact N7 Gc h180.2 h180.1
 by_cases h240:f<285∧240≤f
 ·exact N7 XQ h240.2 h240.1
 by_cases h286:f<290∧286≤f
 ·exact N7 Sq h286.2 h286.1
 by_cases h291:f<307∧291≤f
 ·exact N7 Gd h291.2 h291.1
 by_cases h308:f<368∧308≤f
 ·exact N7 PY h308.2 h308.1
 by_cases h368:f<383∧368≤f
 ·exact N7 JW h368.2 h368.1
 by_cases h384:f<444∧384≤f
 ·exact N7 XR h384.2 h384.1
 by_cases h444:f<490∧444≤f
 ·exact N7 Ge h444.2 h444.1
 omega
theorem Oc:∀ f,SU C sg f (bd f):=fun f=>TX (fun p hp=>by
  simp only [Vh,B7,List.not_mem_nil,or_false] at hp
  rcases hp with rfl|rfl|rfl|rfl
  ·exact Sf
  ·exact Sh
  ·exact Si
  ·exact Sp) (UW f)
def p2:T:= .i (Px (.l 0) (Zq 300)) (.g (.q (.q tt tt) (bV (Zq 300) (.l 0))) (.l (.dt 1 0 (Zq 0) (Zq 300)) (rt [1]))) (rt [0])
theorem Lj:pg 2=p2:=by kernel_rfl
theorem q2:jY C sg 2 p2:=Lj▸N7 ZI (by omega) (by omega)
def Zm:T:= .i (.em 0) (.ag (rt [.e (.k (.Z 1 []))]) (.g (.rm (.k (dm 0)) 0) (.l (.ap 1 (.k (.Z 1 [])) 0) (rt [1])))) (.g (.rm (.k (dm 0)) 0) (.l (.ap 1 (.k (.Z 1 [])) 0) (rt [1])))
theorem Wz:pg 59=Zm:=by kernel_rfl
theorem aD8:jY C sg 59 Zm:=Wz▸N7 ZI (by omega) (by omega)
def Qk:T:= .i (.em 0) (.ag (rt [.e (.k (.Z 19 []))]) (.g (.rm (.k (dm 0)) 0) (.l (.ap 19 (.k (.Z 19 [])) 0) (rt [1])))) (.g (.rm (.k (dm 0)) 0) (.l (.ap 19 (.k (.Z 19 [])) 0) (rt [1])))
theorem Rg:pg 137=Qk:=by kernel_rfl
theorem Sa:jY C sg 137 Qk:=Rg▸N7 XP (by omega) (by omega)
def Ql:T:= .i (.em 0) (.ag (rt [.e (.k (.Z 2 []))]) (.g (.rm (.k (dm 0)) 0) (.l (.ap 2 (.k (.Z 2 [])) 0) (rt [1])))) (.g (.rm (.k (dm 0)) 0) (.l (.ap 2 (.k (.Z 2 [])) 0) (rt [1])))
theorem Rh:pg 139=Ql:=by kernel_rfl
theorem Xb:jY C sg 139 Ql:=Rh▸N7 XP (by omega) (by omega)
def Qt:T:= .i (.em 0) (.ag (rt [.e (.k (.Z 9 []))]) (.g (.rm (.k (dm 0)) 0) (.l (.ap 9 (.k (.Z 9 [])) 0) (rt [1])))) (.g (.rm (.k (dm 0)) 0) (.l (.ap 9 (.k (.Z 9 [])) 0) (rt [1])))
theorem Rt:pg 376=Qt:=by kernel_rfl
theorem Xe:jY C sg 376 Qt:=Rt▸N7 JW (by omega) (by omega)
def Qu:T:= .i (.em 0) (.ag (rt [.e (.k (.Z 9 []))]) (.g (.rm (.k (dm 0)) 0) (.l (.ap 9 (.k (.Z 9 [])) 0) (rt [1])))) (.g (.rm (.k (dm 0)) 0) (.l (.ap 9 (.k (.Z 9 [])) 0) (rt [1])))
theorem Rv:pg 382=Qu:=by kernel_rfl
theorem Xf:jY C sg 382 Qu:=Rv▸N7 JW (by omega) (by omega)
def Lb:T:=cn 299 [.e (.a 0 0),1] (.i (bW 2 (Zq 0)) (rt [.e (.k (.agg [.str [],.int .i64 0,.int .i64 0,.str [],.int .i64 0,.bool false,.int .i64 0,.Z 4 [],.int .i64 0,.bool false,.int .i64 0,.int .i64 0,.int .i64 0,.int .i64 0,.int .i64 0,.bool false,.int .i64 0,.Z 1 [],.Z 9 []]))]) (.g (.q (bV (Zq 0) 2) (bW 2 (.l (.a 0 0)))) (.t J9 (.g (.a 0 0) 2) (rt [4]))))
theorem Rj:pg 263=Lb:=by kernel_rfl
theorem Sc:jY C sg 263 Lb:=Rj▸N7 XQ (by omega) (by omega)
def Qv:T:=rt [.e (Sz (.a 0 0) 1),1]
theorem Rw:pg 404=Qv:=by kernel_rfl
theorem Xg:jY C sg 404 Qv:=Rw▸N7 XR (by omega) (by omega)
def Qq:T:= .i (bW 2 1) (.g (.q (bV (Zq 0) 2) (bW 2 (.l 0))) (.t J9 (.g 0 2) (cn 404 [4,3] (.i 5 (rt [2,6]) (.l (dF 2 (Zq 1)) (.tl 350 [.r 0 2,7,6])))))) (.ret false [.r 0 4])
theorem Rp:pg 350=Qq:=by kernel_rfl
theorem Sm:jY C sg 350 Qq:=Rp▸N7 PY (by omega) (by omega)
def Qn:T:= .o 350 [0,.e (.l 0),.e (Zq 0),1] (rt [.e (Zq (-1)),5])
theorem Rm:pg 299=Qn:=by kernel_rfl
theorem Xc:jY C sg 299 Qn:=Rm▸N7 Gd (by omega) (by omega)
def Qx:T:= .i (Pw (.sl 0) (.sl 1)) (.g (.q (.q tt (bV (Zq 0) (.sl 1))) (bV (.sl 1) (.sl 0))) (.l (.ds 0 (Zq 0) (.sl 1)) (rt [.e (Sz 2 1)]))) (rt [.e ff])
theorem Ry:pg 444=Qx:=by kernel_rfl
theorem Xi:jY C sg 444 Qx:=Ry▸N7 Ge (by omega) (by omega)
def Qw:T:=cn 444 [.r 0 2] (rt [2])
theorem Rx:pg 409=Qw:=by kernel_rfl
theorem Xh:jY C sg 409 Qw:=Rx▸N7 XR (by omega) (by omega)
def Qs:T:=rt [.e (IQ (.a 0 1) 1),1]
theorem Rr:pg 371=Qs:=by kernel_rfl
theorem Xd:jY C sg 371 Qs:=Rr▸N7 JW (by omega) (by omega)
def Qr:T:= .i (bW 1 0) (.g (.q (bV (Zq 0) 1) (bW 1 (.l 2))) (.t J9 (.g 2 1) (cn 371 [4,3] (.i 5 (rt [.r 1 2,6]) (.l (dF 1 (Zq 1)) (.tl 370 [0,7,2,6])))))) (.ret false [.r 0 4])
theorem Rq:pg 370=Qr:=by kernel_rfl
theorem Sn:jY C sg 370 Qr:=Rq▸N7 JW (by omega) (by omega)
def Qp:T:= .i (bW 1 (.l 3)) (.g (.q (bV (Zq 0) 1) (bW 1 (.l 3))) (.t J9 (.g 3 1) (cn 371 [4,2] (.i (.n 5) (.g (.q (bV (Zq 0) 0) (bW 0 (.l 3))) (.l (.st 19 3 0 4) (.l (dF 0 (Zq 1)) (.l (dF 1 (Zq 1)) (.tl 309 [.r 8 2,.r 6 2]))))) (.l (dF 1 (Zq 1)) (.tl 309 [0,7,6,3])))))) (.ret false [.r 0 4])
theorem Ro:pg 309=Qp:=by kernel_rfl
theorem Sl:jY C sg 309 Qp:=Ro▸N7 PY (by omega) (by omega)
def Qo:T:= .o 370 [.e (.l 0),.e (Zq 0),.r 0 2] (rt [.e (Zq (-1)),.r 4 2])
theorem Rn:pg 308=Qo:=by kernel_rfl
theorem Sj:jY C sg 308 Qo:=Rn▸N7 PY (by omega) (by omega)
def Qm:T:=cn 308 [1,0] (.i (IQ 2 (Zq (-1))) (rt [4,3]) (.l (dF 2 (Zq 1)) (.o 309 [2,5,4,3] (.g (.q (.q (bV (Zq 0) 6) (bV 6 (.l 9))) (bV (.l 9) (.l 9))) (.g (.nz (.na 6 (.ns (.l 9) 6)) 9) (.l (.cl 19 9 6 (.ns (.l 9) 6) (.k (.agg [.str [],.int .i64 0,.int .i64 0,.str [],.int .i64 0,.bool false,.int .i64 0,.Z 4 [],.int .i64 0,.bool false,.int .i64 0,.int .i64 0,.int .i64 0,.int .i64 0,.int .i64 0,.bool false,.int .i64 0,.Z 1 [],.Z 9 []]))) (.g (.q (bV (Zq 0) 6) (bV 6 (.l 10))) (.l (.tk 19 10 6) (rt [8,11])))))))))
theorem Rk:pg 270=Qm:=by kernel_rfl
theorem Se:jY C sg 270 Qm:=Rk▸N7 XQ (by omega) (by omega)
def Dq:T:=cn 137 [.e (.a 0 0)] (cn 270 [.r 1 2] (cn 145 [.e (Ac [4,.k (.Z 2 [])] e0)] (rt [.e (Ac [4,.a 5 0] e0)])))
theorem Ri:pg 214=Dq:=by kernel_rfl
theorem Sb:jY C sg 214 Dq:=Ri▸N7 Gc (by omega) (by omega)
def p0:T:=cn 1 [] (.i (.n 2) (rt [.e ff]) (cn 2 [0] (cn 3 [3] (cn 4 [4,.e (.k (.str [109,48]))] (.i (IQ 7 (Zq 0)) (cn 5 [5] (.i (CD 10 (Zq 0)) (rt [.e ff]) (.o 6 [1,4,.e ff,4,.e (.l 4),.e (Zq 0)] (cn 4 [12,11] (.i 13 (rt [.e tt]) (.i (IQ 19 (Zq 9)) (rt [.e (.w .eql 18 (.k (.agg [.int .i64 0,.int .i64 0,.int .i64 0])))]) (rt [.e ff]))))))) (.i (CD (.l (.a 5 0)) (Zq 0)) (rt [.e ff]) (.i (CD (.l (.a 5 4)) (Zq 0)) (rt [.e ff]) (.o 6 [1,4,.e ff,4,.e (.l 4),.e (Zq 0)] (cn 4 [9,8] (.i 10 (rt [.e tt]) (.i (IQ 16 (Zq 9)) (rt [.e (.w .eql 15 (.k (.agg [.int .i64 0,.int .i64 0,.int .i64 0])))]) (rt [.e ff]))))))))))))
theorem aD2:pg 0=p0:=by kernel_rfl
theorem q0:jY C sg 0 p0:=aD2▸N7 ZI (by omega) (by omega)
def p4:T:=cn 10 [1,0,.e (Zq 0),.e (Zq 0),.e (Zq 0),.e (Zq 0),.e (Zq 0),.e (Zq 0),.e (.k (.Z 1 [])),.e (.k (.Z 1 [])),.e (.k (.Z 4 [])),.e (.k (.Z 3 [])),.e (.k (.Z 5 [])),.e (.k (.Z 1 [])),.e (.k (.Z 3 [])),.e (.k (.Z 1 []))] (.i (.n 3) (rt [.e (.k (.agg [.Z 4 [],.Z 3 [],.Z 1 [],.Z 1 [],.Z 5 [],.Z 1 [],.Z 3 []])),.e (.k (.agg [.int .i64 0,.int .i64 0,.int .i64 0])),.e (Zq 9)]) (cn 11 [2,.e (.k (.agg [.Z 2 []])),.e (.k (.Z 19 [])),.e (.k (.Z 2 [])),.e (.k (.str [])),.e ff,.r 4 9,.e (.k (.Z 1 [])),.e (.k (.Z 1 [])),.e (.k (.Z 1 [])),.r 13 6] (.o 12 [.e (.a 2 5),.e (.l (.a 2 5)),.e (Zq 0),.e (Zq 0),.e (Zq 0),.e (Zq 0),.r 23 7,.e (.a 2 0),.e (.a 2 1),.e (.a 2 2),.e (.a 2 3),.e (.a 2 4),.e (.a 2 5),.e (.a 2 6),.r 19 4,.e (.k (.Z 4 [])),.e (.k (.Z 3 [])),.e (.k (.Z 1 [])),.e (.k (.Z 1 [])),.e (.k (.Z 5 [])),.e (.k (.Z 1 [])),.e (.k (.Z 3 [])),.r 35 2,.r 30 2,.r 37 4,.r 32 3] (cn 13 [.r 60 3,82,.r 63 2,.r 47 7,.r 74 2,.r 80 2,.r 72 2,.r 76 4] (.i (CD 94 (Zq 0)) (rt [.e (.k (.agg [.Z 4 [],.Z 3 [],.Z 1 [],.Z 1 [],.Z 5 [],.Z 1 [],.Z 3 []])),.e (Ac [91,92,93] e0),94]) (cn 5 [.e (Ac [99,100,95,96,101,102,103] e0)] (.i (CD 107 (Zq 0)) (rt [.e (.k (.agg [.Z 4 [],.Z 3 [],.Z 1 [],.Z 1 [],.Z 5 [],.Z 1 [],.Z 3 []])),.r 106 2]) (rt [.e (Ac [99,100,95,96,101,102,103] e0),.e (.k (.agg [.int .i64 0,.int .i64 0,.int .i64 0])),.e (Zq 0)]))))))))
theorem aD3:pg 4=p4:=by kernel_rfl
theorem q4:jY C sg 4 p4:=aD3▸N7 ZI (by omega) (by omega)
def p6:T:= .i (bW 5 4) (.g (.q (bV (Zq 0) 5) (bW 5 (.l 3))) (.t Q1 (.g 3 5) (.i 2 (.l (dF 5 (Zq 1)) (.tl 6 [.r 0 2,.e tt,.r 3 2,7])) (.l (dF 5 (Zq 1)) (.tl 6 [.r 0 2,.e (Sz (.a 6 0) 0),.r 3 2,7]))))) (.ret false [.r 0 6])
theorem aD4:pg 6=p6:=by kernel_rfl
theorem q6:jY C sg 6 p6:=aD4▸N7 ZI (by omega) (by omega)
def Zj:T:=cn 27 [1,0] (.i (bW 16 (Zq 0)) (rt [.e (.k (.agg [.str [],.int .i64 0,.int .i64 0,.int .i64 0,.Z 14 [],.Z 14 [],.Z 14 []])),.e ff,.r 1 15]) (.g (.q (bV (Zq 0) 16) (bW 16 (.l 1))) (.t Q1 (.g 1 16) (rt [18,.e tt,.r 1 15]))))
theorem Wv:pg 10=Zj:=by kernel_rfl
theorem aD5:jY C sg 10 Zj:=Wv▸N7 ZI (by omega) (by omega)
def Zk:T:= .o 53 [0,.e (.l 0),.e (Zq 0),1] (rt [.e (Zq (-1)),5])
theorem Wx:pg 27=Zk:=by kernel_rfl
theorem aD7:jY C sg 27 Zk:=Wx▸N7 ZI (by omega) (by omega)
def Zn:T:=rt [.e (Sz (.a 0 0) 1),1]
theorem Xa:pg 89=Zn:=by kernel_rfl
theorem aD9:jY C sg 89 Zn:=Xa▸N7 Sr (by omega) (by omega)
def Zl:T:= .i (bW 2 1) (.g (.q (bV (Zq 0) 2) (bW 2 (.l 0))) (.t Q1 (.g 0 2) (cn 89 [4,3] (.i 5 (rt [2,6]) (.l (dF 2 (Zq 1)) (.tl 53 [.r 0 2,7,6])))))) (.ret false [.r 0 4])
theorem Wy:pg 53=Zl:=by kernel_rfl
theorem Zr:jY C sg 53 Zl:=Wy▸N7 ZI (by omega) (by omega)
def Wm:T:= .i (bW 2 1) (.g (.q (bV (Zq 0) 2) (bW 2 (.l 0))) (.t fS (.g 0 2) (.i (CD 12 (Zq 0)) (.l (dF 2 (Zq 1)) (.tl 12 [.r 0 2,43,.r 3 39])) (cn 29 [42] (.i 43 (cn 30 [.e (.a 42 4),.e (Ac [.a 42 1,.a 42 2,.a 42 3] e0),.r 20 4,.r 6 7,.r 33 2,.r 39 3,.r 31 2,.r 35 4] (.l (dF 2 (Zq 1)) (.tl 12 [.r 0 2,66,.r 3 3,.r 48 7,.r 13 7,.r 44 3,.e tt,.r 24 7,.r 60 2,.r 55 2,.r 62 4,.r 57 3]))) (.i (Sz (.a 42 5) (.k (.str [105,110,112,117,116]))) (cn 31 [42,.r 20 4,.r 6 7,.r 33 2,.r 39 3,.r 31 2,.r 35 4] (.g (.rm 56 (.k (dm 1))) (.l (.ap 1 56 (Ls 1 [44])) (.l (dF 2 (Zq 1)) (.tl 12 [.r 0 2,68,.r 3 3,.r 49 7,.r 13 7,.r 45 4,.r 24 7,.r 61 2,67,57,.r 63 4,.r 58 3]))))) (cn 31 [42,.r 20 4,.r 6 7,.r 33 2,.r 39 3,.r 31 2,.r 35 4] (.g (.rm 57 (.k (dm 1))) (.l (.ap 1 57 (Ls 1 [44])) (.l (dF 2 (Zq 1)) (.tl 12 [.r 0 2,68,.r 3 3,.r 49 7,.r 13 7,.r 45 4,.r 24 7,.r 61 2,56,67,.r 63 4,.r 58 3]))))))))))) (.ret false [.r 0 42])
theorem Ww:pg 12=Wm:=by kernel_rfl
theorem aD6:jY C sg 12 Wm:=Ww▸N7 ZI (by omega) (by omega)
end Go.Proofs.YtpmjplpnpnmlcaaGreatDoor
