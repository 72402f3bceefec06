import Derived.Test.YtalibicpmfbieaaGreatDoorM4
import Derived.Test.YtalibicpmfbieaaGreatDoorM5
import Derived.Test.YtalibicpmfbieaaGreatDoorM1
namespace Go.Proofs.YtalibicpmfbieaaGreatDoor
open Go.AE
set_option linter.all false
section
theorem Pm:∀ (n:Nat) (x:D),xI n x→qI n x≤(wI n x).length
 |0,_,h=>h.elim
 |n+1,x,h=>by
  have ih:=Pm n
  rcases h with (h|h)|⟨nm,e,rfl,hn,he⟩|⟨nm,rfl,hn⟩|⟨l0,e,rfl,hlf,he⟩|⟨s0,rfl,hs⟩|⟨s0,rfl,hs⟩|⟨sg,es,its,s0,rfl,h2e,he,h1n,h2n,hx,hs⟩|⟨k,ps,qs,rfl,hk,hp,hq,hpc,hqc⟩|⟨es,its,rfl,h3,he,hn,hx⟩|⟨e,its,els,rfl,he,hn,hx,hel⟩
  ·obtain⟨nm,ty,q,f,sg,es,fs,rfl,_⟩:=jA h
   show 1+0≤(nW nm ty sg es fs++[(3,[59])]:List Tk).length
   simp only [Xx,Xw,Xy];omega
  ·obtain⟨nm,ty,q,f,sg,es,fs,rfl,_⟩:=jA h
   show 1+0≤(nW nm ty sg es fs++[(3,[59])]:List Tk).length
   simp only [Xx,Xw,Xy];omega
  ·show 1+0≤([(1,mF),(1,nm),(3,[61])]++(wE 4 e++[(3,[59])]):List Tk).length
   simp only [Xx,Xw,Xy];omega
  ·show 1+0≤([(1,IM),(1,nm),(3,[59])]:List Tk).length
   simp only [Xw,Xy];omega
  ·show 1+0≤([(1,pI)]++(wE 4 l0++([(3,[61])]++(wE 4 e++[(3,[59])]))):List Tk).length
   simp only [Xx,Xw,Xy];omega
  ·have:=By 4 s0 hs
   show 1+((qS 4 s0+0)+0+0)≤([(1,mD),(3,[64]),(3,[42])]++wS 4 s0:List Tk).length
   simp only [Xx,Xw,Xy];omega
  ·have:=By 4 s0 hs
   show 1+((qS 4 s0+0)+0+0)≤([(1,mD),(3,[64]),(3,[40]),(1,GI),(1,wF),(3,[41])]++wS 4 s0:List Tk).length
   simp only [Xx,Xw,Xy];omega
  ·have:=By 4 s0 hs
   show 1+qS 4 s0≤([(1,BI)]++((bif sg then [(1,lD)] else [])++(mM es++([(1,[102]),(3,[59])]++(its.flatMap EY++(wS 4 s0++[(1,lM)]))))):List Tk).length
   simp only [Xx,Xw,Xy];omega
  ·show 1+0≤([(1,sP)]++((bif ps.isEmpty then [] else [(3,[35])]++mR ps)++([(1,[117,48+k])]++(mR qs++[(3,[59])]))):List Tk).length
   simp only [Xx,Xw,Xy];omega
  ·have h1:sQ (qI n) its≤(its.flatMap (wI n)).length:=HV fun x hx'=>ih x (hx x hx')
   have eB:[gB [103] its].flatMap (FF (wI n))=[(1,Q6),(3,[58]),(1,[103])]++(its.flatMap (wI n)++[(1,dD)]):=by
    show ([(1,Q6),(3,[58]),(1,[103])]++(its.flatMap (wI n)++[(1,dD)]))++[]=_
    rw [Za]
   show 1+(0+(sQ (qI n) its+0)+0)≤(Z9 [105] es++[gB [103] its].flatMap (FF (wI n)):List Tk).length
   rw [eB]
   simp only [Xx,Xw,Xy];omega
  ·have h1:sQ (qI n) its≤(its.flatMap (wI n)).length:=HV fun x hx'=>ih x (hx x hx')
   have eB:[gB [116] its].flatMap (FF (wI n))=[(1,Q6),(3,[58]),(1,[116])]++(its.flatMap (wI n)++[(1,dD)]):=by
    show ([(1,Q6),(3,[58]),(1,[116])]++(its.flatMap (wI n)++[(1,dD)]))++[]=_
    rw [Za]
   rcases hel with rfl|⟨ys,rfl,hyn,hyx⟩
   ·show 1+(0+(sQ (qI n) its+0)+0)≤([(1,vI)]++(pW e++([gB [116] its].flatMap (FF (wI n))++[])):List Tk).length
    rw [eB]
    simp only [Xx,Xw,Xy];omega
   ·have h2:sQ (qI n) ys≤(ys.flatMap (wI n)).length:=HV fun x hx'=>ih x (hyx x hx')
    have eC:[gB [101] ys].flatMap (FF (wI n))=[(1,Q6),(3,[58]),(1,[101])]++(ys.flatMap (wI n)++[(1,dD)]):=by
     show ([(1,Q6),(3,[58]),(1,[101])]++(ys.flatMap (wI n)++[(1,dD)]))++[]=_
     rw [Za]
    show 1+(0+(sQ (qI n) its+0)+(sQ (qI n) ys+0))≤([(1,vI)]++(pW e++([gB [116] its].flatMap (FF (wI n))++([(1,cT)]++[gB [101] ys].flatMap (FF (wI n))))):List Tk).length
    rw [eB,eC]
    simp only [Xx,Xw,Xy];omega
theorem Rj {t:Zt}(h:t∈Z7):(t==iF)=false:=
 QH (by simp only [sT,Yy];exact .inl h) (by simp [Pg])
theorem Rg {l:List D}{nm ty:Zt}{sg:Bool}{es fs:List D}(hn:nm∈Z7){i:Nat}(ht:C4 l i (nR nm ty sg es fs)):∃ k t a b e,l[i]? = some (tk k t a b e)∧(t==iF)=false:=by
 unfold nR at ht
 cases hb:(sg&&!(ty==eZ)) with
 |true=>
  rw [hb] at ht
  obtain⟨a,b,e,h⟩:=C2 (show C4 l i ((1,lD)::_) from ht)
  exact⟨_,_,_,_,_,h,rfl⟩
 |false=>
  rw [hb] at ht
  have ht:C4 l i (mM (es.take 2)++([(1,nm)]++(mM (es.drop 2)++Th fs))):=ht
  match hes:es.take 2,ht with
  |[],ht=>
   obtain⟨a,b,e,h⟩:=C2 (show C4 l i ((1,nm)::_) from ht)
   exact⟨_,_,_,_,_,h,Rj hn⟩
  |[x],ht=>
   obtain⟨a,b,e,h⟩:=C2 (show C4 l i ((3,[91])::_) from ht)
   exact⟨_,_,_,_,_,h,rfl⟩
  |x::y::r,ht=>
   obtain⟨a,b,e,h⟩:=C2 (show C4 l i ((3,[91])::_) from ht)
   exact⟨_,_,_,_,_,h,rfl⟩
section
variable {l:List D} (hl:l.length≤1000000)
include hl
theorem Nr {x:D}(hx:xN kC x){i:Nat}(ht:C4 l i (hU x)){t:Zt}{a b e:Int}(hcl:l[i+(hU x).length]? = some (tk 3 t a b e))(hc:cl t=true)(d c p0 p1 p2:Int)(hd:0≤d)(hd2:d≤32) :
  U (fun n=>aR n (.Z 5 l) (i:Int) d c p0 p1 p2 (0:Int)) fun r=>∃ y,OI 8 x y∧r=(true,[y,.Z 5 l,.int .i64 ((i+(hU x).length:Nat):Int),.int .i64 d,.int .i64 c,.int .i64 p0,.int .i64 p1,.int .i64 p2,.int .i64 0]):=by
 obtain⟨nm,ty,q,f,sg,es,fs,rfl,g1,hm,g3,g4,g5,g6,g7,g8⟩:=jA hx
 have eW:hU (I 1 nm ty sg es fs [] [] [] [] [])=(bif ty==Y2 then [(1,kO),(1,iF)] else [(1,ty)])++nR nm ty sg es fs:=Mr ..
 have hty:ty=MZ∨ty=kO∨ty=Y2:=by
  simp only [kC,Yh,Ys,List.not_mem_nil,or_false] at hm
  rcases hm with h|h|h
  ·exact .inl h.1
  ·exact .inr (.inl h.1)
  ·exact .inr (.inr h.1)
 rw [eW] at ht hcl ⊢
 rcases hty with rfl|rfl|rfl
 ·have ht:C4 l i ((1,MZ)::nR nm MZ sg es fs):=ht
  have eL:((bif MZ==Y2 then [(1,kO),(1,iF)] else [(1,MZ)])++nR nm MZ sg es fs:List Tk).length=1+(nR nm MZ sg es fs).length:=by
   show (_::nR nm MZ sg es fs:List Tk).length=_
   rw [Xw];omega
  rw [eL] at hcl ⊢
  obtain⟨a1,b1,e1,h1⟩:=C2 ht
  have N:=LS hl (Cv (.inr (.inr (.inr rfl)))) g1 hm g3 g4 g5 g6 g7 g8 (D0 ht) (ND hcl (by omega)) hc a1 b1 e1 d c p0 p1 p2 hd hd2
  refine U.eq (fun n=>iY n l i d c p0 p1 p2 0) (U.A0 (K8 (d:=d) (c:=c) (p0:=p0) (p1:=p1) (p2:=p2) h1) ?_)
  (intro _ ds h0;cases h0;refine⟨rfl,U.Xu rfl ?_⟩)
  refine U.A0 (F8 (d:=d) (c:=c) (p0:=p0) (p1:=p1) (p2:=p2) hl h1 rfl) ?_
  (intro _ ds h0;cases h0;refine⟨rfl,U.Xu rfl ?_⟩)
  refine U.Xu rfl (U.A0 N ?_)
  rintro _ ds ⟨es',fs',hE,hF,h0⟩;cases h0
  refine⟨rfl,U.Xu rfl (U.ret ⟨_,xF (i:=a1) (j:=b1) (l:=e1) hE hF (by simp) (by simp) (by simp) (by simp) (by simp) Rl.nil Rl.nil Rl.nil Rl.nil Rl.nil,?_⟩)⟩
  rw [show i+(1+(nR nm MZ sg es fs).length)=i+1+(nR nm MZ sg es fs).length from by omega]
  rfl
 ·have ht:C4 l i ((1,kO)::nR nm kO sg es fs):=ht
  have eL:((bif kO==Y2 then [(1,kO),(1,iF)] else [(1,kO)])++nR nm kO sg es fs:List Tk).length=1+(nR nm kO sg es fs).length:=by
   show (_::nR nm kO sg es fs:List Tk).length=_
   rw [Xw];omega
  rw [eL] at hcl ⊢
  obtain⟨a1,b1,e1,h1⟩:=C2 ht
  obtain⟨k2,t2,a2,b2,e2,h2,hr⟩:=Rg g1 (D0 ht)
  have N:=LS hl (Cv (.inr (.inr (.inr rfl)))) g1 hm g3 g4 g5 g6 g7 g8 (D0 ht) (ND hcl (by omega)) hc a1 b1 e1 d c p0 p1 p2 hd hd2
  refine U.eq (fun n=>iY n l i d c p0 p1 p2 0) (U.A0 (K8 (d:=d) (c:=c) (p0:=p0) (p1:=p1) (p2:=p2) h1) ?_)
  (intro _ ds h0;cases h0;refine⟨rfl,U.Xu rfl ?_⟩)
  refine U.A0 (C1 (d:=d) (c:=c) (p0:=p0) (p1:=p1) (p2:=p2) h1 rfl) ?_
  (intro _ ds h0;cases h0;refine⟨rfl,U.Xu rfl ?_⟩)
  refine U.no rfl (U.A0 (G6 (d:=d) (c:=c) (p0:=p0) (p1:=p1) (p2:=p2) hl [kO] (by simp) (H8 h1 rfl)) ?_)
  (intro _ ds h0;cases h0;refine⟨rfl,U.Xu rfl ?_⟩)
  refine U.A0 (C1 (d:=d) (c:=c) (p0:=p0) (p1:=p1) (p2:=p2) h2 (LR hr)) ?_
  (intro _ ds h0;cases h0;refine⟨rfl,U.Xu rfl ?_⟩)
  refine U.no rfl (G4 (fun n=>eK.eq_1 n _ _ _) (U.A0 N ?_))
  rintro _ ds ⟨es',fs',hE,hF,h0⟩;cases h0
  refine⟨rfl,U.Xu rfl (U.ret ⟨_,xF (i:=a1) (j:=b1) (l:=e1) hE hF (by simp) (by simp) (by simp) (by simp) (by simp) Rl.nil Rl.nil Rl.nil Rl.nil Rl.nil,?_⟩)⟩
  rw [show i+(1+(nR nm kO sg es fs).length)=i+1+(nR nm kO sg es fs).length from by omega]
  rfl
 ·have ht:C4 l i ((1,kO)::(1,iF)::nR nm Y2 sg es fs):=ht
  have eL:((bif Y2==Y2 then [(1,kO),(1,iF)] else [(1,Y2)])++nR nm Y2 sg es fs:List Tk).length=2+(nR nm Y2 sg es fs).length:=by
   show (_::_::nR nm Y2 sg es fs:List Tk).length=_
   rw [Xw,Xw];omega
  rw [eL] at hcl ⊢
  obtain⟨a1,b1,e1,h1⟩:=C2 ht
  obtain⟨a2,b2,e2,h2⟩:=C2 (D0 ht)
  have N:=LS hl (Cv (.inr (.inr (.inr rfl)))) g1 hm g3 g4 g5 g6 g7 g8 (D0 (D0 ht)) (ND hcl (by omega)) hc a1 b1 e1 d c p0 p1 p2 hd hd2
  refine U.eq (fun n=>iY n l i d c p0 p1 p2 0) (U.A0 (K8 (d:=d) (c:=c) (p0:=p0) (p1:=p1) (p2:=p2) h1) ?_)
  (intro _ ds h0;cases h0;refine⟨rfl,U.Xu rfl ?_⟩)
  refine U.A0 (C1 (d:=d) (c:=c) (p0:=p0) (p1:=p1) (p2:=p2) h1 rfl) ?_
  (intro _ ds h0;cases h0;refine⟨rfl,U.Xu rfl ?_⟩)
  refine U.no rfl (U.A0 (G6 (d:=d) (c:=c) (p0:=p0) (p1:=p1) (p2:=p2) hl [kO] (by simp) (H8 h1 rfl)) ?_)
  (intro _ ds h0;cases h0;refine⟨rfl,U.Xu rfl ?_⟩)
  refine U.A0 (F8 (d:=d) (c:=c) (p0:=p0) (p1:=p1) (p2:=p2) hl h2 rfl) ?_
  (intro _ ds h0;cases h0;refine⟨rfl,U.Xu rfl ?_⟩)
  refine U.Xu rfl (G4 (fun n=>eK.eq_1 n _ _ _) (U.A0 N ?_))
  rintro _ ds ⟨es',fs',hE,hF,h0⟩;cases h0
  refine⟨rfl,U.Xu rfl (U.ret ⟨_,xF (i:=a1) (j:=b1) (l:=e1) hE hF (by simp) (by simp) (by simp) (by simp) (by simp) Rl.nil Rl.nil Rl.nil Rl.nil Rl.nil,?_⟩)⟩
  rw [show i+(2+(nR nm Y2 sg es fs).length)=i+1+1+(nR nm Y2 sg es fs).length from by omega]
  rfl
def Gn (l:List D)(nm:Zt)(m0 m1 m2 d c p0 p1 p2:Int)(zs:List D)(z:D):Prop:=∀ (i:Nat) (acc xs:List D),(∀ y∈z::zs,xP y)→C4 l i (lW qE (z::zs)++[(3,[41])])→(z::zs).length+acc.length≤100→Rl (OI 8) xs acc→
  U (fun n=>M8 n (.Z 5 l) (i:Int) d c p0 p1 p2 (0:Int) (.str []) (0:Int) (0:Int) (0:Int) (.str nm) m0 m1 m2 (.Z 14 []) (.Z 14 []) (.Z 14 []) (.Z 14 acc) (.Z 14 []) (.Z 14 [])) fun r=>∃ ys,Rl (OI 8) (xs++z::zs) ys∧r=(false,[.Z 5 l,.int .i64 ((i+(lW qE (z::zs)).length:Nat):Int),.int .i64 d,.int .i64 c,.int .i64 p0,.int .i64 p1,.int .i64 p2,.int .i64 0,.str [],.int .i64 0,.int .i64 0,.int .i64 0,.str nm,.int .i64 m0,.int .i64 m1,.int .i64 m2,.Z 14 [],.Z 14 [],.Z 14 [],.Z 14 ys,.Z 14 [],.Z 14 []])
theorem Js (nm:Zt)(m0 m1 m2 d c p0 p1 p2:Int)(hd:0≤d)(hd2:d≤32)(zs:List D)(z:D)(hK:∀ z2 zs2,zs=z2::zs2→Gn l nm m0 m1 m2 d c p0 p1 p2 zs2 z2):Gn l nm m0 m1 m2 d c p0 p1 p2 zs z:=by
 intro i acc xs hz ht hn hr
 obtain⟨n1,e,ez,hnm,he⟩:=hz z (Yi ..)
 subst ez
 have eC:qE (I 2 n1 oM false [e] [] [] [] [] [] [])=[(1,oM),(1,n1),(3,[61])]++wE 4 e:=rfl
 have eCl:(qE (I 2 n1 oM false [e] [] [] [] [] [] [])).length=3+(wE 4 e).length:=by rw [eC];simp only [Xx,Xw,Xy]
 have hhead:∃ rest,lW qE (I 2 n1 oM false [e] [] [] [] [] [] []::zs)++[(3,[41])]=[(1,oM),(1,n1),(3,[61])]++(wE 4 e++rest)∧rest=(match zs with|[]=>[(3,[41])]|z2::zs2=>(3,[44])::(lW qE (z2::zs2)++[(3,[41])])):=by
  cases zs with
  |nil=>exact⟨_,by show qE _++[(3,[41])]=_;rw [eC,Yl],rfl⟩
  |cons z2 zs2=>exact⟨_,by show (qE _++((3,[44])::lW qE (z2::zs2)))++[(3,[41])]=_;rw [eC,Yl,Yl];rfl,rfl⟩
 obtain⟨rest,h0,hrest⟩:=hhead
 rw [h0] at ht
 have ht:C4 l i ((1,oM)::([(1,n1),(3,[61])]++(wE 4 e++rest))):=ht
 rw [← Yl] at ht
 obtain⟨a1,b1,e1,h1⟩:=C2 ht
 obtain⟨hE,hR⟩:=C7.1 (D0 ht)
 have hL:([(1,n1),(3,[61])]++wE 4 e:List Tk).length=2+(wE 4 e).length:=by simp only [Xx,Xw,Xy]
 rw [hL] at hR
 have hcl:∃ t a b e',l[i+1+(2+(wE 4 e).length)]? = some (tk 3 t a b e')∧cl t=true:=by
  subst hrest
  cases zs with
  |nil=>obtain⟨a,b,e',h⟩:=C2 hR;exact⟨_,_,_,_,h,rfl⟩
  |cons z2 zs2=>obtain⟨a,b,e',h⟩:=C2 hR;exact⟨_,_,_,_,h,rfl⟩
 obtain⟨t7,a7,b7,e7,g7,gc⟩:=hcl
 have A:=WX hl hnm he hE g7 gc (ty:=oM) a1 b1 e1 d c p0 p1 p2 hd hd2
 refine U.eq (fun n=>qO n _ _ _ _ _ _ _ _ _ _ _ _ _ _ _ _ _ _ _ _ _ _) (U.Xu rfl (U.A0 (K8 (d:=d) (c:=c) (p0:=p0) (p1:=p1) (p2:=p2) h1) ?_))
 (intro _ ds h0;cases h0;refine⟨rfl,U.Xu rfl ?_⟩)
 refine U.A0 (G6 (d:=d) (c:=c) (p0:=p0) (p1:=p1) (p2:=p2) hl [oM] (by simp) (H8 h1 rfl)) ?_
 (intro _ ds h0;cases h0;refine⟨rfl,U.Xu rfl ?_⟩)
 refine U.A0 A ?_
 rintro _ ds ⟨y,hy,h0⟩;cases h0
 have hO:OI 8 (I 2 n1 oM false [e] [] [] [] [] [] []) (AJ 2 a1 b1 e1 n1 oM false [y] [] [] [] [] [] []):=xF (fL.one he hy) fL.nil (by simp) (by simp) (by simp) (by simp) (by simp) Rl.nil Rl.nil Rl.nil Rl.nil Rl.nil
 refine⟨rfl,U.Xu rfl (U.Xu (Yc (by simp only [D8,Xw] at hn ⊢;omega)) ?_)⟩
 cases zs with
 |nil=>
  subst hrest
  obtain⟨a5,b5,e5,h5⟩:=C2 hR
  refine U.A0 (C1 (d:=d) (c:=c) (p0:=p0) (p1:=p1) (p2:=p2) h5 rfl) ?_
  (intro _ ds h0;cases h0;refine⟨rfl,U.Xu rfl ?_⟩)
  refine U.Xu rfl (U.ret ⟨acc++[AJ 2 a1 b1 e1 n1 oM false [y] [] [] [] [] [] []],hr.snoc hO,?_⟩)
  rw [show i+(lW qE [I 2 n1 oM false [e] [] [] [] [] [] []]).length=i+1+(2+(wE 4 e).length) from by show i+(qE _).length=_;rw [eCl];omega]
  rfl
 |cons z2 zs2=>
  subst hrest
  obtain⟨a5,b5,e5,h5⟩:=C2 hR
  have hR:=D0 hR
  have K:=hK z2 zs2 rfl (i+1+(2+(wE 4 e).length)+1) (acc++[AJ 2 a1 b1 e1 n1 oM false [y] [] [] [] [] [] []]) (xs++[I 2 n1 oM false [e] [] [] [] [] [] []]) (fun y hy=>hz y (Yk _ hy)) hR (by simp only [Xx,Xw,Xy] at hn ⊢;omega) (hr.snoc hO)
  refine U.A0 (F8 (d:=d) (c:=c) (p0:=p0) (p1:=p1) (p2:=p2) hl h5 rfl) ?_
  (intro _ ds h0;cases h0;refine⟨rfl,U.Xu rfl ?_⟩)
  refine U.no rfl ?_
  refine K.mono fun r ⟨ys,g1,g2⟩=>⟨ys,by rw [Yl] at g1;exact g1,?_⟩
  rw [g2,show i+(lW qE (I 2 n1 oM false [e] [] [] [] [] [] []::z2::zs2)).length=i+1+(2+(wE 4 e).length)+1+(lW qE (z2::zs2)).length from by
   show i+(qE _++((3,[44])::lW qE (z2::zs2))).length=_
   rw [Xx,eCl,Xw];omega]
theorem Se (nm:Zt)(m0 m1 m2 d c p0 p1 p2:Int)(hd:0≤d)(hd2:d≤32):∀ (zs:List D) (z:D),Gn l nm m0 m1 m2 d c p0 p1 p2 zs z:=by
 intro zs
 induction zs with
 |nil=>exact fun z=>Js hl nm m0 m1 m2 d c p0 p1 p2 hd hd2 [] z fun _ _ h=>(by cases h)
 |cons z2 zs2 ih=>exact fun z=>Js hl nm m0 m1 m2 d c p0 p1 p2 hd hd2 (z2::zs2) z fun z3 zs3 h=>(by cases h;exact ih z2)
def Gp (l:List D)(nm:Zt)(m0 m1 m2 d c p0 p1 p2:Int)(ps:List D)(zs:List D)(z:D):Prop:=∀ (i:Nat) (acc xs:List D),(∀ y∈z::zs,xN kC y)→C4 l i (lW hU (z::zs)++[(3,[41])])→(z::zs).length+acc.length≤100→Rl (OI 8) xs acc→
  U (fun n=>T4 n true l (i:Int) d c p0 p1 p2 0 acc [] 0 0 0 nm m0 m1 m2 [] [] [] ps []) fun r=>∃ ys,Rl (OI 8) (xs++z::zs) ys∧r=(false,[.Z 5 l,.int .i64 ((i+(lW hU (z::zs)).length:Nat):Int),.int .i64 d,.int .i64 c,.int .i64 p0,.int .i64 p1,.int .i64 p2,.int .i64 0,.str [],.int .i64 0,.int .i64 0,.int .i64 0,.str nm,.int .i64 m0,.int .i64 m1,.int .i64 m2,.Z 14 [],.Z 14 [],.Z 14 [],.Z 14 ps,.Z 14 ys,.Z 14 []])
theorem Bv (nm:Zt)(m0 m1 m2 d c p0 p1 p2:Int)(ps:List D)(hd:0≤d)(hd2:d≤32)(zs:List D)(z:D)(hK:∀ z2 zs2,zs=z2::zs2→Gp l nm m0 m1 m2 d c p0 p1 p2 ps zs2 z2):Gp l nm m0 m1 m2 d c p0 p1 p2 ps zs z:=by
 intro i acc xs hz ht hn hr
 have hz1:=hz z (Yi ..)
 have hhead:∃ rest,lW hU (z::zs)++[(3,[41])]=hU z++rest∧rest=(match zs with|[]=>[(3,[41])]|z2::zs2=>(3,[44])::(lW hU (z2::zs2)++[(3,[41])])):=by
  cases zs with
  |nil=>exact⟨_,rfl,rfl⟩
  |cons z2 zs2=>exact⟨_,by show (hU _++((3,[44])::lW hU (z2::zs2)))++[(3,[41])]=_;rw [Yl];rfl,rfl⟩
 obtain⟨rest,h0,hrest⟩:=hhead
 rw [h0] at ht
 obtain⟨hE,hR⟩:=C7.1 ht
 have hcl:∃ t a b e',l[i+(hU z).length]? = some (tk 3 t a b e')∧cl t=true:=by
  subst hrest
  cases zs with
  |nil=>obtain⟨a,b,e',h⟩:=C2 hR;exact⟨_,_,_,_,h,rfl⟩
  |cons z2 zs2=>obtain⟨a,b,e',h⟩:=C2 hR;exact⟨_,_,_,_,h,rfl⟩
 obtain⟨t7,a7,b7,e7,g7,gc⟩:=hcl
 refine G4 (fun n=>T4.eq_1 n _ _ _ _ _ _ _ _ _ _ _ _ _ _ _ _ _ _ _ _ _ _ _) (U.Xu rfl (U.A0 (Nr hl hz1 hE g7 gc d c p0 p1 p2 hd hd2) ?_))
 rintro _ ds ⟨y,hy,h0⟩;cases h0
 have hO:=hy
 obtain⟨k',i',j',l',nm',ty',sg',es,fs,bs,its,els,ps2,qs2,es',fs',bs',its',els',ps',qs',_,rfl,_⟩:=hy
 refine⟨rfl,U.Xu rfl (U.Xu (Yc (by simp only [D8,Xw] at hn ⊢;omega)) ?_)⟩
 cases zs with
 |nil=>
  subst hrest
  obtain⟨a5,b5,e5,h5⟩:=C2 hR
  refine U.A0 (C1 (d:=d) (c:=c) (p0:=p0) (p1:=p1) (p2:=p2) h5 rfl) ?_
  (intro _ ds h0;cases h0;refine⟨rfl,U.Xu rfl ?_⟩)
  refine U.Xu rfl (U.ret ⟨_,hr.snoc hO,?_⟩)
  rfl
 |cons z2 zs2=>
  subst hrest
  obtain⟨a5,b5,e5,h5⟩:=C2 hR
  have hR:=D0 hR
  have K:=hK z2 zs2 rfl (i+(hU z).length+1) (acc++[AJ k' i' j' l' nm' ty' sg' es' fs' bs' its' els' ps' qs']) (xs++[z]) (fun y hy=>hz y (Yk _ hy)) hR (by simp only [Xx,Xw,Xy] at hn ⊢;omega) (hr.snoc hO)
  refine U.A0 (F8 (d:=d) (c:=c) (p0:=p0) (p1:=p1) (p2:=p2) hl h5 rfl) ?_
  (intro _ ds h0;cases h0;refine⟨rfl,U.Xu rfl ?_⟩)
  refine U.no rfl (U.eq (fun n=>dQ n _ _ _ _ _ _ _ _ _ _ _ _ _ _ _ _ _ _ _ _ _ _) (U.Xu rfl (U.Xu (Zi (by show ((acc++[AJ k' i' j' l' nm' ty' sg' es' fs' bs' its' els' ps' qs']).length:Int)>0;rw [Xx,Yu];omega)) ?_)))
  refine K.mono fun r ⟨ys,g1,g2⟩=>⟨ys,by rw [Yl] at g1;exact g1,?_⟩
  rw [g2,show i+(lW hU (z::z2::zs2)).length=i+(hU z).length+1+(lW hU (z2::zs2)).length from by
   show i+(hU _++((3,[44])::lW hU (z2::zs2))).length=_
   rw [Xx,Xw];omega]
theorem Ns (nm:Zt)(m0 m1 m2 d c p0 p1 p2:Int)(ps:List D)(hd:0≤d)(hd2:d≤32):∀ (zs:List D) (z:D),Gp l nm m0 m1 m2 d c p0 p1 p2 ps zs z:=by
 intro zs
 induction zs with
 |nil=>exact fun z=>Bv hl nm m0 m1 m2 d c p0 p1 p2 ps hd hd2 [] z fun _ _ h=>(by cases h)
 |cons z2 zs2 ih=>exact fun z=>Bv hl nm m0 m1 m2 d c p0 p1 p2 ps hd hd2 (z2::zs2) z fun z3 zs3 h=>(by cases h;exact ih z2)
theorem Sg {z:D}{zs:List D}(hz:xN kC z){i:Nat}(ht:C4 l i (lW hU (z::zs)++[(3,[41])])):∃ k t a b e,l[i]? = some (tk k t a b e)∧(t==[41]&&k !=2)=false:=by
 obtain⟨nm,ty,q,f,sg,es,fs,rfl,g1,hm,_⟩:=jA hz
 have hP:C4 l i (hU (I 1 nm ty sg es fs [] [] [] [] [])):=by
  cases zs with
  |nil=>exact (C7.1 ht).1
  |cons z2 zs2=>exact (C7.1 (C7.1 ht).1).1
 have hP:C4 l i ((bif ty==Y2 then [(1,kO),(1,iF)] else [(1,ty)])++nR nm ty sg es fs):=hP
 simp only [kC,Yh,Ys,List.not_mem_nil,or_false] at hm
 rcases hm with ⟨rfl,_⟩|⟨rfl,_⟩|⟨rfl,_⟩
 ·obtain⟨a,b,e,h⟩:=C2 (show C4 l i ((1,MZ)::_) from hP);exact⟨_,_,_,_,_,h,rfl⟩
 ·obtain⟨a,b,e,h⟩:=C2 (show C4 l i ((1,kO)::_) from hP);exact⟨_,_,_,_,_,h,rfl⟩
 ·obtain⟨a,b,e,h⟩:=C2 (show C4 l i ((1,kO)::_) from hP);exact⟨_,_,_,_,_,h,rfl⟩
theorem Ju (nm:Zt)(m0 m1 m2 d c p0 p1 p2:Int)(ps:List D)(hd:0≤d)(hd2:d≤32){qs:List D}(hn:qs.length≤10)(hz:∀ y∈qs,xN kC y){i:Nat}(ht:C4 l i (lW hU qs++[(3,[41])])) :
  U (fun n=>M9 n (.Z 5 l) (i:Int) d c p0 p1 p2 (0:Int) (.str []) (0:Int) (0:Int) (0:Int) (.str nm) m0 m1 m2 (.Z 14 []) (.Z 14 []) (.Z 14 []) (.Z 14 ps) (.Z 14 []) (.Z 14 [])) fun r=>∃ ys,Rl (OI 8) qs ys∧r=(false,[.Z 5 l,.int .i64 ((i+(lW hU qs).length:Nat):Int),.int .i64 d,.int .i64 c,.int .i64 p0,.int .i64 p1,.int .i64 p2,.int .i64 0,.str [],.int .i64 0,.int .i64 0,.int .i64 0,.str nm,.int .i64 m0,.int .i64 m1,.int .i64 m2,.Z 14 [],.Z 14 [],.Z 14 [],.Z 14 ps,.Z 14 ys,.Z 14 []]):=by
 cases qs with
 |nil=>
  obtain⟨a,b,e,h⟩:=C2 (show C4 l i [(3,[41])] from ht)
  refine U.eq (fun n=>dQ n _ _ _ _ _ _ _ _ _ _ _ _ _ _ _ _ _ _ _ _ _ _) (U.Xu rfl (U.no rfl (U.A0 (dF (d:=d) (c:=c) (p0:=p0) (p1:=p1) (p2:=p2) [41] h) ?_)))
  (intro _ ds h0;cases h0;refine⟨rfl,U.Xu rfl ?_⟩)
  exact G4 (fun n=>T4.eq_1 n _ _ _ _ _ _ _ _ _ _ _ _ _ _ _ _ _ _ _ _ _ _ _) (U.no rfl (U.ret ⟨[],Rl.nil,rfl⟩))
 |cons z zs=>
  obtain⟨k,t,a,b,e,h,ht0⟩:=Sg hl (hz z (Yi ..)) ht
  have K:=Ns hl nm m0 m1 m2 d c p0 p1 p2 ps hd hd2 zs z i [] [] hz ht (by simp only [Xw,Xy] at hn ⊢;omega) Rl.nil
  refine U.eq (fun n=>dQ n _ _ _ _ _ _ _ _ _ _ _ _ _ _ _ _ _ _ _ _ _ _) (U.Xu rfl (U.no rfl (U.A0 (dF (d:=d) (c:=c) (p0:=p0) (p1:=p1) (p2:=p2) [41] h) ?_)))
  intro _ ds h0
  rw [ht0] at h0
  cases h0
  exact⟨rfl,U.Xu rfl K⟩
def qM (x:D):Nat:=sQ (qI 4) (x.at_ 3).l
theorem Ed {nm:Zt}(hg:oQ nm=true){x:D}(h:Tm nm x){i:Nat}(ht:C4 l i (wM x))(c p0 p1 p2:Int)(hc:0≤c)(hc2:c+qM x≤4000) :
  U (fun n=>S3 n (.Z 5 l) (i:Int) (0:Int) c p0 p1 p2 (0:Int)) fun r=>∃ y,OM x y∧r=(true,[y,.Z 5 l,.int .i64 ((i+(wM x).length:Nat):Int),.int .i64 0,.int .i64 (c+(qM x:Int)),.int .i64 p0,.int .i64 p1,.int .i64 p2,.int .i64 0]):=by
 obtain⟨ps,qs,its,rfl,l1,l2,l3,hP,hQ,hI⟩:=h
 have hlen:nm.length≤200:=by
  simp only [oQ,Xz,decide_eq_true_eq] at hg
  omega
 have eQ:qM (M nm ps qs its)=sQ (qI 4) its:=rfl
 rw [eQ] at hc2 ⊢
 have ht:C4 l i ((1,uT)::(1,nm)::((bif ps.isEmpty then [] else [(3,[35]),(3,[40])]++(lW qE ps++[(3,[41])]))++([(3,[40])]++(lW hU qs++([(3,[41]),(3,[59])]++(its.flatMap (wI 4)++[(1,nP)])))))):=ht
 have eL:(wM (M nm ps qs its)).length=2+((bif ps.isEmpty then [] else [(3,[35]),(3,[40])]++(lW qE ps++[(3,[41])]):List Tk).length+(1+((lW hU qs).length+(2+((its.flatMap (wI 4)).length+1))))):=by
  show ([(1,uT),(1,nm)]++((bif ps.isEmpty then [] else [(3,[35]),(3,[40])]++(lW qE ps++[(3,[41])]))++([(3,[40])]++(lW hU qs++([(3,[41]),(3,[59])]++(its.flatMap (wI 4)++[(1,nP)]))))):List Tk).length=_
  simp only [Xx,Xw,Xy]
 rw [eL]
 obtain⟨a1,b1,e1,h1⟩:=C2 ht
 obtain⟨a2,b2,e2,h2⟩:=C2 (D0 ht)
 obtain⟨hA,hB⟩:=C7.1 (D0 (D0 ht))
 generalize hv:(bif ps.isEmpty then [] else [(3,[35]),(3,[40])]++(lW qE ps++[(3,[41])]):List Tk)=v at hA hB ⊢
 have hB:=bI hB
 obtain⟨a3,b3,e3,h3⟩:=C2 hB
 obtain⟨hC,hD⟩:=C7.1 (D0 hB)
 have hD:C4 l (i+1+1+v.length+1+(lW hU qs).length) ((3,[41])::(3,[59])::(its.flatMap (wI 4)++[(1,nP)])):=hD
 obtain⟨a4,b4,e4,h4⟩:=C2 hD
 obtain⟨a5,b5,e5,h5⟩:=C2 (D0 hD)
 have hE:=D0 (D0 hD)
 have hC41:C4 l (i+1+1+v.length+1) (lW hU qs++[(3,[41])]):=C7.2 ⟨hC,⟨_,_,_,h4⟩,trivial⟩
 have hw:CI l (i+1+1+v.length+1+(lW hU qs).length) [[41],[59]]:=by
  intro j hj
  have:j=0∨j=1:=by simp at hj;omega
  rcases this with rfl|rfl
  ·exact⟨3,_,_,_,h4,rfl⟩
  ·exact⟨3,_,_,_,h5,rfl⟩
 have J:∀ ps',Rl (OI 8) ps ps'→U (fun n=>cP n l ((i+1+1+v.length:Nat):Int) 0 c p0 p1 p2 0 [] 0 0 0 [] [] [] nm a1 b1 e1 ps' [] []) fun r=>∃ y,OM (M nm ps qs its) y∧r=(true,[y,.Z 5 l,.int .i64 ((i+(2+(v.length+(1+((lW hU qs).length+(2+((its.flatMap (wI 4)).length+1)))))):Nat):Int),.int .i64 0,.int .i64 (c+(sQ (qI 4) its:Int)),.int .i64 p0,.int .i64 p1,.int .i64 p2,.int .i64 0]):=by
  intro ps' hps
  refine G4 (fun n=>cP.eq_1 n _ _ _ _ _ _ _ _ _ _ _ _ _ _ _ _ _ _ _ _ _ _) (U.A0 (G6 (d:=0) (c:=c) (p0:=p0) (p1:=p1) (p2:=p2) hl [[40]] (by decide) (H8 h3 rfl)) ?_)
  (intro _ ds h0;cases h0;refine⟨rfl,U.Xu rfl ?_⟩)
  refine U.D4 (Ju hl nm a1 b1 e1 0 c p0 p1 p2 ps' (by omega) (by omega) (by omega) hQ hC41) (fun ds h=>by obtain⟨_,_,h⟩:=h;cases h) fun ds h=>?_
  obtain⟨qs',hqs,h⟩:=h
  cases h
  refine U.Xu rfl (U.A0 (G6 (d:=0) (c:=c) (p0:=p0) (p1:=p1) (p2:=p2) hl [[41],[59]] (by decide) hw) ?_)
  (intro _ ds h0;cases h0;refine⟨rfl,U.Xu rfl ?_⟩)
  refine U.A0 (VP hl (Xf hl 4) (.inr rfl) (by omega) hI hE 0 c p0 p1 p2 (by omega) (by show (0:Int)+((19:Nat):Int)≤40;omega) hc hc2) ?_
  rintro _ ds ⟨its',hits,h0⟩;cases h0
  refine⟨rfl,U.Xu rfl (U.ret ⟨AM nm a1 b1 e1 ps' qs' its',⟨nm,a1,b1,e1,ps,qs,its,ps',qs',its',rfl,rfl,hlen,by omega,by omega,by omega,hps,hqs,hits⟩,?_⟩)⟩
  rw [show i+(2+(v.length+(1+((lW hU qs).length+(2+((its.flatMap (wI 4)).length+1))))))=i+1+1+v.length+1+(lW hU qs).length+1+1+((its.flatMap (wI 4)).length+1) from by omega]
  rfl
 refine U.eq (fun n=>tT n l i 0 c p0 p1 p2 0) (U.A0 (K8 (d:=0) (c:=c) (p0:=p0) (p1:=p1) (p2:=p2) h1) ?_)
 (intro _ ds h0;cases h0;refine⟨rfl,U.Xu rfl ?_⟩)
 refine U.A0 (G6 (d:=0) (c:=c) (p0:=p0) (p1:=p1) (p2:=p2) hl [uT] (by simp) (H8 h1 rfl)) ?_
 (intro _ ds h0;cases h0;refine⟨rfl,U.Xu rfl ?_⟩)
 refine U.A0 (gJ (d:=0) (c:=c) (p0:=p0) (p1:=p1) (p2:=p2) hl h2 hg) ?_
 (intro _ ds h0;cases h0;refine⟨rfl,U.Xu rfl ?_⟩)
 cases ps with
 |nil=>
  subst hv
  have h3:l[i+1+1]? = _:=h3
  refine U.A0 (C1 (d:=0) (c:=c) (p0:=p0) (p1:=p1) (p2:=p2) h3 rfl) ?_
  (intro _ ds h0;cases h0;refine⟨rfl,U.Xu rfl ?_⟩)
  exact U.no rfl (J [] Rl.nil)
 |cons z zs=>
  have hv:[(3,[35]),(3,[40])]++(lW qE (z::zs)++[(3,[41])])=v:=hv
  have hA0:C4 l (i+1+1) ((3,[35])::(3,[40])::(lW qE (z::zs)++[(3,[41])])):=by
   rw [← hv] at hA;exact hA
  have hvl:v.length=2+((lW qE (z::zs)).length+1):=by
   rw [← hv];simp only [Xx,Xw,Xy]
  obtain⟨a6,b6,e6,h6⟩:=C2 hA0
  obtain⟨a7,b7,e7,h7⟩:=C2 (D0 hA0)
  have hA1:=D0 (D0 hA0)
  obtain⟨a8,b8,e8,h8⟩:=C2 (C7.1 hA1).2
  have K:=Se hl nm a1 b1 e1 0 c p0 p1 p2 (by omega) (by omega) zs z (i+1+1+1+1) [] [] hP hA1 (by simp only [Xw,Xy] at l1 ⊢;omega) Rl.nil
  refine U.A0 (F8 (d:=0) (c:=c) (p0:=p0) (p1:=p1) (p2:=p2) hl h6 rfl) ?_
  (intro _ ds h0;cases h0;refine⟨rfl,U.Xu rfl ?_⟩)
  refine U.Xu rfl (U.A0 (G6 (d:=0) (c:=c) (p0:=p0) (p1:=p1) (p2:=p2) hl [[40]] (by decide) (H8 h7 rfl)) ?_)
  (intro _ ds h0;cases h0;refine⟨rfl,U.Xu rfl ?_⟩)
  refine U.D4 K (fun ds h=>by obtain⟨_,_,h⟩:=h;cases h) fun ds h=>?_
  obtain⟨ps',hps,h⟩:=h
  cases h
  refine U.Xu rfl (U.A0 (G6 (d:=0) (c:=c) (p0:=p0) (p1:=p1) (p2:=p2) hl [[41]] (by decide) (H8 h8 rfl)) ?_)
  (intro _ ds h0;cases h0;refine⟨rfl,U.Xu rfl ?_⟩)
  have J:=J ps' hps
  rw [show i+1+1+v.length=i+1+1+1+1+(lW qE (z::zs)).length+1 from by omega] at J
  exact J
end
end
def Xi (nm:Zt)(acc:List D):Prop:=∀ (r:Nat) (h:r<acc.length),∃ nm' i j l ps qs its,acc[r]=AM nm' i j l ps qs its∧(nm'==nm)=false
theorem Ho {acc:List D}{nm:Zt}(hn:acc.length≤1000)(h:Xi nm acc)(i j k:Int)(ps qs its:List D) :
  U (fun n=>O6 n (.Z 7 acc) (.str nm) i j k (.Z 14 ps) (.Z 14 qs) (.Z 14 its)) fun r=>r=(true,[.bool false,.Z 7 acc,.str nm,.int .i64 i,.int .i64 j,.int .i64 k,.Z 14 ps,.Z 14 qs,.Z 14 its]):=by
 have L:∀ (m r:Nat),acc.length-r=m→r≤acc.length→U (fun n=>I7 n (acc.length:Int) (r:Int) (.Z 7 acc) (.str nm) i j k (.Z 14 ps) (.Z 14 qs) (.Z 14 its)) fun q=>q=(false,[.int .i64 (acc.length:Int),.int .i64 (acc.length:Int),.Z 7 acc,.str nm,.int .i64 i,.int .i64 j,.int .i64 k,.Z 14 ps,.Z 14 qs,.Z 14 its]):=by
  intro m
  induction m with
  |zero=>
   intro r hm hr
   have:r=acc.length:=by omega
   subst this
   exact U.eq (fun n=>fQ n _ _ _ _ _ _ _ _ _ _) (U.no (Zk (by omega)) (U.ret rfl))
  |succ m ih=>
   intro r hm hr
   have hr':r<acc.length:=by omega
   obtain⟨nm',i',j',l',ps',qs',its',e,hne⟩:=h r hr'
   refine U.eq (fun n=>fQ n _ _ _ _ _ _ _ _ _ _) (U.Xu (Zi (by omega)) (U.Xu (G9 hr') ?_))
   rw [X7 hr',e]
   refine U.Xu rfl (U.A0 (U.eq (fun n=>GH n nm' i' j' l' ps' qs' its' nm i j k ps qs its) (U.ret rfl)) ?_)
   intro _ ds h0;cases h0
   refine⟨rfl,U.Xu rfl (U.no hne ?_)⟩
   rw [H7 (by omega)]
   exact ih (r+1) (by omega) (by omega)
 have I:U (fun n=>P2 n (.Z 7 acc) (.str nm) i j k (.Z 14 ps) (.Z 14 qs) (.Z 14 its)) fun r=>r=(true,[.int .i64 (-1),.Z 7 acc,.str nm,.int .i64 i,.int .i64 j,.int .i64 k,.Z 14 ps,.Z 14 qs,.Z 14 its]):=by
  refine U.eq (fun n=>qH n acc nm i j k ps qs its) (U.D4 (L acc.length 0 (by omega) (by omega)) (fun ds h=>by cases h) fun ds h=>?_)
  cases h
  exact U.Xu rfl (U.ret rfl)
 refine U.eq (fun n=>oH n acc nm i j k ps qs its) (U.A0 I ?_)
 intro _ ds h0;cases h0
 exact⟨rfl,U.Xu rfl (U.ret rfl)⟩
def Ti (nms:List Zt)(ms:List D):Prop:=nms.length=ms.length∧(∀ (k:Nat) (h:k<ms.length) (h':k<nms.length),Tm nms[k] ms[k]∧oQ nms[k]=true)∧∀ (j k:Nat) (hj:j<nms.length) (hk:k<nms.length),j<k→(nms[j]==nms[k])=false
theorem Np {l:List D}(hl:l.length≤1000000){nms:List Zt}{ms:List D}(hn:ms.length≤6)(h:Ti nms ms) :
  ∀ (m j:Nat) (i:Nat) (c:Int) (acc:List D),ms.length-j=m→j≤ms.length→C4 l i ((ms.drop j).flatMap wM)→i+((ms.drop j).flatMap wM).length=l.length→0≤c→c+sQ qM (ms.drop j)≤4000→Rl OM (ms.take j) acc→
   U (fun n=>Y3 n (0:Int) (0:Int) (0:Int) (.Z 5 l) (i:Int) (0:Int) c (0:Int) (0:Int) (0:Int) (0:Int) (.Z 7 acc)) fun r=>∃ ys,Rl OM ms ys∧r=(false,[.int .i64 0,.int .i64 0,.int .i64 0,.Z 5 l,.int .i64 (l.length:Int),.int .i64 0,.int .i64 (c+(sQ qM (ms.drop j):Int)),.int .i64 0,.int .i64 0,.int .i64 0,.int .i64 0,.Z 7 ys]):=by
 intro m
 induction m with
 |zero=>
  intro j i c acc hm hj ht hi hc hq hr
  have:j=ms.length:=by omega
  subst this
  rw [List.drop_length] at hi ⊢
  have hi:i+0=l.length:=hi
  refine U.eq (fun n=>rF n _ _ _ _ _ _ _ _ _ _ _ _) (U.Xu rfl (G4 (fun n=>hG.eq_1 n _ _ _ _ _ _ _ _ _ _ _ _ _) (U.no (Zk (by omega)) (U.ret ⟨acc,by rw [List.take_length] at hr;exact hr,?_⟩))))
  show (_:Bool×List D)=(false,[_,_,_,_,.int .i64 (l.length:Int),_,.int .i64 (c+((0:Nat):Int)),_,_,_,_,_])
  rw [show c+((0:Nat):Int)=c from by omega,show (l.length:Int)=(i:Int) from by omega]
 |succ m ih=>
  intro j i c acc hm hj ht hi hc hq hr
  have hj':j<ms.length:=by omega
  rw [List.drop_eq_getElem_cons hj',Ze] at ht hi
  rw [List.drop_eq_getElem_cons hj'] at hq ⊢
  have hq:c+((qM ms[j]+sQ qM (ms.drop (j+1)):Nat):Int)≤4000:=hq
  obtain⟨h1,h2⟩:=C7.1 ht
  obtain⟨hlen,hx,hne⟩:=h
  have hjn:j<nms.length:=by omega
  obtain⟨hxm,hg⟩:=hx j hj' hjn
  have Mo:=Ed hl hg hxm h1 c 0 0 0 hc (by omega)
  have hwl:1≤(wM ms[j]).length:=by
   obtain⟨ps,qs,its,e,_⟩:=hxm
   rw [e]
   show 1≤([(1,uT),(1,nms[j])]++_:List Tk).length
   simp only [Xx,Xw,Xy];omega
  rw [Xx] at hi
  have hacc:acc.length=j:=by have:=hr.1;rw [Zc] at this;omega
  refine U.eq (fun n=>rF n _ _ _ _ _ _ _ _ _ _ _ _) (U.Xu rfl (G4 (fun n=>hG.eq_1 n _ _ _ _ _ _ _ _ _ _ _ _ _) (U.Xu (Zi (by omega)) (U.no (Zn.2 (by omega)) (G4 (fun n=>lX.eq_1 n _ _ _ _ _ _ _ _ _ _ _ _) (U.A0 Mo ?_))))))
  rintro _ ds ⟨y,hy,h0⟩;cases h0
  have hO:=hy
  have hnm:∃ i2 j2 l2 ps2 qs2 its2,y=AM nms[j] i2 j2 l2 ps2 qs2 its2:=by
   obtain⟨ps,qs,its,e,_⟩:=hxm
   obtain⟨nm',i2,j2,l2,ps',qs',its',ps2,qs2,its2,e',rfl,_⟩:=hy
   rw [e] at e'
   cases e'
   exact⟨_,_,_,_,_,_,rfl⟩
  obtain⟨i2,j2,l2,ps2,qs2,its2,rfl⟩:=hnm
  have hno:Xi nms[j] acc:=by
   intro r hrr
   have hrj:r<(ms.take j).length:=by rw [hr.1];exact hrr
   have hO2:=hr.2 r hrj hrr
   rw [List.getElem_take] at hO2
   have hrm:r<ms.length:=by rw [Zc] at hrj;omega
   obtain⟨⟨ps,qs,its,e,_⟩,_⟩:=hx r hrm (by omega)
   obtain⟨nm',i3,j3,l3,ps',qs',its',ps3,qs3,its3,e',ey,_⟩:=hO2
   rw [e] at e'
   cases e'
   exact⟨_,_,_,_,_,_,_,ey,hne r j (by omega) hjn (by omega)⟩
  refine⟨rfl,U.Xu rfl (U.A0 (Ho (by omega) hno i2 j2 l2 ps2 qs2 its2) ?_)⟩
  intro _ ds h0;cases h0
  refine⟨rfl,U.Xu rfl (U.no rfl (U.Xu (Yc (by show acc.length+1≤D8;simp only [D8];omega)) ?_))⟩
  have hr2:Rl OM (ms.take (j+1)) (acc++[AM nms[j] i2 j2 l2 ps2 qs2 its2]):=by
   rw [List.take_succ_eq_append_getElem hj']
   exact hr.snoc hO
  have K:=ih (j+1) (i+(wM ms[j]).length) (c+(qM ms[j]:Int)) _ (by omega) (by omega) h2 (by omega) (by omega) (by omega) hr2
  refine K.mono fun r ⟨ys,g1,g2⟩=>⟨ys,g1,?_⟩
  rw [g2]
  show (_:Bool×List D)=(false,[_,_,_,_,_,_,.int .i64 (c+((qM ms[j]+sQ qM (ms.drop (j+1)):Nat):Int)),_,_,_,_,_])
  rw [show c+(qM ms[j]:Int)+(sQ qM (ms.drop (j+1)):Int)=c+((qM ms[j]+sQ qM (ms.drop (j+1)):Nat):Int) from by omega]
theorem Uw {nms:List Zt}{ms:List D}(h:Ti nms ms):sQ qM ms≤(ms.flatMap wM).length:=by
 refine HV fun x hx=>?_
 obtain⟨k,hk,rfl⟩:=List.getElem_of_mem hx
 obtain⟨⟨ps,qs,its,e,_,_,_,_,_,hI⟩,_⟩:=h.2.1 k hk (by rw [h.1];exact hk)
 rw [e]
 have h1:sQ (qI 4) its≤(its.flatMap (wI 4)).length:=HV fun x hx=>Pm 4 x (hI x hx)
 show sQ (qI 4) its≤(mW _ ps qs its).length
 unfold mW
 simp only [Xx];omega
theorem Dp {l:List D}(hl:l.length≤1000000){nms:List Zt}{ms:List D}(hn:ms.length≤6)(h:Ti nms ms)(ht:C4 l 0 (ms.flatMap wM))(hll:(ms.flatMap wM).length=l.length)(hq:sQ qM ms≤4000) :
  U (fun n=>fO n (.Z 5 l)) fun r=>∃ ys,Rl OM ms ys∧r=(true,[.agg [.int .i64 0,.int .i64 0,.int .i64 0],.int .i64 0,.Z 7 ys]):=by
 refine U.eq (fun n=>MC n l) (U.D4 (Np hl hn h ms.length 0 0 0 [] (by omega) (by omega) ht (by rw [List.drop_zero];omega) (by omega) (by rw [List.drop_zero];omega) Rl.nil) (fun ds h=>by obtain⟨_,_,h⟩:=h;cases h) fun ds h=>?_)
 obtain⟨ys,hy,h⟩:=h
 cases h
 exact U.Xu rfl (U.no rfl (U.ret ⟨ys,hy,rfl⟩))
def Lj (ts:List D):Prop:=∀ y∈ts,∃ (k:Int) (t:Zt) (a b c:Int),y = .agg [.int .i64 k,.str t,.int .i64 a,.int .i64 b,.int .i64 c]
def xV (R:Option (Int×Int×Int×Int))(out ts:List D):Bool×List D:=match R with
 |none=>(true,[.agg [.int .i64 0,.int .i64 0,.int .i64 0],.int .i64 0,.Z 5 (out++ts)])
 |some (a,b,c,e)=>(true,[.agg [.int .i64 a,.int .i64 b,.int .i64 c],.int .i64 e,.Z 5 []])
def Sf (t:Zt)(p0 p1 p2:Int)(fx:Bool):D:= .agg [.str t,.int .i64 p0,.int .i64 p1,.int .i64 p2,.bool fx]
def Xm (L:Nat)(y:D):Prop:=∃ (t:Zt) (p0 p1 p2:Int) (fx:Bool),y=Sf t p0 p1 p2 fx∧t.length≤L
abbrev PR:=Option (Int×Int×Int×Int)×List D
def Lh (y:D)(p:PR):Prop:=Lj p.2∧p.2.length≤300∧(∀ a b c e,p.1=some (a,b,c,e)→e≠0)∧∀ out:List D,out.length+300≤12000→U (fun n=>jG n y (.Z 5 out)) fun r=>r=xV p.1 out p.2
inductive Px:List D→List PR→Prop
 |nil:Px [] []
 |cons {y p ys ps}:Xm 300 y→Lh y p→Px ys ps→Px (y::ys) (p::ps)
def W5 (b:UInt8):Bool:=decide (0≤dP b [32,9,13,10] 0)
theorem dW {b:UInt8}(h:W5 b=true):b=32∨b=9∨b=13∨b=10:=by
 have h:0≤dP b [32,9,13,10] 0:=Zj h
 simp only [dP] at h
 cases h1:(32:UInt8)==b with
 |true=>exact .inl (by simpa using h1:(32:UInt8)=b).symm
 |false=>
  cases h2:(9:UInt8)==b with
  |true=>exact .inr (.inl (by simpa using h2:(9:UInt8)=b).symm)
  |false=>
   cases h3:(13:UInt8)==b with
   |true=>exact .inr (.inr (.inl (by simpa using h3:(13:UInt8)=b).symm))
   |false=>
    cases h4:(10:UInt8)==b with
    |true=>exact .inr (.inr (.inr (by simpa using h4:(10:UInt8)=b).symm))
    |false=>rw [h1,h2,h3,h4] at h;exact absurd h (by decide)
def Ft (p:Int×Int)(b:UInt8):Int×Int:=bif ((b.toNat:Int)==10) then (p.1+1,1) else (p.1,p.2+1)
def mv (p:Int×Int)(s:Zt):Int×Int:=s.foldl Ft p
def Room (p:Int×Int)(m:Nat):Prop:=1≤p.1∧1≤p.2∧p.1+m≤1000000∧p.2+m≤1000000
theorem XB {p:Int×Int}{m:Nat}(h:Room p (m+1))(b:UInt8):Room (Ft p b) m:=by
 obtain⟨h1,h2,h3,h4⟩:=h
 unfold Ft
 cases ((b.toNat:Int)==10)
 ·exact⟨h1,by show 1≤p.2+1;omega,by show p.1+(m:Int)≤1000000;omega,by show p.2+1+(m:Int)≤1000000;omega⟩
 ·exact⟨by show 1≤p.1+1;omega,by show (1:Int)≤1;omega,by show p.1+1+(m:Int)≤1000000;omega,by show 1+(m:Int)≤1000000;omega⟩
theorem TJ:∀ {s:Zt} {p:Int×Int} {m:Nat},Room p (m+s.length)→Room (mv p s) m
 |[],_,_,h=>h
 |b::s,p,m,h=>TJ (s:=s) (XB (m:=m+s.length) h b)
inductive We:Int×Int→Zt→List D→Prop
 |nil {p s}:(∀ b∈s,W5 b=true)→We p s []
 |cons {p k bl w rest ts}:(∀ b∈bl,W5 b=true)→w≠[]→We (mv (mv p bl) w) rest ts→
   We p (bl++(w++rest)) (.agg [.int .i64 k,.str w,.int .i64 1,.int .i64 (mv p bl).1,.int .i64 (mv p bl).2]::ts)
theorem byte_back (b:UInt8):((b.toNat:Int)).toNat.toUInt8=b:=by
 rw [Zf];exact UInt8.ofNat_toNat
theorem DK {s:Zt}{j:Nat}(h:j<s.length):s[((j:Nat):Int).toNat]?.getD 0=s[j]:=by
 rw [Zf,Ym h];rfl
theorem Cz (b:UInt8):U (fun n=>iS n (.int .u8 (b.toNat:Int))) fun r=>r=(true,[.bool (W5 b)]):=by
 refine U.eq (fun n=>LN n _) (U.A0 (oX _ _) ?_)
 rw [byte_back]
 intro _ _ h;cases h;exact⟨rfl,U.Xu rfl (U.ret rfl)⟩
theorem Jb (f:Int){p:Int×Int}{s:Zt}(hr:Room p s.length):U (fun n=>nX n (.agg [.int .i64 f,.int .i64 p.1,.int .i64 p.2]) (.str s)) fun r=>r=(true,[.agg [.int .i64 f,.int .i64 (mv p s).1,.int .i64 (mv p s).2]]):=by
 refine U.eq (fun n=>VU n f p.1 p.2 s) ?_
 have hsl:s.length≤1000000:=by obtain⟨r1,r2,r3,r4⟩:=hr;omega
 have loop:∀ (m j:Nat) (q:Int×Int),s.length-j=m→j≤s.length→Room q m→
   U (fun n=>cV n (.str s) (s.length:Int) (j:Int) f (.int .i64 q.1) (.int .i64 q.2) (0:Int) (0:Int) (0:Int)) fun r=>∃ j':Int,r=(false,[.str s,.int .i64 (s.length:Int),.int .i64 j',.int .i64 f,.int .i64 (mv q (s.drop j)).1,.int .i64 (mv q (s.drop j)).2,.int .i64 0,.int .i64 0,.int .i64 0]):=by
  intro m
  induction m with
  |zero=>
   intro j q hm hj hr
   refine U.eq (fun n=>xA n _ _ _ _ _ _ _ _ _) (U.no (Zk (by omega)) (U.ret ⟨(j:Int),?_⟩))
   rw [Yz (by omega)];rfl
  |succ m ih=>
   intro j q hm hj hr
   have hj2:j<s.length:=by omega
   have hw:IntKind.i64.wrap ((j:Int)+1)=((j+1:Nat):Int):=H7 (by omega)
   have hr':=hr
   obtain⟨r1,r2,r3,r4⟩:=hr'
   refine U.eq (fun n=>xA n _ _ _ _ _ _ _ _ _) (U.Xu (Zi (by omega)) (U.Xu (G9 hj2) ?_))
   rw [DK hj2,hw,drop_cons hj2,J0 (x:=q.1+1) (by omega) (by omega),J0 (x:=q.2+1) (by omega) (by omega)]
   have hn:=ih (j+1) (Ft q s[j]) (by omega) hj2 (XB hr _)
   refine U.Xv (fun h=>?_) fun h=>?_
   ·have e:Ft q s[j]=(q.1+1,1):=by unfold Ft;rw [h];rfl
    have hn2:=hn
    rw [e] at hn2
    show U _ fun r=>∃ j':Int,r=(false,[.str s,.int .i64 (s.length:Int),.int .i64 j',.int .i64 f,.int .i64 (mv (Ft q s[j]) (s.drop (j+1))).1,.int .i64 (mv (Ft q s[j]) (s.drop (j+1))).2,.int .i64 0,.int .i64 0,.int .i64 0])
    rw [e];exact hn2
   ·have e:Ft q s[j]=(q.1,q.2+1):=by unfold Ft;rw [h];rfl
    have hn2:=hn
    rw [e] at hn2
    show U _ fun r=>∃ j':Int,r=(false,[.str s,.int .i64 (s.length:Int),.int .i64 j',.int .i64 f,.int .i64 (mv (Ft q s[j]) (s.drop (j+1))).1,.int .i64 (mv (Ft q s[j]) (s.drop (j+1))).2,.int .i64 0,.int .i64 0,.int .i64 0])
    rw [e];exact hn2
 refine U.D4 (loop s.length 0 p rfl (Yo _) hr) (fun ds h=>by obtain⟨_,h⟩:=h;cases h) fun ds h=>?_
 obtain⟨j',h⟩:=h
 cases h
 exact U.Xu rfl (U.ret rfl)
theorem ML {s:Zt}{k:Nat}(hk:k≤s.length)(x:Zt)(p0 p1 p2 f:Int){q:Int×Int}(hr:Room q s.length) :
  U (fun n=>Z6 n (k:Int) (.str x) p0 p1 p2 (.bool false) f (.int .i64 q.1) (.int .i64 q.2) (.str s)) fun r=>
   r=(true,[.str x,.int .i64 p0,.int .i64 p1,.int .i64 p2,.bool false,.int .i64 f,.int .i64 (mv q (s.take k)).1,.int .i64 (mv q (s.take k)).2,.str (s.drop k)]):=by
 have hc:(decide ((0:Int)≤(k:Int))&&decide ((k:Int)≤(s.length:Int))&&decide ((s.length:Int)≤(s.length:Int)))=true:=C6 (C6 (Zi (by omega)) (Zi (by omega))) (Zi (Int.le_refl _))
 refine U.eq (fun n=>LM n _ _ _ _ _ _ _ _ _ _) (U.Xu rfl ?_)
 simp only [Zf,KM,List.drop_zero,Nat.sub_zero]
 refine U.Xu (C6 (C6 rfl (Zi (by omega))) (Zi (by omega))) (U.A0 (Jb f (p:=q) (s:=s.take k) ?_) ?_)
 ·obtain⟨r1,r2,r3,r4⟩:=hr
  refine⟨r1,r2,?_,?_⟩<;>simp only [Zc]<;>omega
 ·intro _ _ h;cases h
  exact⟨rfl,U.Xu rfl (U.Xu hc (U.ret rfl))⟩
def IN (b:UInt8):Bool:=bif decide ((b.toNat:Int)≥97) then (bif decide ((b.toNat:Int)≤122) then true else (bif decide ((b.toNat:Int)≥65) then (bif decide ((b.toNat:Int)≤90) then true else ((b.toNat:Int)==95)) else ((b.toNat:Int)==95))) else (bif decide ((b.toNat:Int)≥65) then (bif decide ((b.toNat:Int)≤90) then true else ((b.toNat:Int)==95)) else ((b.toNat:Int)==95))
def FL (b:UInt8):Bool:=bif decide ((b.toNat:Int)≥48) then decide ((b.toNat:Int)≤57) else false
def p2 (b:UInt8):Bool:=bif IN b then true else FL b
def p3 (b:UInt8):Bool:=bif FL b then true else ((b.toNat:Int)==95)
def p4 (b:UInt8):Bool:=bif FL b then true else IN b
theorem DX (b:UInt8):U (fun n=>cA n (.int .u8 (b.toNat:Int))) fun r=>r=(true,[.bool (IN b)]):=by
 refine U.eq (fun n=>zU n _) ?_
 unfold IN
 refine U.Xv (fun h1=>U.Xv (fun h2=>?_) fun h2=>U.Xv (fun h3=>U.Xv (fun h4=>?_) fun h4=>?_) fun h3=>?_) fun h1=>U.Xv (fun h3=>U.Xv (fun h4=>?_) fun h4=>?_) fun h3=>?_
 all_goals (refine U.ret ?_;simp only [*,cond_true,cond_false])
theorem DB (b:UInt8):U (fun n=>bV n (.int .u8 (b.toNat:Int))) fun r=>r=(true,[.bool (FL b)]):=by
 refine U.eq (fun n=>DY n _) ?_
 unfold FL
 refine U.Xv (fun h1=>?_) fun h1=>?_
 all_goals (refine U.ret ?_;simp only [*,cond_true,cond_false])
theorem Sa (b:UInt8):U (fun n=>iV n (.int .u8 (b.toNat:Int))) fun r=>r=(true,[.bool (p2 b)]):=by
 refine U.eq (fun n=>zZ n _) (U.A0 (DX b) ?_)
 unfold p2
 intro _ _ h;cases h;refine⟨rfl,U.Xu rfl (U.Xv (fun h=>U.ret ?_) fun h=>U.A0 (DB b) ?_)⟩
 ·have h:IN b=true:=h
  rw [h];rfl
 ·have h:IN b=false:=h
  rw [h]
  intro _ _ h;cases h;exact⟨rfl,U.Xu rfl (U.ret rfl)⟩
theorem Sb (b:UInt8):U (fun n=>eD n (.int .u8 (b.toNat:Int))) fun r=>r=(true,[.bool (p3 b)]):=by
 refine U.eq (fun n=>uP n _) (U.A0 (DB b) ?_)
 unfold p3
 intro _ _ h;cases h;refine⟨rfl,U.Xu rfl (U.Xv (fun h=>U.ret ?_) fun h=>U.ret ?_)⟩
 ·have h:FL b=true:=h
  rw [h];rfl
 ·have h:FL b=false:=h
  rw [h];rfl
theorem Sc (b:UInt8):U (fun n=>eE n (.int .u8 (b.toNat:Int))) fun r=>r=(true,[.bool (p4 b)]):=by
 refine U.eq (fun n=>uQ n _) (U.A0 (DB b) ?_)
 unfold p4
 intro _ _ h;cases h;refine⟨rfl,U.Xu rfl (U.Xv (fun h=>U.ret ?_) fun h=>U.A0 (DX b) ?_)⟩
 ·have h:FL b=true:=h
  rw [h];rfl
 ·have h:FL b=false:=h
  rw [h]
  intro _ _ h;cases h;exact⟨rfl,U.Xu rfl (U.ret rfl)⟩
def Q4 (p:UInt8→Bool)(s:Zt):Nat:=(s.takeWhile p).length
theorem qJ (p:UInt8→Bool)(s:Zt):Q4 p s≤s.length:=List.IsPrefix.length_le (List.takeWhile_prefix p)
theorem cC {p:UInt8→Bool}{b:UInt8}{s:Zt}:Q4 p (b::s)=bif p b then Q4 p s+1 else 0:=by
 unfold Q4
 rw [List.takeWhile_cons]
 cases p b<;>simp
theorem Er {s:Zt}(hs:s.length≤1048576):U (fun n=>Z1 n (.str s)) fun r=>r=(true,[.int .i64 (Q4 p2 s:Int)]):=by
 refine U.eq (fun n=>zW n s) ?_
 have loop:∀ (m j:Nat),s.length-j=m→j≤s.length→
   U (fun n=>aA n (.str s) (j:Int)) fun r=>r=(false,[.str s,.int .i64 ((j+Q4 p2 (s.drop j):Nat):Int)]):=by
  intro m
  induction m with
  |zero=>
   intro j hm hj
   refine U.eq (fun n=>jH n _ _) (U.no (Zk (by omega)) (U.ret ?_))
   rw [Yz (by omega)];rfl
  |succ m ih=>
   intro j hm hj
   have hj2:j<s.length:=by omega
   have hw:IntKind.i64.wrap ((j:Int)+1)=((j+1:Nat):Int):=H7 (by omega)
   refine U.eq (fun n=>jH n _ _) (U.Xu (Zi (by omega)) (U.Xu (G9 hj2) ?_))
   rw [DK hj2,hw,drop_cons hj2,cC]
   refine U.A0 (Sa _) ?_
   intro _ _ h;cases h
   refine⟨rfl,U.Xu rfl ?_⟩
   cases hB:p2 s[j] with
   |true=>
    refine (ih (j+1) (by omega) hj2).mono fun r hr=>?_
    rw [hr,show j+1+Q4 p2 (s.drop (j+1))=j+(Q4 p2 (s.drop (j+1))+1) by omega];rfl
   |false=>exact U.ret rfl
 refine U.D4 (loop s.length 0 rfl (Yo _)) (fun ds h=>by cases h) fun ds h=>?_
 cases h
 exact U.Xu rfl (U.ret (by simp [Y,D.i]))
theorem Et {s:Zt}(hs:s.length≤1048576):U (fun n=>gE n (.str s)) fun r=>r=(true,[.int .i64 (Q4 p3 s:Int)]):=by
 refine U.eq (fun n=>zX n s) ?_
 have loop:∀ (m j:Nat),s.length-j=m→j≤s.length→
   U (fun n=>aB n (.str s) (j:Int)) fun r=>r=(false,[.str s,.int .i64 ((j+Q4 p3 (s.drop j):Nat):Int)]):=by
  intro m
  induction m with
  |zero=>
   intro j hm hj
   refine U.eq (fun n=>jI n _ _) (U.no (Zk (by omega)) (U.ret ?_))
   rw [Yz (by omega)];rfl
  |succ m ih=>
   intro j hm hj
   have hj2:j<s.length:=by omega
   have hw:IntKind.i64.wrap ((j:Int)+1)=((j+1:Nat):Int):=H7 (by omega)
   refine U.eq (fun n=>jI n _ _) (U.Xu (Zi (by omega)) (U.Xu (G9 hj2) ?_))
   rw [DK hj2,hw,drop_cons hj2,cC]
   refine U.A0 (Sb _) ?_
   intro _ _ h;cases h
   refine⟨rfl,U.Xu rfl ?_⟩
   cases hB:p3 s[j] with
   |true=>
    refine (ih (j+1) (by omega) hj2).mono fun r hr=>?_
    rw [hr,show j+1+Q4 p3 (s.drop (j+1))=j+(Q4 p3 (s.drop (j+1))+1) by omega];rfl
   |false=>exact U.ret rfl
 refine U.D4 (loop s.length 0 rfl (Yo _)) (fun ds h=>by cases h) fun ds h=>?_
 cases h
 exact U.Xu rfl (U.ret (by simp [Y,D.i]))
theorem Ew {s:Zt}(hs:s.length≤1048576):U (fun n=>gG n (.str s)) fun r=>r=(true,[.int .i64 (Q4 p4 s:Int)]):=by
 refine U.eq (fun n=>zY n s) ?_
 have loop:∀ (m j:Nat),s.length-j=m→j≤s.length→
   U (fun n=>aC n (.str s) (j:Int)) fun r=>r=(false,[.str s,.int .i64 ((j+Q4 p4 (s.drop j):Nat):Int)]):=by
  intro m
  induction m with
  |zero=>
   intro j hm hj
   refine U.eq (fun n=>jJ n _ _) (U.no (Zk (by omega)) (U.ret ?_))
   rw [Yz (by omega)];rfl
  |succ m ih=>
   intro j hm hj
   have hj2:j<s.length:=by omega
   have hw:IntKind.i64.wrap ((j:Int)+1)=((j+1:Nat):Int):=H7 (by omega)
   refine U.eq (fun n=>jJ n _ _) (U.Xu (Zi (by omega)) (U.Xu (G9 hj2) ?_))
   rw [DK hj2,hw,drop_cons hj2,cC]
   refine U.A0 (Sc _) ?_
   intro _ _ h;cases h
   refine⟨rfl,U.Xu rfl ?_⟩
   cases hB:p4 s[j] with
   |true=>
    refine (ih (j+1) (by omega) hj2).mono fun r hr=>?_
    rw [hr,show j+1+Q4 p4 (s.drop (j+1))=j+(Q4 p4 (s.drop (j+1))+1) by omega];rfl
   |false=>exact U.ret rfl
 refine U.D4 (loop s.length 0 rfl (Yo _)) (fun ds h=>by cases h) fun ds h=>?_
 cases h
 exact U.Xu rfl (U.ret (by simp [Y,D.i]))
theorem Cc {s:Zt}(hs:s.length≤1048576):U (fun n=>nY n (.str s)) fun r=>r=(true,[.int .i64 (Q4 W5 s:Int)]):=by
 refine U.eq (fun n=>VW n s) ?_
 have loop:∀ (m j:Nat),s.length-j=m→j≤s.length→
   U (fun n=>eF n (.str s) (j:Int)) fun r=>r=(false,[.str s,.int .i64 ((j+Q4 W5 (s.drop j):Nat):Int)]):=by
  intro m
  induction m with
  |zero=>
   intro j hm hj
   refine U.eq (fun n=>xB n _ _) (U.no (Zk (by omega)) (U.ret ?_))
   rw [Yz (by omega)];rfl
  |succ m ih=>
   intro j hm hj
   have hj2:j<s.length:=by omega
   have hw:IntKind.i64.wrap ((j:Int)+1)=((j+1:Nat):Int):=H7 (by omega)
   refine U.eq (fun n=>xB n _ _) (U.Xu (Zi (by omega)) (U.Xu (G9 hj2) ?_))
   rw [DK hj2,hw,drop_cons hj2,cC]
   refine U.A0 (Cz _) ?_
   intro _ _ h;cases h
   refine⟨rfl,U.Xu rfl ?_⟩
   cases hB:W5 s[j] with
   |true=>
    refine (ih (j+1) (by omega) hj2).mono fun r hr=>?_
    rw [hr,show j+1+Q4 W5 (s.drop (j+1))=j+(Q4 W5 (s.drop (j+1))+1) by omega];rfl
   |false=>exact U.ret rfl
 refine U.D4 (loop s.length 0 rfl (Yo _)) (fun ds h=>by cases h) fun ds h=>?_
 cases h
 exact U.Xu rfl (U.ret (by simp [Y,D.i]))
def Lf (r:Zt):Prop:=∀ b t,r=b::t→W5 b=true
theorem Hz {p:UInt8→Bool}(hp:∀ b,W5 b=true→p b=false){r:Zt}(h:Lf r):Q4 p r=0:=by
 cases r with
 |nil=>rfl
 |cons b t=>rw [cC,hp b (h b t rfl)];rfl
theorem UQ (b:UInt8)(h:W5 b=true):p2 b=false:=by
 rcases dW h with rfl|rfl|rfl|rfl<;>rfl
theorem UR (b:UInt8)(h:W5 b=true):p3 b=false:=by
 rcases dW h with rfl|rfl|rfl|rfl<;>rfl
theorem US (b:UInt8)(h:W5 b=true):p4 b=false:=by
 rcases dW h with rfl|rfl|rfl|rfl<;>rfl
theorem pG {p:UInt8→Bool}:∀ {w r:Zt},(∀ b∈w,p b=true)→Q4 p (w++r)=w.length+Q4 p r
 |[],r,_=>by simp
 |b::w,r,h=>by
  rw [List.cons_append,cC,h b (Yi ..),pG (w:=w) fun x hx=>h x (Yk _ hx)]
  simp only [cond_true,Xw];omega
theorem GO {p:UInt8→Bool}:∀ {w r:Zt},w.length≤Q4 p (w++r)→∀ b∈w,p b=true
 |[],_,_=>fun b hb=>by simp at hb
 |c::w,r,h=>by
  rw [List.cons_append,cC] at h
  cases hc:p c with
  |false=>rw [hc] at h;simp at h
  |true=>
   rw [hc] at h
   intro b hb
   rcases Yh.1 hb with rfl|hb
   ·exact hc
   ·exact GO (w:=w) (r:=r) (by simp only [cond_true,Xw] at h;omega) b hb
def tN (s:Zt):Nat:=match s.drop (Q4 p3 s) with
 |[]=>Q4 p3 s
 |b::t=>bif ((b.toNat:Int)==39) then Q4 p3 s+(1+Q4 p4 t) else Q4 p3 s
theorem Ef {s:Zt}(hs:s.length≤1048576):U (fun n=>aI n (.str s)) fun r=>r=(true,[.int .i64 (tN s:Int)]):=by
 refine U.eq (fun n=>zV n s) (U.A0 (Et hs) ?_)
 have hk:=qJ p3 s
 unfold tN
 generalize Q4 p3 s=k at hk
 intro _ _ h;cases h
 refine⟨rfl,U.Xu rfl (U.Xv (fun hl=>?_) fun hl=>?_)⟩
 ·have hl:k<s.length:=by have:=Zj hl;simp only [Y,D.i,List.getD_cons_zero] at this;omega
  have hw:IntKind.i64.wrap ((k:Int)+1)=((k+1:Nat):Int):=H7 (by omega)
  rw [drop_cons hl]
  simp only [Y,D.i,List.getD_cons_zero,hw,Zf,KM,Ym hl,Option.getD_some]
  refine U.Xu (G9 hl) ?_
  cases hq:((s[k].toNat:Int)==39) with
  |false=>exact U.ret rfl
  |true=>
   refine U.Xu rfl (U.Xu (C6 (C6 (Zi (by omega)) (Zi (by omega))) (Zi (Int.le_refl _))) (U.A0 (Ew (by simp;omega)) ?_))
   have h4:=qJ p4 (s.drop (k+1))
   simp only [Zs] at h4
   intro _ _ h;cases h
   refine⟨rfl,U.Xu rfl (U.ret ?_)⟩
   show (true,[D.int .i64 (IntKind.i64.wrap ((k:Int)+IntKind.i64.wrap (1+((Q4 p4 (s.drop (k+1)):Nat):Int))))])=(true,[D.int .i64 ((k+(1+Q4 p4 (s.drop (k+1))):Nat):Int)])
   rw [J0 (x:=1+((Q4 p4 (s.drop (k+1)):Nat):Int)) (by omega) (by omega),J0 (by omega) (by omega)]
   rfl
 ·have hl:¬ k<s.length:=by have:=Zl hl;simp only [Y,D.i,List.getD_cons_zero] at this;omega
  rw [Yz (by omega)]
  exact U.ret rfl
theorem XJ {p:UInt8→Bool}:∀ {w r0 r:Zt},Q4 p (w++r0)<w.length→Q4 p (w++r)=Q4 p (w++r0)
 |[],_,_,h=>by simp at h
 |c::w,r0,r,h=>by
  rw [List.cons_append,cC] at h
  rw [List.cons_append,List.cons_append,cC,cC]
  cases hc:p c with
  |false=>rfl
  |true=>
   rw [hc] at h
   have h:Q4 p (w++r0)+1<w.length+1:=h
   rw [XJ (w:=w) (r0:=r0) (r:=r) (by omega)]
theorem WN {w r0 r:Zt}(h:tN (w++r0)=w.length)(hr:Lf r):tN (w++r)=w.length:=by
 unfold tN at h
 by_cases hw:w.length≤Q4 p3 (w++r0)
 ·have ha:=GO hw
  have hs:Q4 p3 (w++r)=w.length:=by rw [pG ha,Hz UR hr];omega
  unfold tN
  rw [hs,List.drop_left]
  cases r with
  |nil=>rfl
  |cons b t=>
   have:((b.toNat:Int)==39)=false:=by rcases dW (hr b t rfl) with rfl|rfl|rfl|rfl<;>rfl
   simp only [this,cond_false]
 ·have hs:=XJ (r:=r) (show Q4 p3 (w++r0)<w.length by omega)
  unfold tN
  rw [hs]
  generalize Q4 p3 (w++r0)=k at h hw
  have hk:k<w.length:=by omega
  have hd:∀ x:Zt,(w++x).drop k=w[k]::(w.drop (k+1)++x):=fun x=>by
   rw [List.drop_append_of_le_length (by omega),drop_cons hk];rfl
  rw [hd] at h ⊢
  cases hq:((w[k].toNat:Int)==39) with
  |false=>simp only [hq,cond_false] at h;omega
  |true=>
   simp only [hq,cond_true] at h ⊢
   have hl:(w.drop (k+1)).length=w.length-(k+1):=Zs ..
   have ha:=GO (p:=p4) (w:=w.drop (k+1)) (r:=r0) (by omega)
   rw [pG ha,Hz US hr]
   omega
theorem LA {sub:Zt}:∀ (s:Zt) (j:Nat),0≤X9 sub s j→∀ c∈sub,c∈s
 |[],j,h=>by
  unfold X9 at h
  cases sub with
  |nil=>intro c hc;simp at hc
  |cons _ _=>simp at h
 |b::l,j,h=>by
  unfold X9 at h
  cases hp:sub.isPrefixOf (b::l) with
  |true=>intro c hc;exact (List.isPrefixOf_iff_prefix.1 hp).subset hc
  |false=>
   rw [hp] at h
   intro c hc
   exact Yk _ (LA l (j+1) h c hc)
def WC:Zt:=[32,60,60,60,32,62,62,62,32,60,60,32,62,62,32,60,61,32,62,61,32,61,61,32,33,61,32,38,38,32,124,124,32,126,38,32,126,124,32,126,94,32,94,126,32]
def dJ (t:Zt):Bool:=!decide (0≤X9 [32] t 0)&&decide (0≤X9 ([32]++t++[32]) WC 0)
theorem UP:∀ (s:Zt) (j:Nat),(32:UInt8)∈s→0≤X9 [32] s j
 |[],_,h=>by simp at h
 |b::l,j,h=>by
  unfold X9
  cases hp:[(32:UInt8)].isPrefixOf (b::l) with
  |true=>exact Int.natCast_nonneg _
  |false=>
   rcases Yh.1 h with rfl|h
   ·simp at hp
   ·exact UP l (j+1) h
theorem rA {t:Zt}{b:UInt8}(hb:b∈t)(h:W5 b=true):dJ t=false:=by
 unfold dJ
 rcases dW h with rfl|rfl|rfl|rfl
 ·rw [Zi (UP t 0 hb)];rfl
 all_goals
  cases hd:decide (0≤X9 ([32]++t++[32]) WC 0) with
  |false=>simp
  |true=>
   have:=LA WC 0 (Zj hd) _ (Yf _ (Ye _ hb))
   simp [WC] at this
def xH (b:UInt8):Bool:=decide (dP b [43,45,42,47,37,38,124,94,126,33,60,62,63,58,61,40,41,91,93,123,125,59,44,46,35,64] 0≥0)
def U5 (s:Zt):Nat→Nat
 |0=>0
 |1=>0
 |j+2=>bif dJ (s.take (j+2)) then j+2 else U5 s (j+1)
def gO (s:Zt):Nat:=match U5 s (min 3 s.length) with
 |0=>bif xH (s.headD 0) then 1 else 0
 |k+1=>k+1
theorem HW {s:Zt}(hs:s.length≤1048576):∀ (j:Nat),j≤s.length→U (fun n=>bR n (.str s) (j:Int)) fun r=>(U5 s j≠0∧r=(true,[.int .i64 (U5 s j:Int)]))∨(U5 s j=0∧∃ j',r=(false,[.str s,.int .i64 j']))
 |0,_=>U.eq (fun n=>iU n _ _) (U.no rfl (U.ret (.inr ⟨rfl,_,rfl⟩)))
 |1,_=>U.eq (fun n=>iU n _ _) (U.no rfl (U.ret (.inr ⟨rfl,_,rfl⟩)))
 |j+2,hj=>by
  have ih:=HW hs (j+1) (by omega)
  have hw:IntKind.i64.wrap (((j+2:Nat):Int)-1)=((j+1:Nat):Int):=by rw [J0 (by omega) (by omega)];omega
  have hc:(true&&decide ((0:Int)≤((j+2:Nat):Int))&&decide (((j+2:Nat):Int)≤(s.length:Int)))=true:=C6 (C6 rfl (Zi (by omega))) (Zi (by omega))
  have ht:(s.drop 0).take (((j+2:Nat):Int).toNat-0)=s.take (j+2):=by rw [List.drop_zero,Zf,Nat.sub_zero]
  have hl:(s.take (j+2)).length≤1048576:=by rw [Zc];omega
  refine U.eq (fun n=>iU n _ _) (U.Xu (Zi (by omega)) ?_)
  rw [ht,hw]
  refine U.Xu hc (U.A0 (fN (by omega) _) ?_)
  intro _ _ h;cases h
  refine⟨rfl,U.Xu rfl ?_⟩
  unfold U5 dJ
  cases h1:decide (0≤X9 [32] (s.take (j+2)) 0) with
  |true=>exact U.no rfl ih
  |false=>
   refine U.Xu rfl (U.Xu hc (U.Xu (Zi (by simp only [S6];omega)) (U.Xu (Zi (by simp [S6];omega)) (U.A0 (fN (by simp) _) ?_))))
   intro _ _ h;cases h
   refine⟨rfl,U.Xu rfl ?_⟩
   cases h2:decide (0≤X9 ([32]++s.take (j+2)++[32]) WC 0) with
   |true=>exact U.Xu h2 (U.ret (.inl ⟨by simp,rfl⟩))
   |false=>exact U.no h2 ih
theorem Nz {s:Zt}(hs:s.length≤1048576)(h0:0<s.length):U (fun n=>lR n (.str s)) fun r=>r=(true,[.int .i64 (gO s:Int)]):=by
 refine U.eq (fun n=>HM n s) ?_
 have hm:min (3:Int) (s.length:Int)=((min 3 s.length:Nat):Int):=by omega
 rw [hm]
 unfold gO
 refine U.D4 (HW hs (min 3 s.length) (by omega)) (fun ds h=>?_) fun ds h=>?_
 ·rcases h with ⟨h1,h2⟩|⟨_,_,h⟩
  ·cases hd:U5 s (min 3 s.length) with
   |zero=>exact absurd hd h1
   |succ k=>rw [hd] at h2;exact h2
  ·cases h
 ·rcases h with ⟨_,h⟩|⟨h1,_,h⟩
  ·cases h
  ·cases h
   rw [h1]
   cases s with
   |nil=>simp at h0
   |cons b s=>
    refine U.Xu rfl (U.Xu (C6 rfl (Zi (by show (0:Int)<((b::s).length:Int);omega))) (U.A0 (oX _ _) ?_))
    show ∀ x ds,_=(true,[D.int .i64 (dP ((b.toNat:Int)).toNat.toUInt8 _ 0)])→_
    rw [byte_back]
    intro _ _ h;cases h
    refine⟨rfl,U.Xu rfl ?_⟩
    cases h2:xH b with
    |true=>exact U.Xu h2 (U.ret (by simp [h2]))
    |false=>exact U.no h2 (U.ret (by simp [h2]))
theorem uE (s:Zt):∀ j,U5 s j≠1∧U5 s j≤j
 |0=>⟨by simp [U5],by simp [U5]⟩
 |1=>⟨by simp [U5],by simp [U5]⟩
 |j+2=>by
  have ih:=uE s (j+1)
  unfold U5
  cases dJ (s.take (j+2)) with
  |true=>exact⟨by simp,by simp⟩
  |false=>exact⟨ih.1,by have:=ih.2;show U5 s (j+1)≤j+2;omega⟩
theorem QL {a:UInt8}{r0 r:Zt}(h:gO (a::r0)=1)(hr:Lf r):gO (a::r)=1:=by
 have h1:xH a=true:=by
  unfold gO at h
  have:=uE (a::r0) (min 3 (a::r0).length)
  cases hd:U5 (a::r0) (min 3 (a::r0).length) with
  |zero=>
   rw [hd] at h
   cases ho:xH a with
   |true=>rfl
   |false=>simp [ho] at h
  |succ k=>
   rw [hd] at h this
   have h:k+1=1:=h
   exact absurd h this.1
 have hd:U5 (a::r) (min 3 (a::r).length)=0:=by
  cases r with
  |nil=>rfl
  |cons x r=>
   have hx:=hr x r rfl
   have e2:dJ [a,x]=false:=rA (b:=x) (by simp) hx
   cases r with
   |nil=>
    show (bif dJ [a,x] then 2 else 0)=0
    rw [e2];rfl
   |cons y r=>
    have e3:dJ [a,x,y]=false:=rA (b:=x) (by simp) hx
    have:min 3 (a::x::y::r).length=3:=by simp only [Xw];omega
    rw [this]
    show (bif dJ [a,x,y] then 3 else (bif dJ [a,x] then 2 else 0))=0
    rw [e3,e2];rfl
 unfold gO
 rw [hd]
 simp [h1]
theorem QM {a b:UInt8}{r0 r:Zt}(h:gO (a::b::r0)=2)(hr:Lf r):gO (a::b::r)=2:=by
 have hl:dJ [a,b]=true:=by
  cases ho:dJ [a,b] with
  |true=>rfl
  |false=>
   exfalso
   unfold gO at h
   cases r0 with
   |nil=>
    have e:U5 [a,b] (min 3 [a,b].length)=0:=by
     show (bif dJ [a,b] then 2 else 0)=0
     rw [ho];rfl
    rw [e] at h
    have h:(bif xH a then 1 else 0)=2:=h
    revert h;cases xH a<;>decide
   |cons c r0=>
    have hm:min 3 (a::b::c::r0).length=3:=by simp only [Xw];omega
    have e:U5 (a::b::c::r0) 3=(bif dJ [a,b,c] then 3 else (bif dJ [a,b] then 2 else 0)):=rfl
    rw [hm,e,ho] at h
    cases h3:dJ [a,b,c] with
    |true=>rw [h3] at h;exact absurd (show 3=2 from h) (by decide)
    |false=>
     rw [h3] at h
     have h:(bif xH a then 1 else 0)=2:=h
     revert h;cases xH a<;>decide
 unfold gO
 cases r with
 |nil=>
  have e:U5 [a,b] (min 3 [a,b].length)=2:=by
   show (bif dJ [a,b] then 2 else 0)=2
   rw [hl];rfl
  rw [e]
 |cons x r=>
  have hm:min 3 (a::b::x::r).length=3:=by simp only [Xw];omega
  have e:U5 (a::b::x::r) 3=(bif dJ [a,b,x] then 3 else (bif dJ [a,b] then 2 else 0)):=rfl
  rw [hm,e,hl,rA (t:=[a,b,x]) (b:=x) (by simp) (hr x r rfl)]
  rfl
theorem HY {a b c:UInt8}{r0 r:Zt}(h:gO (a::b::c::r0)=3):gO (a::b::c::r)=3:=by
 have hm:∀ t:Zt,min 3 (a::b::c::t).length=3:=fun t=>by simp only [Xw];omega
 have e:∀ t:Zt,U5 (a::b::c::t) 3=(bif dJ [a,b,c] then 3 else (bif dJ [a,b] then 2 else 0)):=fun _=>rfl
 unfold gO at h ⊢
 rw [hm,e] at h ⊢
 exact h
def VO (c:UInt8):Bool:=bif IN c then true else ((c.toNat:Int)==36)
def Ik (c:UInt8):Bool:=bif FL c then true else ((c.toNat:Int)==39)
def WL (s:Zt)(n:Nat):List D:=bif decide ((n:Int)>40) then [.int .i64 0,.int .i64 0,.int .i64 9] else (bif s.take n==[36] then [.int .i64 0,.int .i64 0,.int .i64 9] else [.int .i64 1,.int .i64 (n:Int),.int .i64 0])
theorem RJ (c:UInt8)(t:Zt):(true&&decide ((0:Int)<((c::t).length:Int)))=true:=C6 rfl (Zi (by simp only [Xw];omega))
theorem QP {c:UInt8}{t:Zt}(hs:(c::t).length≤1048576)(hc:VO c=true):U (fun n=>dG n (.str (c::t))) fun r=>r=(true,WL (c::t) (1+Q4 p2 t)):=by
 have hle:=qJ p2 t
 have htl:t.length≤1048576:=by simp only [Xw] at hs;omega
 have hd:((c::t).drop 1).take (((c::t).length:Int).toNat-1)=t:=by
  show t.take _=t
  rw [List.take_of_length_le (by simp only [Xw];omega)]
 have name:U (fun n=>bif (true&&decide ((1:Int)≤((c::t).length:Int))&&decide (((c::t).length:Int)≤((c::t).length:Int))) then (AE.A0 (Z1 n (.str (((c::t).drop 1).take (((c::t).length:Int).toNat-1)))) fun r2=>bif B7 Z1.B2 r2 then (bif (decide ((IntKind.i64.wrap ((1:Int)+(Y r2 0).i))>(40:Int))) then (some (true,[(0:Int),(0:Int),(9:Int)])) else (bif (true&&decide ((0:Int)≤(IntKind.i64.wrap ((1:Int)+(Y r2 0).i)))&&decide ((IntKind.i64.wrap ((1:Int)+(Y r2 0).i))≤((c::t).length:Int))) then (bif ((((c::t).drop 0).take ((IntKind.i64.wrap ((1:Int)+(Y r2 0).i)).toNat-0))==([36]:Zt)) then (some (true,[(0:Int),(0:Int),(9:Int)])) else (some (true,[(1:Int),(.int .i64 (IntKind.i64.wrap ((1:Int)+(Y r2 0).i))),(0:Int)]))) else none)) else none) else none) fun r=>r=(true,WL (c::t) (1+Q4 p2 t)):=by
  rw [hd]
  refine U.Xu (EN (by simp)) (U.A0 (Er htl) ?_)
  intro _ _ h;cases h
  have hw:IntKind.i64.wrap ((1:Int)+((Q4 p2 t:Nat):Int))=((1+Q4 p2 t:Nat):Int):=by rw [J0 (by omega) (by omega)];omega
  simp only [Y,D.i,List.getD_cons_zero,hw,Zf,List.drop_zero,Nat.sub_zero]
  refine⟨trivial,U.Xu rfl ?_⟩
  unfold WL
  cases h1:decide (((1+Q4 p2 t:Nat):Int)>40) with
  |true=>exact U.Xu rfl (U.ret rfl)
  |false=>
   refine U.no rfl (U.Xu (C6 (C6 rfl (Zi (by omega))) (Zi (by simp only [Xw];omega))) ?_)
   cases h2:(c::t).take (1+Q4 p2 t)==[36] with
   |true=>exact U.Xu rfl (U.ret rfl)
   |false=>exact U.no rfl (U.ret rfl)
 refine U.eq (fun n=>qZ n (c::t)) (U.Xu (RJ c t) (U.A0 (DX c) ?_))
 intro _ _ h;cases h
 refine⟨rfl,U.Xu rfl (U.Xv (fun _=>name) fun h1=>U.Xv (fun _=>name) fun h2=>?_)⟩
 exfalso
 have h1:IN c=false:=h1
 have h2:((c.toNat:Int)==36)=false:=h2
 unfold VO at hc
 rw [h1,h2] at hc
 cases hc
theorem XQ {c:UInt8}{t:Zt}(hs:(c::t).length≤1048576)(hc:VO c=false)(hn:Ik c=true)(hle:tN (c::t)≤(c::t).length){x:D}{e:Int}(hp:U (fun n=>bC n (.str ((c::t).take (tN (c::t))))) fun r=>r=(true,[x,.int .i64 e]))(hx:∃ w ws b1 b2,x = .agg [.int .i64 w,.Z 1 ws,.bool b1,.bool b2]) :
  U (fun n=>dG n (.str (c::t))) fun r=>r=(true,bif (e !=0) then [.int .i64 0,.int .i64 0,.int .i64 7] else [.int .i64 2,.int .i64 (tN (c::t):Int),.int .i64 0]):=by
 obtain⟨w,ws,b1,b2,rfl⟩:=hx
 have num:U (fun n=>AE.A0 (aI n (.str (c::t))) fun r3=>bif B7 aI.B2 r3 then (bif (true&&decide ((0:Int)≤(Y r3 0).i)&&decide ((Y r3 0).i≤((c::t).length:Int))) then (AE.A0 (bC n (.str (((c::t).drop 0).take ((Y r3 0).i.toNat-0)))) fun r4=>bif B7 bC.B2 r4 then (bif ((Y r4 1).i !=(0:Int)) then (some (true,[(0:Int),(0:Int),(7:Int)])) else (some (true,[(2:Int),(.int .i64 (Y r3 0).i),(0:Int)]))) else none) else none) else none) fun r=>r=(true,bif (e !=0) then [.int .i64 0,.int .i64 0,.int .i64 7] else [.int .i64 2,.int .i64 (tN (c::t):Int),.int .i64 0]):=by
  refine U.A0 (Ef hs) ?_
  generalize tN (c::t)=k at hp hle
  intro _ _ h;cases h
  simp only [Y,D.i,List.getD_cons_zero,Zf,List.drop_zero,Nat.sub_zero]
  refine⟨trivial,U.Xu rfl (U.Xu (C6 (C6 rfl (Zi (by omega))) (Zi (by omega))) (U.A0 hp ?_))⟩
  intro _ _ h;cases h
  refine⟨rfl,U.Xu rfl ?_⟩
  cases he:e !=0 with
  |true=>exact U.Xu he (U.ret rfl)
  |false=>exact U.no he (U.ret rfl)
 unfold VO at hc
 have h1:IN c=false:=by cases h:IN c with|false=>rfl|true=>rw [h] at hc;cases hc
 have h2:((c.toNat:Int)==36)=false:=by rw [h1] at hc;exact hc
 refine U.eq (fun n=>qZ n (c::t)) (U.Xu (RJ c t) (U.A0 (DX c) ?_))
 intro _ _ h;cases h
 refine⟨rfl,U.Xu rfl (U.no h1 (U.no h2 (U.A0 (DB c) ?_)))⟩
 intro _ _ h;cases h
 refine⟨rfl,U.Xu rfl (U.Xv (fun _=>num) fun h3=>U.Xv (fun _=>num) fun h4=>?_)⟩
 exfalso
 have h3:FL c=false:=h3
 have h4:((c.toNat:Int)==39)=false:=h4
 unfold Ik at hn
 rw [h3,h4] at hn
 cases hn
theorem QQ {c:UInt8}{t:Zt}(hs:(c::t).length≤1048576)(hc:VO c=false)(hn:Ik c=false) :
  U (fun n=>dG n (.str (c::t))) fun r=>r=(true,bif ((gO (c::t):Int)==0) then [.int .i64 0,.int .i64 0,.int .i64 7] else [.int .i64 3,.int .i64 (gO (c::t):Int),.int .i64 0]):=by
 unfold VO at hc
 have h1:IN c=false:=by cases h:IN c with|false=>rfl|true=>rw [h] at hc;cases hc
 have h2:((c.toNat:Int)==36)=false:=by rw [h1] at hc;exact hc
 unfold Ik at hn
 have h3:FL c=false:=by cases h:FL c with|false=>rfl|true=>rw [h] at hn;cases hn
 have h4:((c.toNat:Int)==39)=false:=by rw [h3] at hn;exact hn
 refine U.eq (fun n=>qZ n (c::t)) (U.Xu (RJ c t) (U.A0 (DX c) ?_))
 intro _ _ h;cases h
 refine⟨rfl,U.Xu rfl (U.no h1 (U.no h2 (U.A0 (DB c) ?_)))⟩
 intro _ _ h;cases h
 refine⟨rfl,U.Xu rfl (U.no h3 (U.no h4 (U.A0 (Nz hs (by simp)) ?_)))⟩
 intro _ _ h;cases h
 refine⟨rfl,U.Xu rfl ?_⟩
 cases h5:((gO (c::t):Int)==0) with
 |true=>exact U.Xu h5 (U.ret rfl)
 |false=>exact U.no h5 (U.ret rfl)
structure Wd (w:Zt) (k:Int):Prop where
 ne:w≠[]
 nb:∀ b∈w,W5 b=false
 go:∀ r,Lf r→(w++r).length≤1048576→U (fun n=>dG n (.str (w++r))) fun x=>x=(true,[.int .i64 k,.int .i64 (w.length:Int),.int .i64 0])
theorem PY {p:UInt8→Bool}(hp:∀ b,W5 b=true→p b=false){b:UInt8}(h:p b=true):W5 b=false:=by
 cases hb:W5 b with
 |false=>rfl
 |true=>rw [hp b hb] at h;cases h
theorem uG (p:UInt8→Bool):∀ (t:Zt),∀ b∈t.take (Q4 p t),p b=true
 |[]=>fun b hb=>by simp at hb
 |c::t=>by
  rw [cC]
  cases hc:p c with
  |false=>intro b hb;simp at hb
  |true=>
   intro b hb
   rcases Yh.1 (show b∈c::t.take (Q4 p t) from hb) with rfl|hb
   ·exact hc
   ·exact uG p t b hb
theorem Hc (b:UInt8)(h:W5 b=true):VO b=false:=by
 rcases dW h with rfl|rfl|rfl|rfl<;>rfl
theorem Lp (b:UInt8)(h:W5 b=true):((b.toNat:Int)==39)=false:=by
 rcases dW h with rfl|rfl|rfl|rfl<;>rfl
theorem Da (b:UInt8)(h:W5 b=true):xH b=false:=by
 rcases dW h with rfl|rfl|rfl|rfl<;>rfl
theorem Bq (s:Zt):tN s≤s.length:=by
 unfold tN
 have h1:=qJ p3 s
 generalize Q4 p3 s=k at h1
 cases hd:s.drop k with
 |nil=>exact h1
 |cons b t=>
  have hl:t.length+1=s.length-k:=by have:=congrArg List.length hd;simpa using this.symm
  have h4:=qJ p4 t
  cases hq:((b.toNat:Int)==39) with
  |false=>simp only [hq,cond_false];exact h1
  |true=>simp only [hq,cond_true];omega
theorem Mx (s:Zt):∀ b∈s.take (tN s),W5 b=false:=by
 have h0:∀ b∈s.take (Q4 p3 s),W5 b=false:=fun b hb=>PY UR (uG p3 s b hb)
 unfold tN
 have h1:=qJ p3 s
 generalize Q4 p3 s=k at h0 h1
 cases hd:s.drop k with
 |nil=>exact h0
 |cons b t=>
  cases hq:((b.toNat:Int)==39) with
  |false=>simp only [hq,cond_false];exact h0
  |true=>
   simp only [hq,cond_true]
   intro x hx
   rw [← List.take_append_drop k s,hd,List.take_append] at hx
   rcases Yy.1 hx with hx|hx
   ·rw [List.take_of_length_le (by simp;omega)] at hx;exact h0 x hx
   ·rw [Zc,Nat.min_eq_left h1,show k+(1+Q4 p4 t)-k=Q4 p4 t+1 by omega,List.take_succ_cons] at hx
    rcases Yh.1 hx with rfl|hx
    ·exact PY (p:=fun b=>(b.toNat:Int)==39) Lp hq
    ·exact PY US (uG p4 t x hx)
theorem U.agree {t:Nat→Out}{a b:Bool×List D}(h:U t fun r=>r=a)(h':U t fun r=>r=b):a=b:=by
 obtain⟨r,⟨h1,h2⟩,_⟩:=(h.same h').run
 exact h1.symm.trans h2
theorem XF {a:UInt8}{r0:Zt}(h:gO (a::r0)=1):xH a=true:=by
 have h:=QL (r:=[]) h (fun _ _ h=>by cases h)
 have e:gO [a]=(bif xH a then 1 else 0):=rfl
 rw [e] at h
 cases ho:xH a with
 |true=>rfl
 |false=>rw [ho] at h;cases h
theorem XG {a b:UInt8}{r0:Zt}(h:gO (a::b::r0)=2):dJ [a,b]=true:=by
 have h:=QM (r:=[]) h (fun _ _ h=>by cases h)
 cases hl:dJ [a,b] with
 |true=>rfl
 |false=>
  exfalso
  have e:U5 [a,b] (min 3 [a,b].length)=0:=by
   show (bif dJ [a,b] then 2 else 0)=0
   rw [hl];rfl
  unfold gO at h
  rw [e] at h
  have h:(bif xH a then 1 else 0)=2:=h
  revert h;cases xH a<;>decide
theorem OJ {a b c:UInt8}{r0:Zt}(h:gO (a::b::c::r0)=3):dJ [a,b,c]=true:=by
 have h:=HY (r:=[]) h
 cases hl:dJ [a,b,c] with
 |true=>rfl
 |false=>
  exfalso
  have e:U5 [a,b,c] (min 3 [a,b,c].length)=(bif dJ [a,b] then 2 else 0):=by
   show (bif dJ [a,b,c] then 3 else (bif dJ [a,b] then 2 else 0))=_
   rw [hl];rfl
  unfold gO at h
  rw [e] at h
  cases h2:dJ [a,b] with
  |true=>rw [h2] at h;exact absurd (show 2=3 from h) (by decide)
  |false=>
   rw [h2] at h
   have h:(bif xH a then 1 else 0)=3:=h
   revert h;cases xH a<;>decide
theorem WB {w:Zt}(h:dJ w=true):∀ b∈w,W5 b=false:=fun b hb=>by
 cases hx:W5 b with
 |false=>rfl
 |true=>rw [rA hb hx] at h;cases h
theorem XR {c:UInt8}{t:Zt}(hs:(c::t).length≤1048576){k:Int}{m:Nat}(h:U (fun n=>dG n (.str (c::t))) fun r=>r=(true,[.int .i64 k,.int .i64 (m:Int),.int .i64 0])) :
  1≤m∧m≤(c::t).length∧Wd ((c::t).take m) k:=by
 have hm:1≤m∧m≤(c::t).length:=by
  obtain⟨r,⟨h1,k',m',e',h2,h3,h4⟩,_⟩:=(h.same (Oe hs (by simp))).run
  rw [h1] at h2
  simp only [Ys,List.cons.injEq,D.int.injEq,true_and,and_true,Int.natCast_inj] at h2
  obtain⟨_,rfl,rfl⟩:=h2
  exact⟨h4 rfl,h3⟩
 refine⟨hm.1,hm.2,?_⟩
 obtain⟨hm1,hm2⟩:=hm
 cases hc:VO c with
 |true=>
  have ha:=U.agree h (QP hs hc)
  unfold WL at ha
  have hq:=uG p2 t
  have hql:=qJ p2 t
  generalize Q4 p2 t=q at ha hq hql
  cases h1:decide (((1+q:Nat):Int)>40) with
  |true=>rw [h1] at ha;simp at ha
  |false=>
   rw [h1] at ha
   cases h2:(c::t).take (1+q)==[36] with
   |true=>rw [h2] at ha;simp at ha
   |false=>
    rw [h2] at ha
    simp only [cond_false,Ys,List.cons.injEq,D.int.injEq,true_and,and_true,Int.natCast_inj] at ha
    obtain⟨rfl,rfl⟩:=ha
    have e:(c::t).take (1+q)=c::t.take q:=by rw [Nat.add_comm,List.take_succ_cons]
    rw [e] at h2 ⊢
    have hl:(t.take q).length=q:=by rw [Zc];omega
    refine⟨by simp,fun b hb=>?_,fun r hr hb=>?_⟩
    ·rcases Yh.1 hb with rfl|hb
     ·exact PY Hc hc
     ·exact PY UQ (hq b hb)
    ·refine (QP (c:=c) (t:=t.take q++r) hb hc).mono fun x hx=>?_
     rw [hx,pG hq,Hz UQ hr,hl]
     unfold WL
     have e2:(c::(t.take q++r)).take (1+(q+0))=c::t.take q:=by
      rw [Nat.add_zero,Nat.add_comm,List.take_succ_cons,List.take_append_of_le_length (by omega),List.take_of_length_le (by omega)]
     rw [e2,h2,Nat.add_zero,h1]
     simp only [cond_false,Xw,hl,Nat.add_comm]
 |false=>
  obtain⟨w,hw⟩:∃ w,(c::t).take m=c::w:=⟨t.take (m-1),by cases m with|zero=>omega|succ m=>rfl⟩
  have hwl:(c::w).length=m:=by rw [← hw,Zc];omega
  have happ:(c::w)++(c::t).drop m=c::t:=by rw [← hw,List.take_append_drop]
  rw [hw]
  cases hn:Ik c with
  |true=>
   have hle:=Bq (c::t)
   obtain⟨r,hr,hp⟩:=Ua (WY (s:=(c::t).take (tN (c::t))) (by rw [Zc];omega))
   obtain⟨w',ws,b1,b2,e,rfl,_⟩:=hr
   have ha:=U.agree h (XQ hs hc hn hle hp ⟨w',ws,b1,b2,rfl⟩)
   cases he:e !=0 with
   |true=>rw [he] at ha;simp at ha
   |false=>
    rw [he] at ha
    simp only [cond_false,Ys,List.cons.injEq,D.int.injEq,true_and,and_true,Int.natCast_inj] at ha
    obtain⟨rfl,hmn⟩:=ha
    rw [← hmn,hw] at hp
    refine⟨by simp,fun b hb=>Mx (c::t) b (by rw [← hmn,hw];exact hb),fun r hr hb=>?_⟩
    have hs2:tN (c::w++r)=(c::w).length:=WN (r0:=(c::t).drop m) (by rw [happ,← hmn,hwl]) hr
    have hs2:tN (c::(w++r))=(c::w).length:=hs2
    have htk:(c::(w++r)).take (c::w).length=c::w:=List.take_left (l₁:=c::w)
    refine (XQ (c:=c) (t:=w++r) hb hc hn (Bq _) (by rw [hs2,htk];exact hp) ⟨w',ws,b1,b2,rfl⟩).mono fun x hx=>?_
    rw [hx,he,hs2];rfl
  |false=>
   have ha:=U.agree h (QQ hs hc hn)
   cases he:((gO (c::t):Int)==0) with
   |true=>rw [he] at ha;simp at ha
   |false=>
    rw [he] at ha
    simp only [cond_false,Ys,List.cons.injEq,D.int.injEq,true_and,and_true,Int.natCast_inj] at ha
    obtain⟨rfl,hmn⟩:=ha
    have h3:m≤3:=by
     have h1:=uE (c::t) (min 3 (c::t).length)
     rw [hmn]
     unfold gO
     cases hd:U5 (c::t) (min 3 (c::t).length) with
     |zero=>cases xH ((c::t).headD 0)<;>simp
     |succ k=>rw [hd] at h1;simp only;omega
    rw [← happ] at hmn
    generalize (c::t).drop m=r0 at hmn
    have key:(∀ b∈c::w,W5 b=false)∧∀ r,Lf r→gO (c::(w++r))=m:=by
     cases w with
     |nil=>
      have:m=1:=hwl.symm
      subst this
      exact⟨fun b hb=>by rw [Yn.1 hb];exact PY Da (XF hmn.symm),fun r hr=>QL hmn.symm hr⟩
     |cons b w=>
      cases w with
      |nil=>
       have:m=2:=hwl.symm
       subst this
       exact⟨WB (XG hmn.symm),fun r hr=>QM hmn.symm hr⟩
      |cons d w=>
       cases w with
       |nil=>
        have:m=3:=hwl.symm
        subst this
        exact⟨WB (OJ hmn.symm),fun r hr=>HY hmn.symm⟩
       |cons _ _=>simp only [Xw] at hwl;omega
    refine⟨by simp,key.1,fun r hr hb=>?_⟩
    refine (QQ (c:=c) (t:=w++r) hb hc hn).mono fun x hx=>?_
    rw [hx,key.2 r hr,hwl]
    have:((m:Int)==0)=false:=by simp;omega
    rw [this];rfl
def Fg (k:Int)(w:Zt)(a b c:Int):D:= .agg [.int .i64 k,.str w,.int .i64 a,.int .i64 b,.int .i64 c]
def OQ (ts:List D):Prop:=∀ y∈ts,∃ (k:Int) (w:Zt) (a b c:Int),y=Fg k w a b c∧Wd w k
theorem OQ.append {a b:List D}(ha:OQ a)(hb:OQ b):OQ (a++b):=fun y hy=>(Yy.1 hy).elim (ha y) (hb y)
theorem OQ.nil:OQ []:=fun y hy=>by simp at hy
def TS (a b c e:Int)(all:List D):Bool×List D:=(true,[.agg [.int .i64 a,.int .i64 b,.int .i64 c],.int .i64 e,.Z 5 all])
inductive Fx:Int×Int→Zt→List D→Prop
 |nil {p}:Fx p [] []
 |cons {p k bl w rest ts}:(∀ b∈bl,W5 b=true)→Wd w k→Lf rest→Fx (mv (mv p bl) w) rest ts→Fx p (bl++(w++rest)) (Fg k w 1 (mv p bl).1 (mv p bl).2::ts)
theorem Kd {w rest:Zt}{k:Int}(h:Wd w k):Q4 W5 (w++rest)=0:=by
 cases w with
 |nil=>exact absurd rfl h.ne
 |cons b w=>rw [List.cons_append,cC,h.nb b (Yi ..)];rfl
def words (ts:List D):List Zt:=ts.map fun y=>(y.at_ 1).s
end Go.Proofs.YtalibicpmfbieaaGreatDoor
