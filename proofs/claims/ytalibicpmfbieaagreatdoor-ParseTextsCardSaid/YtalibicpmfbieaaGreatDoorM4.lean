import Derived.Test.YtalibicpmfbieaaGreatDoorM3
import Derived.Test.YtalibicpmfbieaaGreatDoorM2
import Derived.Test.YtalibicpmfbieaaGreatDoorM1
namespace Go.Proofs.YtalibicpmfbieaaGreatDoor
open Go.AE
set_option linter.unusedVariables false
set_option linter.unusedSimpArgs false
section
def Th (fs:List D):List Tk:=bif fs.isEmpty then [] else [(3,[61])]++wE 4 (x0 fs)
def nR (nm ty:Zt)(sg:Bool)(es fs:List D):List Tk:=(bif sg&&!(ty==eZ) then [(1,lD)] else [])++(mM (es.take 2)++([(1,nm)]++(mM (es.drop 2)++Th fs)))
theorem Mr (nm ty:Zt)(sg:Bool)(es fs:List D):nW nm ty sg es fs=(bif ty==Y2 then [(1,kO),(1,iF)] else [(1,ty)])++nR nm ty sg es fs:=rfl
theorem Mw:(Z7.all fun t=>([[91],lD,[35],[40],[41]]:List Zt).all fun w=>!(t==w))=true:=by kernel_rfl
theorem Pf {t w:Zt}(h:t∈Z7)(hw:w∈([[91],lD,[35],[40],[41]]:List Zt)):(t==w&&(1:Int) !=2)=false:=by
 have:=Yg.1 (Yg.1 Mw t h) w hw
 rw [Zd] at this
 rw [this];rfl
section
variable {l:List D} (hl:l.length≤1000000)
include hl
theorem FG {es:List D}(h2:es.length=0∨es.length=2)(he:∀ e∈es,bS 4 e){i:Nat}(ht:C4 l i (mM es)){k:Int}{t:Zt}{a b e:Int}(hn:l[i+(mM es).length]? = some (tk k t a b e))(hc:(t==[91]&&k !=2)=false)(d c p0 p1 p2:Int)(hd:0≤d)(hd2:d≤32) :
  U (fun n=>M6 n (.Z 5 l) (i:Int) d c p0 p1 p2 (0:Int)) fun r=>∃ es',fL es es'∧r=(true,[.Z 5 l,.int .i64 ((i+(mM es).length:Nat):Int),.int .i64 d,.int .i64 c,.int .i64 p0,.int .i64 p1,.int .i64 p2,.int .i64 0,.Z 6 es']):=by
 match es,h2,he,ht,hn with
 |[],_,_,_,hn=>
  have hn:l[i]? = some (tk k t a b e):=hn
  refine U.eq (fun n=>lZ n l i d c p0 p1 p2 0) (U.A0 (C1 (d:=d) (c:=c) (p0:=p0) (p1:=p1) (p2:=p2) hn hc) ?_)
  (intro _ ds h0;cases h0;refine⟨rfl,U.Xu rfl ?_⟩)
  exact U.Xu rfl (U.ret ⟨[],fL.nil,rfl⟩)
 |[x,y],_,he,ht,_=>
  have hx:=he x (by simp)
  have hy:=he y (by simp)
  have ht:C4 l i ((3,[91])::(wE 4 x++((3,[58])::(wE 4 y++[(3,[93])])))):=ht
  obtain⟨a1,b1,e1,h1⟩:=C2 ht
  obtain⟨h3,h4⟩:=C7.1 (D0 ht)
  obtain⟨a4,b4,e4,g4⟩:=C2 h4
  obtain⟨h5,h6⟩:=C7.1 (D0 h4)
  obtain⟨a6,b6,e6,g6⟩:=C2 h6
  have eL:i+(mM [x,y]).length=i+1+(wE 4 x).length+1+(wE 4 y).length+1:=by
   show i+([(3,[91])]++(wE 4 x++([(3,[58])]++(wE 4 y++[(3,[93])]))):List Tk).length=_
   simp only [Xx,Xw,Xy];omega
  refine U.eq (fun n=>lZ n l i d c p0 p1 p2 0) (U.A0 (F8 (d:=d) (c:=c) (p0:=p0) (p1:=p1) (p2:=p2) hl h1 rfl) ?_)
  (intro _ ds h0;cases h0;refine⟨rfl,U.Xu rfl ?_⟩)
  refine U.no rfl (U.A0 (wO hl hx h3 g4 rfl d c p0 p1 p2 hd hd2) ?_)
  rintro _ ds ⟨u,hu,h0⟩;cases h0
  have hu0:=hu
  obtain⟨k7,t7,r7,a7,b7,e7,s7,_,rfl⟩:=Y7 hu
  refine⟨rfl,U.Xu rfl (U.A0 (G6 (d:=d) (c:=c) (p0:=p0) (p1:=p1) (p2:=p2) hl [[58]] (by decide) (H8 g4 rfl)) ?_)⟩
  (intro _ ds h0;cases h0;refine⟨rfl,U.Xu rfl ?_⟩)
  refine U.A0 (wO hl hy h5 g6 rfl d c p0 p1 p2 hd hd2) ?_
  rintro _ ds ⟨w,hw,h0⟩;cases h0
  have hw0:=hw
  obtain⟨k8,t8,r8,a8,b8,e8,s8,_,rfl⟩:=Y7 hw
  refine⟨rfl,U.Xu rfl (U.A0 (G6 (d:=d) (c:=c) (p0:=p0) (p1:=p1) (p2:=p2) hl [[93]] (by decide) (H8 g6 rfl)) ?_)⟩
  (intro _ ds h0;cases h0;refine⟨rfl,U.Xu rfl ?_⟩)
  refine U.ret ⟨_,fL.two hx hy hu0 hw0,?_⟩
  rw [eL]
  rfl
theorem LS {T:NT}(hT:∀ p∈T,p.1∈([ID,iF,eZ,MZ,kO,Y2]:List Zt)∧(p.2.2=true→p.1=iF∨p.1=Y2)∧(p.1=iF∨p.2.1≤2)∧(p.1=eZ→p.2.1=0∧p.2.2=false))
  {nm ty:Zt} {q:Nat} {f sg:Bool} {es fs:List D} (hn:nm∈Z7) (hm:(ty,q,f)∈T) (hi:ty=eZ→sg=true) (hq:es.length≤q) (hes:es.length=0∨es.length=2∨es.length=4) (hfs:fs=[]∨(f=true∧fs.length=1∧es.length≤2)) (he:∀ e∈es,bS 4 e) (hf:∀ e∈fs,bS 4 e)
  {i:Nat} (ht:C4 l i (nR nm ty sg es fs)) {t:Zt} {a b e:Int} (hcl:l[i+(nR nm ty sg es fs).length]? = some (tk 3 t a b e)) (hc:cl t=true) (q0 q1 q2 d c p0 p1 p2:Int) (hd:0≤d) (hd2:d≤32) :
  U (fun n=>O0 n (.agg [.int .i64 q0,.int .i64 q1,.int .i64 q2]) (.str ty) (.Z 5 l) (i:Int) d c p0 p1 p2 (0:Int)) fun r=>∃ es' fs',fL es es'∧fL fs fs'∧r=(true,[AJ 1 q0 q1 q2 nm ty sg es' fs' [] [] [] [] [],.Z 5 l,.int .i64 ((i+(nR nm ty sg es fs).length:Nat):Int),.int .i64 d,.int .i64 c,.int .i64 p0,.int .i64 p1,.int .i64 p2,.int .i64 0]):=by
 obtain⟨hty,hff,hqq,hii⟩:=hT _ hm
 have hg:=mX (rO hn)
 by_cases hint:ty=eZ
 ·subst hint
  obtain⟨rfl,rfl⟩:=hii rfl
  have hsg:=hi rfl
  subst hsg
  have:es=[]:=Zh.1 (by omega)
  subst this
  have:fs=[]:=by rcases hfs with h|⟨h,_⟩;exact h;cases h
  subst this
  have ht:C4 l i [(1,nm)]:=ht
  obtain⟨a1,b1,e1,h1⟩:=C2 ht
  refine U.eq (fun n=>oR n q0 q1 q2 eZ l i d c p0 p1 p2 0) (U.no rfl (U.A0 (gJ (d:=d) (c:=c) (p0:=p0) (p1:=p1) (p2:=p2) hl h1 hg) ?_))
  (intro _ ds h0;cases h0;refine⟨rfl,U.Xu rfl ?_⟩)
  exact U.no rfl (U.no rfl (U.no rfl (U.ret ⟨[],[],fL.nil,fL.nil,rfl⟩)))
 have hni:(ty==eZ)=false:=Zn.2 hint
 have eR:nR nm ty sg es fs=(bif sg then [(1,lD)] else [])++(mM (es.take 2)++([(1,nm)]++(mM (es.drop 2)++Th fs))):=by
  unfold nR;rw [hni,Bool.not_false,Bool.and_true]
 have hes1:(es.take 2).length=0∨(es.take 2).length=2:=by rw [Zc];omega
 have hes2:(es.drop 2).length=0∨(es.drop 2).length=2:=by rw [Zs];omega
 have he1:∀ e∈es.take 2,bS 4 e:=fun e h=>he e (List.mem_of_mem_take h)
 have he2:∀ e∈es.drop 2,bS 4 e:=fun e h=>he e (List.mem_of_mem_drop h)
 have fin:∀ (j:Nat),C4 l j (Th fs)→j+(Th fs).length=i+(nR nm ty sg es fs).length→U (fun n=>A8 n (.str [61]) (.Z 5 l) (j:Int) d c p0 p1 p2 (0:Int)) fun r=>(fs=[]∧r=(true,[.bool false,.Z 5 l,.int .i64 ((i+(nR nm ty sg es fs).length:Nat):Int),.int .i64 d,.int .i64 c,.int .i64 p0,.int .i64 p1,.int .i64 p2,.int .i64 0]))∨(∃ x,fs=[x]∧bS 4 x∧r=(true,[.bool true,.Z 5 l,.int .i64 ((j+1:Nat):Int),.int .i64 d,.int .i64 c,.int .i64 p0,.int .i64 p1,.int .i64 p2,.int .i64 0])∧U (fun n=>B3 n (.Z 5 l) ((j+1:Nat):Int) d c p0 p1 p2 (0:Int)) fun r=>∃ y,OE 4 x y∧r=(true,[y,.Z 5 l,.int .i64 ((i+(nR nm ty sg es fs).length:Nat):Int),.int .i64 d,.int .i64 c,.int .i64 p0,.int .i64 p1,.int .i64 p2,.int .i64 0])):=by
  intro j hj ej
  have hfl:fs.length≤1:=by rcases hfs with rfl|⟨_,h,_⟩;exact Yo _;omega
  match fs,hfl,hf,hj,ej,hcl with
  |[],_,_,_,ej,hcl=>
   have ej:j=i+(nR nm ty sg es []).length:=ej
   rw [← ej] at hcl ⊢
   exact (C1 (d:=d) (c:=c) (p0:=p0) (p1:=p1) (p2:=p2) hcl (Hk hc rfl 3)).mono fun r h=> .inl ⟨rfl,h⟩
  |[x],_,hf,hj,ej,hcl=>
   have hj:C4 l j ((3,[61])::wE 4 x):=hj
   have ej:j+(1+(wE 4 x).length)=i+(nR nm ty sg es [x]).length:=by
    rw [← ej];show _=j+([(3,[61])]++wE 4 x:List Tk).length
    simp only [Xx,Xw,Xy]
   obtain⟨a1,b1,e1,h1⟩:=C2 hj
   have hx:=hf x (by simp)
   have X:=wO hl hx (D0 hj) (ND hcl (by omega)) hc d c p0 p1 p2 hd hd2
   rw [show j+1+(wE 4 x).length=i+(nR nm ty sg es [x]).length from by omega] at X
   exact (F8 (d:=d) (c:=c) (p0:=p0) (p1:=p1) (p2:=p2) hl h1 rfl).mono fun r h=> .inr ⟨x,rfl,hx,h,X⟩
 rw [eR] at ht
 obtain⟨hs,ht⟩:=C7.1 ht
 obtain⟨hb1,ht⟩:=C7.1 ht
 have ht:=bI ht
 obtain⟨a1,b1,e1,h1⟩:=C2 ht
 obtain⟨hb2,hF⟩:=C7.1 (D0 ht)
 have sgl:((bif sg then [(1,lD)] else []):List Tk).length=(bif sg then 1 else 0):=by cases sg<;>rfl
 rw [sgl] at hb1 h1 hb2 hF
 have eL:i+(nR nm ty sg es fs).length=i+(bif sg then 1 else 0)+(mM (es.take 2)).length+1+(mM (es.drop 2)).length+(Th fs).length:=by
  rw [eR];simp only [Xx,sgl,Xw,Xy];omega
 have hS:U (fun n=>A8 n (.str lD) (.Z 5 l) (i:Int) d c p0 p1 p2 (0:Int)) fun r=>r=(true,[.bool sg,.Z 5 l,.int .i64 ((i+(bif sg then 1 else 0):Nat):Int),.int .i64 d,.int .i64 c,.int .i64 p0,.int .i64 p1,.int .i64 p2,.int .i64 0]):=by
  cases sg with
  |true=>
   obtain⟨a2,b2,e2,h2⟩:=C2 (show C4 l i [(1,lD)] from hs)
   exact F8 (d:=d) (c:=c) (p0:=p0) (p1:=p1) (p2:=p2) hl h2 rfl
  |false=>
   rcases hes1 with h0|h0
   ·have:es.take 2=[]:=Zh.1 h0
    rw [this] at h1
    exact C1 (d:=d) (c:=c) (p0:=p0) (p1:=p1) (p2:=p2) (show l[i]? = _ from h1) (Pf hn (by simp))
   ·match es.take 2,h0,hb1 with
    |[x,y],_,hb1=>
     obtain⟨a2,b2,e2,h2⟩:=C2 (show C4 l i ((3,[91])::_) from hb1)
     exact C1 (d:=d) (c:=c) (p0:=p0) (p1:=p1) (p2:=p2) h2 rfl
 have hB1:=FG hl hes1 he1 hb1 h1 (Pf hn (by simp)) d c p0 p1 p2 hd hd2
 have hN:=gJ (d:=d) (c:=c) (p0:=p0) (p1:=p1) (p2:=p2) hl h1 hg
 have hJ:∀ es1,fL (es.take 2) es1→es1.length=(es.take 2).length:=fun es1 h=>h.2.1.symm
 refine U.eq (fun n=>oR n q0 q1 q2 ty l i d c p0 p1 p2 0) (U.Xu (by show (!(ty==eZ))=true;rw [hni];rfl) (U.A0 hS ?_))
 (intro _ ds h0;cases h0;refine⟨rfl,U.Xu rfl ?_⟩)
 refine U.A0 hB1 ?_
 rintro _ ds ⟨es1,hE1,h0⟩;cases h0
 have hle1:=hJ es1 hE1
 refine⟨rfl,U.Xu rfl (U.A0 hN ?_)⟩
 (intro _ ds h0;cases h0;refine⟨rfl,U.Xu rfl ?_⟩)
 by_cases hreg:ty=iF
 ·subst hreg
  refine U.Xu rfl (U.Xv (fun hpos=>?_) fun hpos=>?_)
  ·have hpos:(es1.length:Int)>0:=Zj hpos
   have hnext:∃ k t a b e,l[i+(bif sg then 1 else 0)+(mM (es.take 2)).length+1+(mM (es.drop 2)).length]? = some (tk k t a b e)∧(t==[91]&&k !=2)=false:=by
    have hfl:fs.length≤1:=by rcases hfs with rfl|⟨_,h,_⟩;exact Yo _;omega
    match fs,hfl,hF,hcl,eL with
    |[],_,_,hcl,eL=>exact⟨3,t,a,b,e,ND hcl (by rw [eL];rfl),Hk hc rfl 3⟩
    |[x],_,hF,_,_=>
     obtain⟨a2,b2,e2,h2⟩:=C2 (show C4 l _ ((3,[61])::_) from hF)
     exact⟨3,[61],a2,b2,e2,h2,rfl⟩
   obtain⟨k9,t9,a9,b9,e9,g9,c9⟩:=hnext
   refine U.A0 (FG hl hes2 he2 hb2 g9 c9 d c p0 p1 p2 hd hd2) ?_
   rintro _ ds ⟨es2,hE2,h0⟩;cases h0
   have hle2:=hE2.2.1
   have hEE:fL es (es1++es2):=by
    refine⟨⟨by omega,he⟩,?_⟩
    have:=hE1.2.app hE2.2
    rwa [List.take_append_drop] at this
   have hlen:(es1++es2).length=es.length:=hEE.2.1.symm
   refine⟨rfl,U.Xu rfl (U.Xu (Yc (by show es1.length+es2.length≤D8;rw [← Xx,hlen];simp only [D8];omega)) (U.Xu rfl (U.Xv (fun h4=>?_) fun h4=>?_)))⟩
   ·refine U.A0 (fin _ hF (by rw [eL])) ?_
    rintro _ ds (⟨hf0,h0⟩|⟨x,hf0,hx,h0,X⟩)
    ·cases h0;subst hf0
     exact⟨rfl,U.Xu rfl (U.no rfl (U.ret ⟨es1++es2,[],hEE,fL.nil,rfl⟩))⟩
    ·cases h0
     refine⟨rfl,U.Xu rfl (U.Xu rfl (U.A0 X ?_))⟩
     rintro _ ds ⟨y,hy,h0⟩;cases h0
     have hy0:=hy
     obtain⟨k7,t7,r7,a7,b7,e7,s7,_,rfl⟩:=Y7 hy
     subst hf0
     exact⟨rfl,U.Xu rfl (U.ret ⟨es1++es2,_,hEE,fL.one hx hy0,rfl⟩)⟩
   ·have h4:=Zl h4
    have h4:¬ (((es1++es2).length:Int)<4):=h4
    have:fs=[]:=by
     rcases hfs with h|⟨_,_,h⟩
     ·exact h
     ·omega
    subst this
    refine U.ret ⟨es1++es2,[],hEE,fL.nil,?_⟩
    rw [eL];rfl
  ·have hpos:¬ ((es1.length:Int)>0):=Zl hpos
   have h10:es1=[]:=Zh.1 (by omega)
   have h00:es=[]:=Zh.1 (by rw [Zc] at hle1;omega)
   subst h10 h00
   refine U.Xu rfl (U.Xu rfl (U.A0 (fin _ hF (by rw [eL];rfl)) ?_))
   rintro _ ds (⟨hf0,h0⟩|⟨x,hf0,hx,h0,X⟩)
   ·cases h0;subst hf0
    exact⟨rfl,U.Xu rfl (U.no rfl (U.ret ⟨[],[],fL.nil,fL.nil,rfl⟩))⟩
   ·cases h0
    refine⟨rfl,U.Xu rfl (U.Xu rfl (U.A0 X ?_))⟩
    rintro _ ds ⟨y,hy,h0⟩;cases h0
    have hy0:=hy
    obtain⟨k7,t7,r7,a7,b7,e7,s7,_,rfl⟩:=Y7 hy
    subst hf0
    exact⟨rfl,U.Xu rfl (U.ret ⟨[],_,fL.nil,fL.one hx hy0,rfl⟩)⟩
 ·have hnr:(ty==iF)=false:=Zn.2 hreg
  have hq2:q≤2:=by rcases hqq with h|h;exact absurd h hreg;exact h
  have e0:es.drop 2=[]:=Yz (by omega)
  have et:es.take 2=es:=List.take_of_length_le (by omega)
  rw [et] at hE1
  have hle:es1.length=es.length:=hE1.2.1.symm
  rw [e0] at hF eL
  refine U.no hnr (U.no hnr (U.Xv (fun ho=>?_) fun ho=>?_))
  ·refine U.Xu (Zi (by show (es1.length:Int)<4;omega)) (U.A0 (fin _ hF (by rw [eL];rfl)) ?_)
   rintro _ ds (⟨hf0,h0⟩|⟨x,hf0,hx,h0,X⟩)
   ·cases h0;subst hf0
    exact⟨rfl,U.Xu rfl (U.no rfl (U.ret ⟨es1,[],hE1,fL.nil,rfl⟩))⟩
   ·cases h0
    refine⟨rfl,U.Xu rfl (U.Xu rfl (U.A0 X ?_))⟩
    rintro _ ds ⟨y,hy,h0⟩;cases h0
    have hy0:=hy
    obtain⟨k7,t7,r7,a7,b7,e7,s7,_,rfl⟩:=Y7 hy
    subst hf0
    exact⟨rfl,U.Xu rfl (U.ret ⟨es1,_,hE1,fL.one hx hy0,rfl⟩)⟩
  ·have hno:(ty==Y2)=false:=ho
   have:fs=[]:=by
    rcases hfs with h|⟨h,_⟩
    ·exact h
    ·rcases hff h with h|h
     ·exact absurd h hreg
     ·rw [show ty=Y2 from h] at hno;exact absurd hno (by decide)
   subst this
   refine U.ret ⟨es1,[],hE1,fL.nil,?_⟩
   rw [eL];rfl
theorem WX {nm ty:Zt}(hn:nm∈Z7){x:D}(hx:bS 4 x){i:Nat}(ht:C4 l i ([(1,nm),(3,[61])]++wE 4 x)){t:Zt}{a b e:Int}(hcl:l[i+(2+(wE 4 x).length)]? = some (tk 3 t a b e))(hc:cl t=true)(q0 q1 q2 d c p0 p1 p2:Int)(hd:0≤d)(hd2:d≤32) :
  U (fun n=>T6 n (.agg [.int .i64 q0,.int .i64 q1,.int .i64 q2]) (.str ty) (.Z 5 l) (i:Int) d c p0 p1 p2 (0:Int)) fun r=>∃ y,OE 4 x y∧r=(true,[AJ 2 q0 q1 q2 nm ty false [y] [] [] [] [] [] [],.Z 5 l,.int .i64 ((i+(2+(wE 4 x).length):Nat):Int),.int .i64 d,.int .i64 c,.int .i64 p0,.int .i64 p1,.int .i64 p2,.int .i64 0]):=by
 obtain⟨a1,b1,e1,h1⟩:=C2 ht
 obtain⟨a2,b2,e2,h2⟩:=C2 (D0 ht)
 have h3:C4 l (i+1+1) (wE 4 x):=D0 (D0 ht)
 have X:=wO hl hx h3 (ND hcl (by omega)) hc d c p0 p1 p2 hd hd2
 refine U.eq (fun n=>vF n q0 q1 q2 ty l i d c p0 p1 p2 0) (U.A0 (gJ (d:=d) (c:=c) (p0:=p0) (p1:=p1) (p2:=p2) hl h1 (mX (rO hn))) ?_)
 (intro _ ds h0;cases h0;refine⟨rfl,U.Xu rfl ?_⟩)
 refine U.A0 (G6 (d:=d) (c:=c) (p0:=p0) (p1:=p1) (p2:=p2) hl [[61]] (by decide) (H8 h2 rfl)) ?_
 (intro _ ds h0;cases h0;refine⟨rfl,U.Xu rfl ?_⟩)
 refine U.A0 X ?_
 rintro _ ds ⟨y,hy,h0⟩;cases h0
 have hy0:=hy
 obtain⟨k7,t7,r7,a7,b7,e7,s7,_,rfl⟩:=Y7 hy
 refine⟨rfl,U.Xu rfl (U.ret ⟨_,hy0,?_⟩)⟩
 rw [show i+(2+(wE 4 x).length)=i+1+1+(wE 4 x).length from by omega]
 rfl
def Fy (l:List D)(d c p0 p1 p2:Int)(zs:List D)(z:D):Prop:=∀ (i:Nat) (acc xs:List D),(∀ y∈z::zs,xC y)→C4 l i (lW cW (z::zs)++[(3,[41])])→(z::zs).length+acc.length≤100→Rl OC xs acc→
  U (fun n=>U8 n true l (i:Int) d c p0 p1 p2 0 acc) fun r=>∃ ys,Rl OC (xs++z::zs) ys∧r=(false,[.Z 5 l,.int .i64 ((i+(lW cW (z::zs)).length:Nat):Int),.int .i64 d,.int .i64 c,.int .i64 p0,.int .i64 p1,.int .i64 p2,.int .i64 0,.Z 5 ys])
set_option maxHeartbeats 1000000 in
theorem Av (d c p0 p1 p2:Int)(hd:0≤d)(hd2:d≤32)(zs:List D)(z:D)(hK:∀ z2 zs2,zs=z2::zs2→Fy l d c p0 p1 p2 zs2 z2):Fy l d c p0 p1 p2 zs z:=by
  intro i acc xs hz ht hn hr
  obtain⟨nm,es,ez,hnm,hle,he⟩:=hz z (Yi ..)
  subst ez
  have eC:cW (D.agg [.str nm,.Z 6 es])=[(3,[46]),(1,nm),(3,[40])]++(lW (wE 4) es++[(3,[41])]):=rfl
  have eCl:(cW (D.agg [.str nm,.Z 6 es])).length=4+(lW (wE 4) es).length:=by rw [eC];simp only [Xx,Xw,Xy];omega
  have hhead:∃ rest,lW cW (D.agg [.str nm,.Z 6 es]::zs)++[(3,[41])]=[(3,[46]),(1,nm),(3,[40])]++(lW (wE 4) es++((3,[41])::rest))∧rest=(match zs with|[]=>[(3,[41])]|z2::zs2=>(3,[44])::(lW cW (z2::zs2)++[(3,[41])])):=by
   cases zs with
   |nil=>exact⟨_,by show cW _++[(3,[41])]=_;rw [eC];simp,rfl⟩
   |cons z2 zs2=>exact⟨_,by show (cW _++((3,[44])::lW cW (z2::zs2)))++[(3,[41])]=_;rw [eC];simp,rfl⟩
  obtain⟨rest,h0,hrest⟩:=hhead
  rw [h0] at ht
  have ht:C4 l i ((3,[46])::(1,nm)::(3,[40])::(lW (wE 4) es++((3,[41])::rest))):=ht
  obtain⟨a1,b1,e1,h1⟩:=C2 ht
  obtain⟨a2,b2,e2,h2⟩:=C2 (D0 ht)
  obtain⟨a3,b3,e3,h3⟩:=C2 (D0 (D0 ht))
  obtain⟨hE,h4⟩:=C7.1 (D0 (D0 (D0 ht)))
  obtain⟨a4,b4,e4,g4⟩:=C2 h4
  have hR:=D0 h4
  have J2:∀ (es':List D) (r1 r3:List D),fL es es'→r1=[tk 3 [46] a1 b1 e1,.Z 5 l,.int .i64 (i:Int),.int .i64 d,.int .i64 c,.int .i64 p0,.int .i64 p1,.int .i64 p2,.int .i64 0]→r3=[.str nm,.Z 5 l,.int .i64 ((i+1+1:Nat):Int),.int .i64 d,.int .i64 c,.int .i64 p0,.int .i64 p1,.int .i64 p2,.int .i64 0]→
    U (fun n=>bL n l ((i+1+1+1+(lW (wE 4) es).length:Nat):Int) d c p0 p1 p2 0 es' acc r3 r1) fun r=>∃ ys,Rl OC (xs++D.agg [.str nm,.Z 6 es]::zs) ys∧r=(false,[.Z 5 l,.int .i64 ((i+(lW cW (D.agg [.str nm,.Z 6 es]::zs)).length:Nat):Int),.int .i64 d,.int .i64 c,.int .i64 p0,.int .i64 p1,.int .i64 p2,.int .i64 0,.Z 5 ys]):=by
   intro es' r1 r3 hes' hr1 hr3
   subst hr1 hr3
   have hO:OC (D.agg [.str nm,.Z 6 es]) (AC nm a1 b1 e1 es'):=⟨nm,a1,b1,e1,es,es',rfl,rfl,hes'⟩
   simp only [Xw] at hn
   refine G4 (fun n=>bL.eq_1 n _ _ _ _ _ _ _ _ _ _ _ _) (U.A0 (G6 (d:=d) (c:=c) (p0:=p0) (p1:=p1) (p2:=p2) hl [[41]] (by decide) (H8 g4 rfl)) ?_)
   (intro _ ds h0;cases h0;refine⟨rfl,U.Xu rfl ?_⟩)
   refine U.Xu (Yc (by simp only [D8];omega)) ?_
   cases zs with
   |nil=>
    subst hrest
    obtain⟨a5,b5,e5,h5⟩:=C2 hR
    refine U.A0 (C1 (d:=d) (c:=c) (p0:=p0) (p1:=p1) (p2:=p2) h5 rfl) ?_
    (intro _ ds h0;cases h0;refine⟨rfl,U.Xu rfl ?_⟩)
    refine U.Xu rfl (U.ret ⟨acc++[AC nm a1 b1 e1 es'],hr.snoc hO,?_⟩)
    rw [show i+(lW cW [D.agg [.str nm,.Z 6 es]]).length=i+1+1+1+(lW (wE 4) es).length+1 from by show i+(cW _).length=_;rw [eCl];omega]
    rfl
   |cons z2 zs2=>
    subst hrest
    obtain⟨a5,b5,e5,h5⟩:=C2 hR
    have hR:=D0 hR
    have K:=hK z2 zs2 rfl (i+1+1+1+(lW (wE 4) es).length+1+1) (acc++[AC nm a1 b1 e1 es']) (xs++[D.agg [.str nm,.Z 6 es]]) (fun y hy=>hz y (Yk _ hy)) hR (by simp only [Xx,Xw,Xy] at hn ⊢;omega) (hr.snoc hO)
    refine U.A0 (F8 (d:=d) (c:=c) (p0:=p0) (p1:=p1) (p2:=p2) hl h5 rfl) ?_
    (intro _ ds h0;cases h0;refine⟨rfl,U.Xu rfl ?_⟩)
    refine U.no rfl (U.eq (fun n=>eU n _ _ _ _ _ _ _ _ _) (U.Xu rfl (U.Xu (Zi (by show ((acc++[AC nm a1 b1 e1 es']).length:Int)>0;rw [Xx,Yu];omega)) ?_)))
    refine K.mono fun r ⟨ys,g1,g2⟩=>⟨ys,by rw [Yl] at g1;exact g1,?_⟩
    rw [g2,show i+(lW cW (D.agg [.str nm,.Z 6 es]::z2::zs2)).length=i+1+1+1+(lW (wE 4) es).length+1+1+(lW cW (z2::zs2)).length from by
     show i+(cW _++((3,[44])::lW cW (z2::zs2))).length=_
     rw [Xx,eCl,Xw];omega]
  refine G4 (fun n=>U8.eq_1 n _ _ _ _ _ _ _ _ _ _) (U.Xu rfl (U.A0 (K8 (d:=d) (c:=c) (p0:=p0) (p1:=p1) (p2:=p2) h1) ?_))
  (intro _ ds h0;cases h0;refine⟨rfl,U.Xu rfl ?_⟩)
  refine U.A0 (G6 (d:=d) (c:=c) (p0:=p0) (p1:=p1) (p2:=p2) hl [[46]] (by decide) (H8 h1 rfl)) ?_
  (intro _ ds h0;cases h0;refine⟨rfl,U.Xu rfl ?_⟩)
  refine U.A0 (gJ (d:=d) (c:=c) (p0:=p0) (p1:=p1) (p2:=p2) hl h2 (mX (rO hnm))) ?_
  (intro _ ds h0;cases h0;refine⟨rfl,U.Xu rfl ?_⟩)
  refine U.A0 (G6 (d:=d) (c:=c) (p0:=p0) (p1:=p1) (p2:=p2) hl [[40]] (by decide) (H8 h3 rfl)) ?_
  (intro _ ds h0;cases h0;refine⟨rfl,U.Xu rfl ?_⟩)
  rcases es with _|⟨x,_|⟨x2,er⟩⟩
  ·have g4:l[i+1+1+1]? = _:=g4
   refine U.A0 (dF (d:=d) (c:=c) (p0:=p0) (p1:=p1) (p2:=p2) [41] g4) ?_
   (intro _ ds h0;cases h0;refine⟨rfl,U.Xu rfl ?_⟩)
   exact U.no rfl (J2 [] _ _ fL.nil rfl rfl)
  ·have hx:=he x (by simp)
   have hE:C4 l (i+1+1+1) (wE 4 x):=hE
   obtain⟨kk,t5,a5,b5,e5,h5,h6⟩:=DJ 4 x hx _ hE
   refine U.A0 (dF (d:=d) (c:=c) (p0:=p0) (p1:=p1) (p2:=p2) [41] h5) ?_
   (intro _ ds h0;cases h0;refine⟨rfl,U.Xu rfl ?_⟩)
   refine U.Xu (by show (!(t5==[41]&&kk !=2))=true;rw [Az h6 (by simp [Tl])];rfl) (U.A0 (wO hl hx hE g4 rfl d c p0 p1 p2 hd hd2) ?_)
   rintro _ ds ⟨y,hy,h0⟩;cases h0
   have hy0:=hy
   obtain⟨k7,t7,r7,a7,b7,e7,s7,_,rfl⟩:=Y7 hy
   exact⟨rfl,U.Xu rfl (J2 _ _ _ (fL.one hx hy0) rfl rfl)⟩
  ·exact absurd hle (by simp)
theorem Lt (d c p0 p1 p2:Int)(hd:0≤d)(hd2:d≤32):∀ (zs:List D) (z:D),Fy l d c p0 p1 p2 zs z:=by
 intro zs
 induction zs with
 |nil=>exact fun z=>Av hl d c p0 p1 p2 hd hd2 [] z fun _ _ h=>(by cases h)
 |cons z2 zs2 ih=>exact fun z=>Av hl d c p0 p1 p2 hd hd2 (z2::zs2) z fun z3 zs3 h=>(by cases h;exact ih z2)
theorem VE {zs:List D}(hn:zs.length≤10)(hz:∀ y∈zs,xC y){i:Nat}(ht:C4 l i (mR zs))(d c p0 p1 p2:Int)(hd:0≤d)(hd2:d≤32) :
  U (fun n=>Q8 n (.Z 5 l) (i:Int) d c p0 p1 p2 (0:Int)) fun r=>∃ ys,Rl OC zs ys∧r=(true,[.Z 5 l,.int .i64 ((i+(mR zs).length:Nat):Int),.int .i64 d,.int .i64 c,.int .i64 p0,.int .i64 p1,.int .i64 p2,.int .i64 0,.Z 5 ys]):=by
 have ht:C4 l i ((3,[40])::(lW cW zs++[(3,[41])])):=ht
 obtain⟨a1,b1,e1,h1⟩:=C2 ht
 have ht:=D0 ht
 obtain⟨_,h9⟩:=C7.1 ht
 obtain⟨a9,b9,e9,h9⟩:=C2 h9
 have eL:i+(mR zs).length=i+1+(lW cW zs).length+1:=by simp only [mR,Xx,Xw,Xy];omega
 refine U.eq (fun n=>vC n l i d c p0 p1 p2 0) (U.A0 (G6 (d:=d) (c:=c) (p0:=p0) (p1:=p1) (p2:=p2) hl [[40]] (by decide) (H8 h1 rfl)) ?_)
 (intro _ ds h0;cases h0;refine⟨rfl,U.Xu rfl ?_⟩)
 refine U.D4 (Q:=fun r=>∃ ys,Rl OC zs ys∧r=(false,[.Z 5 l,.int .i64 ((i+1+(lW cW zs).length:Nat):Int),.int .i64 d,.int .i64 c,.int .i64 p0,.int .i64 p1,.int .i64 p2,.int .i64 0,.Z 5 ys])) ?_ (fun ds h=>by obtain⟨_,_,h⟩:=h;cases h) fun ds h=>?_
 ·cases zs with
  |nil=>
   have h9:l[i+1]? = _:=h9
   refine U.eq (fun n=>eU n _ _ _ _ _ _ _ _ _) (U.Xu rfl (U.no rfl (U.A0 (dF (d:=d) (c:=c) (p0:=p0) (p1:=p1) (p2:=p2) [41] h9) ?_)))
   (intro _ ds h0;cases h0;refine⟨rfl,U.Xu rfl ?_⟩)
   exact G4 (fun n=>U8.eq_1 n _ _ _ _ _ _ _ _ _ _) (U.no rfl (U.ret ⟨[],Rl.nil,rfl⟩))
  |cons z zs=>
   have K:=Lt hl d c p0 p1 p2 hd hd2 zs z (i+1) [] [] hz ht (by simp only [Xw,Xy] at hn ⊢;omega) Rl.nil
   obtain⟨nm,es,ez,_⟩:=hz z (Yi ..)
   have h2:∃ a b e,l[i+1]? = some (tk 3 [46] a b e):=by
    subst ez
    cases zs with
    |nil=>exact C2 (show C4 l (i+1) ((3,[46])::_) from ht)
    |cons z2 zs2=>exact C2 (show C4 l (i+1) ((3,[46])::_) from ht)
   obtain⟨a2,b2,e2,h2⟩:=h2
   refine U.eq (fun n=>eU n _ _ _ _ _ _ _ _ _) (U.Xu rfl (U.no rfl (U.A0 (dF (d:=d) (c:=c) (p0:=p0) (p1:=p1) (p2:=p2) [41] h2) ?_)))
   (intro _ ds h0;cases h0;refine⟨rfl,U.Xu rfl ?_⟩)
   exact K
 ·obtain⟨ys,hy,h⟩:=h
  cases h
  refine U.Xu rfl (U.A0 (G6 (d:=d) (c:=c) (p0:=p0) (p1:=p1) (p2:=p2) hl [[41]] (by decide) (H8 h9 rfl)) ?_)
  (intro _ ds h0;cases h0;refine⟨rfl,U.Xu rfl ?_⟩)
  refine U.ret ⟨ys,hy,?_⟩
  rw [eL];rfl
end
end
section
theorem xF {n:Nat}{k i j l:Int}{nm ty:Zt}{sg:Bool}{es fs bs its els ps qs es' fs' bs' its' els' ps' qs':List D}(h1:fL es es')(h2:fL fs fs')(l1:bs.length≤10)(l2:its.length≤10)(l3:els.length≤10)(l4:ps.length≤10)(l5:qs.length≤10)
  (h3:Rl (OS 4) bs bs') (h4:Rl (OI n) its its') (h5:Rl (OI n) els els') (h6:Rl OC ps ps') (h7:Rl OC qs qs'):OI (n+1) (I k nm ty sg es fs bs its els ps qs) (AJ k i j l nm ty sg es' fs' bs' its' els' ps' qs'):=
 ⟨k,i,j,l,nm,ty,sg,es,fs,bs,its,els,ps,qs,es',fs',bs',its',els',ps',qs',rfl,rfl,h1,h2,l1,l2,l3,l4,l5,h3,h4,h5,h6,h7⟩
def Pi (F:PW)(l:List D)(i m q:Nat)(R:D→Prop)(h:Nat):Prop:=
 ∀ d c p0 p1 p2:Int,0≤d→d+h≤40→0≤c→c+q≤4000→U (fun n=>F n (.Z 5 l) (i:Int) d c p0 p1 p2 (0:Int)) fun r=>∃ y,R y∧r=(true,[.Z 5 l,.int .i64 ((i+m:Nat):Int),.int .i64 d,.int .i64 (c+(q:Int)),.int .i64 p0,.int .i64 p1,.int .i64 p2,.int .i64 0,.Z 14 [y]])
theorem Pi.cast {F:PW}{l:List D}{i m q m' q':Nat}{R:D→Prop}{h:Nat}(H:Pi F l i m q R h)(e:m=m')(e':q=q'):Pi F l i m' q' R h:=e▸e'▸H
theorem Cv:∀ {T:NT},T=sR∨T=GL∨T=zH∨T=kC→∀ p∈T,p.1∈([ID,iF,eZ,MZ,kO,Y2]:List Zt)∧(p.2.2=true→p.1=iF∨p.1=Y2)∧(p.1=iF∨p.2.1≤2)∧(p.1=eZ→p.2.1=0∧p.2.2=false):=by
 intro T h
 rcases h with rfl|rfl|rfl|rfl<;>decide
section
variable {l:List D} (hl:l.length≤1000000) {n:Nat}
include hl
theorem Uq {T:NT}(hT:T=sR∨T=GL){nm ty:Zt}{q:Nat}{f sg:Bool}{es fs:List D}(hn:nm∈Z7)(hm:(ty,q,f)∈T)(hi:ty=eZ→sg=true)(hq:es.length≤q)(hes:es.length=0∨es.length=2∨es.length=4)(hfs:fs=[]∨(f=true∧fs.length=1∧es.length≤2))(he:∀ e∈es,bS 4 e)(hf:∀ e∈fs,bS 4 e)
  {i:Nat} (ht:C4 l i ([(1,ty)]++(nR nm ty sg es fs++[(3,[59])]))):Pi (fun m=>G1 m) l i ((nR nm ty sg es fs).length+2) 1 (OI (n+1) (I 1 nm ty sg es fs [] [] [] [] [])) 16:=by
 have ht:=bI ht
 obtain⟨a1,b1,e1,h1⟩:=C2 ht
 obtain⟨h2,h3⟩:=C7.1 (D0 ht)
 obtain⟨a3,b3,e3,h3⟩:=C2 h3
 intro d c p0 p1 p2 hd hd2 hc hc2
 have N:=LS hl (Cv (hT.imp id .inl)) hn hm hi hq hes hfs he hf h2 h3 rfl a1 b1 e1 (d+1) (c+1) p0 p1 p2 (by omega) (by omega)
 have J:∀ r4,U (fun m=>G0 m true l ((i+1:Nat):Int) (d+1) (c+1) p0 p1 p2 0 [tk 1 ty a1 b1 e1,.Z 5 l,.int .i64 (i:Int),.int .i64 (d+1),.int .i64 (c+1),.int .i64 p0,.int .i64 p1,.int .i64 p2,.int .i64 0] r4) fun r=>∃ y,OI (n+1) (I 1 nm ty sg es fs [] [] [] [] []) y∧r=(true,[.Z 5 l,.int .i64 ((i+((nR nm ty sg es fs).length+2):Nat):Int),.int .i64 d,.int .i64 (c+((1:Nat):Int)),.int .i64 p0,.int .i64 p1,.int .i64 p2,.int .i64 0,.Z 14 [y]]):=by
  intro r4
  refine G4 (fun m=>G0.eq_1 m _ _ _ _ _ _ _ _ _ _ _) (U.Xu rfl (U.A0 N ?_))
  rintro _ ds ⟨es',fs',hE,hF,h0⟩;cases h0
  refine⟨rfl,U.Xu rfl (U.A0 (G6 (d:=(d+1)) (c:=(c+1)) (p0:=p0) (p1:=p1) (p2:=p2) hl [[59]] (by decide) (H8 h3 rfl)) ?_)⟩
  (intro _ ds h0;cases h0;refine⟨rfl,U.Xu rfl ?_⟩)
  (refine G4 (fun m=>E4.eq_1 m _ _ _ _ _ _ _ _ _) (U.A0 (cM (l:=l) (d:=d) (c:=(c+1)) (p0:=p0) (p1:=p1) (p2:=p2) _ (by omega) hd) ?_);intro _ ds h0;cases h0;refine⟨rfl,U.Xu rfl ?_⟩)
  refine U.ret ⟨_,xF (i:=a1) (j:=b1) (l:=e1) hE hF (by simp) (by simp) (by simp) (by simp) (by simp) Rl.nil Rl.nil Rl.nil Rl.nil Rl.nil,?_⟩
  rw [show i+((nR nm ty sg es fs).length+2)=i+1+(nR nm ty sg es fs).length+1 from by omega]
  rfl
 have hty:ty=ID∨ty=iF∨ty=eZ:=by
  rcases hT with rfl|rfl
  ·simp only [sR,Yn,Ys] at hm
   exact .inl hm.1
  ·simp only [GL,Yh,Ys,List.not_mem_nil,or_false] at hm
   rcases hm with h|h
   ·exact .inr (.inl h.1)
   ·exact .inr (.inr h.1)
 rcases hty with rfl|rfl|rfl
 ·(refine U.eq (fun m=>H5 m l i d c p0 p1 p2 0) (U.A0 (gN (l:=l) (d:=d) (c:=c) (p0:=p0) (p1:=p1) (p2:=p2) (i:Int) (by omega) hd) ?_);intro _ ds h0;cases h0;refine⟨rfl,U.Xu rfl (U.no rfl (U.A0 (P6 (l:=l) (d:=(d+1)) (c:=c) (p0:=p0) (p1:=p1) (p2:=p2) (i:Int) (by omega) hc) ?_))⟩;intro _ ds h0;cases h0;refine⟨rfl,U.Xu rfl (U.A0 (K8 (d:=(d+1)) (c:=(c+1)) (p0:=p0) (p1:=p1) (p2:=p2) h1) ?_)⟩;intro _ ds h0;cases h0;refine⟨rfl,U.Xu rfl ?_⟩)
  (refine U.A0 (F8 (d:=(d+1)) (c:=(c+1)) (p0:=p0) (p1:=p1) (p2:=p2) hl h1 rfl) ?_;intro _ ds h0;cases h0;refine⟨rfl,U.Xu rfl (U.Xu rfl ?_)⟩)
  exact J _
 ·(refine U.eq (fun m=>H5 m l i d c p0 p1 p2 0) (U.A0 (gN (l:=l) (d:=d) (c:=c) (p0:=p0) (p1:=p1) (p2:=p2) (i:Int) (by omega) hd) ?_);intro _ ds h0;cases h0;refine⟨rfl,U.Xu rfl (U.no rfl (U.A0 (P6 (l:=l) (d:=(d+1)) (c:=c) (p0:=p0) (p1:=p1) (p2:=p2) (i:Int) (by omega) hc) ?_))⟩;intro _ ds h0;cases h0;refine⟨rfl,U.Xu rfl (U.A0 (K8 (d:=(d+1)) (c:=(c+1)) (p0:=p0) (p1:=p1) (p2:=p2) h1) ?_)⟩;intro _ ds h0;cases h0;refine⟨rfl,U.Xu rfl ?_⟩)
  (refine U.A0 (C1 (d:=(d+1)) (c:=(c+1)) (p0:=p0) (p1:=p1) (p2:=p2) h1 rfl) ?_;intro _ ds h0;cases h0;refine⟨rfl,U.Xu rfl (U.no rfl ?_)⟩)
  (refine U.A0 (F8 (d:=(d+1)) (c:=(c+1)) (p0:=p0) (p1:=p1) (p2:=p2) hl h1 rfl) ?_;intro _ ds h0;cases h0;refine⟨rfl,U.Xu rfl (U.Xu rfl ?_)⟩)
  exact J _
 ·(refine U.eq (fun m=>H5 m l i d c p0 p1 p2 0) (U.A0 (gN (l:=l) (d:=d) (c:=c) (p0:=p0) (p1:=p1) (p2:=p2) (i:Int) (by omega) hd) ?_);intro _ ds h0;cases h0;refine⟨rfl,U.Xu rfl (U.no rfl (U.A0 (P6 (l:=l) (d:=(d+1)) (c:=c) (p0:=p0) (p1:=p1) (p2:=p2) (i:Int) (by omega) hc) ?_))⟩;intro _ ds h0;cases h0;refine⟨rfl,U.Xu rfl (U.A0 (K8 (d:=(d+1)) (c:=(c+1)) (p0:=p0) (p1:=p1) (p2:=p2) h1) ?_)⟩;intro _ ds h0;cases h0;refine⟨rfl,U.Xu rfl ?_⟩)
  (refine U.A0 (C1 (d:=(d+1)) (c:=(c+1)) (p0:=p0) (p1:=p1) (p2:=p2) h1 rfl) ?_;intro _ ds h0;cases h0;refine⟨rfl,U.Xu rfl (U.no rfl ?_)⟩)
  (refine U.A0 (C1 (d:=(d+1)) (c:=(c+1)) (p0:=p0) (p1:=p1) (p2:=p2) h1 rfl) ?_;intro _ ds h0;cases h0;refine⟨rfl,U.Xu rfl (U.no rfl ?_)⟩)
  refine U.A0 (F8 (d:=(d+1)) (c:=(c+1)) (p0:=p0) (p1:=p1) (p2:=p2) hl h1 rfl) ?_
  intro _ ds h0;cases h0
  exact⟨rfl,U.Xu rfl (J _)⟩
theorem Nn {nm:Zt}(hn:nm∈Z7){x:D}(hx:bS 4 x){i:Nat}(ht:C4 l i ([(1,mF)]++([(1,nm),(3,[61])]++(wE 4 x++[(3,[59])])))):Pi (fun m=>G1 m) l i ((wE 4 x).length+4) 1 (OI (n+1) (I 2 nm mF false [x] [] [] [] [] [] [])) 16:=by
 have ht:=bI ht
 obtain⟨a1,b1,e1,h1⟩:=C2 ht
 have h2:C4 l (i+1) ([(1,nm),(3,[61])]++wE 4 x++[(3,[59])]):=by rw [Yl];exact D0 ht
 obtain⟨h2,h3⟩:=C7.1 h2
 obtain⟨a3,b3,e3,h3⟩:=C2 h3
 have eL:([(1,nm),(3,[61])]++wE 4 x:List Tk).length=2+(wE 4 x).length:=by simp only [Xx,Xw,Xy]
 rw [eL] at h3
 intro d c p0 p1 p2 hd hd2 hc hc2
 have N:=WX hl (ty:=mF) hn hx h2 h3 rfl a1 b1 e1 (d+1) (c+1) p0 p1 p2 (by omega) (by omega)
 (refine U.eq (fun m=>H5 m l i d c p0 p1 p2 0) (U.A0 (gN (l:=l) (d:=d) (c:=c) (p0:=p0) (p1:=p1) (p2:=p2) (i:Int) (by omega) hd) ?_);intro _ ds h0;cases h0;refine⟨rfl,U.Xu rfl (U.no rfl (U.A0 (P6 (l:=l) (d:=(d+1)) (c:=c) (p0:=p0) (p1:=p1) (p2:=p2) (i:Int) (by omega) hc) ?_))⟩;intro _ ds h0;cases h0;refine⟨rfl,U.Xu rfl (U.A0 (K8 (d:=(d+1)) (c:=(c+1)) (p0:=p0) (p1:=p1) (p2:=p2) h1) ?_)⟩;intro _ ds h0;cases h0;refine⟨rfl,U.Xu rfl ?_⟩)
 (refine U.A0 (C1 (d:=(d+1)) (c:=(c+1)) (p0:=p0) (p1:=p1) (p2:=p2) h1 rfl) ?_;intro _ ds h0;cases h0;refine⟨rfl,U.Xu rfl (U.no rfl (U.A0 (C1 (d:=(d+1)) (c:=(c+1)) (p0:=p0) (p1:=p1) (p2:=p2) h1 rfl) ?_))⟩;intro _ ds h0;cases h0;refine⟨rfl,U.Xu rfl (U.no rfl (U.A0 (C1 (d:=(d+1)) (c:=(c+1)) (p0:=p0) (p1:=p1) (p2:=p2) h1 rfl) ?_))⟩;intro _ ds h0;cases h0;refine⟨rfl,U.Xu rfl (G4 (fun m=>G0.eq_1 m _ _ _ _ _ _ _ _ _ _ _) (U.no rfl ?_))⟩)
 (refine U.A0 (F8 (d:=(d+1)) (c:=(c+1)) (p0:=p0) (p1:=p1) (p2:=p2) hl h1 rfl) ?_;intro _ ds h0;cases h0;refine⟨rfl,U.Xu rfl (U.Xu rfl ?_)⟩)
 refine U.A0 N ?_
 rintro _ ds ⟨y,hy,h0⟩;cases h0
 refine⟨rfl,U.Xu rfl (U.A0 (G6 (d:=(d+1)) (c:=(c+1)) (p0:=p0) (p1:=p1) (p2:=p2) hl [[59]] (by decide) (H8 h3 rfl)) ?_)⟩
 (intro _ ds h0;cases h0;refine⟨rfl,U.Xu rfl ?_⟩)
 (refine G4 (fun m=>E4.eq_1 m _ _ _ _ _ _ _ _ _) (U.A0 (cM (l:=l) (d:=d) (c:=(c+1)) (p0:=p0) (p1:=p1) (p2:=p2) _ (by omega) hd) ?_);intro _ ds h0;cases h0;refine⟨rfl,U.Xu rfl ?_⟩)
 refine U.ret ⟨_,xF (i:=a1) (j:=b1) (l:=e1) (fL.one hx hy) fL.nil (by simp) (by simp) (by simp) (by simp) (by simp) Rl.nil Rl.nil Rl.nil Rl.nil Rl.nil,?_⟩
 rw [show i+((wE 4 x).length+4)=i+1+(2+(wE 4 x).length)+1 from by omega]
 rfl
theorem Ib {nm:Zt}(hn:nm∈Z7){i:Nat}(ht:C4 l i [(1,IM),(1,nm),(3,[59])]):Pi (fun m=>G1 m) l i 3 1 (OI (n+1) (I 3 nm [] false [] [] [] [] [] [] [])) 16:=by
 obtain⟨a1,b1,e1,h1⟩:=C2 ht
 obtain⟨a2,b2,e2,h2⟩:=C2 (D0 ht)
 obtain⟨a3,b3,e3,h3⟩:=C2 (D0 (D0 ht))
 intro d c p0 p1 p2 hd hd2 hc hc2
 (refine U.eq (fun m=>H5 m l i d c p0 p1 p2 0) (U.A0 (gN (l:=l) (d:=d) (c:=c) (p0:=p0) (p1:=p1) (p2:=p2) (i:Int) (by omega) hd) ?_);intro _ ds h0;cases h0;refine⟨rfl,U.Xu rfl (U.no rfl (U.A0 (P6 (l:=l) (d:=(d+1)) (c:=c) (p0:=p0) (p1:=p1) (p2:=p2) (i:Int) (by omega) hc) ?_))⟩;intro _ ds h0;cases h0;refine⟨rfl,U.Xu rfl (U.A0 (K8 (d:=(d+1)) (c:=(c+1)) (p0:=p0) (p1:=p1) (p2:=p2) h1) ?_)⟩;intro _ ds h0;cases h0;refine⟨rfl,U.Xu rfl ?_⟩)
 (refine U.A0 (C1 (d:=(d+1)) (c:=(c+1)) (p0:=p0) (p1:=p1) (p2:=p2) h1 rfl) ?_;intro _ ds h0;cases h0;refine⟨rfl,U.Xu rfl (U.no rfl (U.A0 (C1 (d:=(d+1)) (c:=(c+1)) (p0:=p0) (p1:=p1) (p2:=p2) h1 rfl) ?_))⟩;intro _ ds h0;cases h0;refine⟨rfl,U.Xu rfl (U.no rfl (U.A0 (C1 (d:=(d+1)) (c:=(c+1)) (p0:=p0) (p1:=p1) (p2:=p2) h1 rfl) ?_))⟩;intro _ ds h0;cases h0;refine⟨rfl,U.Xu rfl (G4 (fun m=>G0.eq_1 m _ _ _ _ _ _ _ _ _ _ _) (U.no rfl ?_))⟩)
 (refine U.A0 (C1 (d:=(d+1)) (c:=(c+1)) (p0:=p0) (p1:=p1) (p2:=p2) h1 rfl) ?_;intro _ ds h0;cases h0;refine⟨rfl,U.Xu rfl (U.no rfl ?_)⟩)
 (refine U.A0 (F8 (d:=(d+1)) (c:=(c+1)) (p0:=p0) (p1:=p1) (p2:=p2) hl h1 rfl) ?_;intro _ ds h0;cases h0;refine⟨rfl,U.Xu rfl (U.Xu rfl ?_)⟩)
 refine U.A0 (gJ (d:=(d+1)) (c:=(c+1)) (p0:=p0) (p1:=p1) (p2:=p2) hl h2 (mX (rO hn))) ?_
 (intro _ ds h0;cases h0;refine⟨rfl,U.Xu rfl ?_⟩)
 refine U.A0 (G6 (d:=(d+1)) (c:=(c+1)) (p0:=p0) (p1:=p1) (p2:=p2) hl [[59]] (by decide) (H8 h3 rfl)) ?_
 (intro _ ds h0;cases h0;refine⟨rfl,U.Xu rfl ?_⟩)
 (refine G4 (fun m=>E4.eq_1 m _ _ _ _ _ _ _ _ _) (U.A0 (cM (l:=l) (d:=d) (c:=(c+1)) (p0:=p0) (p1:=p1) (p2:=p2) _ (by omega) hd) ?_);intro _ ds h0;cases h0;refine⟨rfl,U.Xu rfl ?_⟩)
 exact U.ret ⟨_,xF (i:=a1) (j:=b1) (l:=e1) fL.nil fL.nil (by simp) (by simp) (by simp) (by simp) (by simp) Rl.nil Rl.nil Rl.nil Rl.nil Rl.nil,rfl⟩
theorem Gx {x e:D}(hx:isLeft x)(he:bS 4 e){i:Nat}(ht:C4 l i ([(1,pI)]++(wE 4 x++([(3,[61])]++(wE 4 e++[(3,[59])]))))):Pi (fun m=>G1 m) l i ((wE 4 x).length+(wE 4 e).length+3) 1 (OI (n+1) (I 4 [] [] false [x,e] [] [] [] [] [] [])) 16:=by
 have ht:=bI ht
 obtain⟨a1,b1,e1,h1⟩:=C2 ht
 obtain⟨h2,h3⟩:=C7.1 (D0 ht)
 have h3:=bI h3
 obtain⟨a3,b3,e3,g3⟩:=C2 h3
 obtain⟨h4,h5⟩:=C7.1 (D0 h3)
 obtain⟨a5,b5,e5,h5⟩:=C2 h5
 intro d c p0 p1 p2 hd hd2 hc hc2
 (refine U.eq (fun m=>H5 m l i d c p0 p1 p2 0) (U.A0 (gN (l:=l) (d:=d) (c:=c) (p0:=p0) (p1:=p1) (p2:=p2) (i:Int) (by omega) hd) ?_);intro _ ds h0;cases h0;refine⟨rfl,U.Xu rfl (U.no rfl (U.A0 (P6 (l:=l) (d:=(d+1)) (c:=c) (p0:=p0) (p1:=p1) (p2:=p2) (i:Int) (by omega) hc) ?_))⟩;intro _ ds h0;cases h0;refine⟨rfl,U.Xu rfl (U.A0 (K8 (d:=(d+1)) (c:=(c+1)) (p0:=p0) (p1:=p1) (p2:=p2) h1) ?_)⟩;intro _ ds h0;cases h0;refine⟨rfl,U.Xu rfl ?_⟩)
 (refine U.A0 (C1 (d:=(d+1)) (c:=(c+1)) (p0:=p0) (p1:=p1) (p2:=p2) h1 rfl) ?_;intro _ ds h0;cases h0;refine⟨rfl,U.Xu rfl (U.no rfl (U.A0 (C1 (d:=(d+1)) (c:=(c+1)) (p0:=p0) (p1:=p1) (p2:=p2) h1 rfl) ?_))⟩;intro _ ds h0;cases h0;refine⟨rfl,U.Xu rfl (U.no rfl (U.A0 (C1 (d:=(d+1)) (c:=(c+1)) (p0:=p0) (p1:=p1) (p2:=p2) h1 rfl) ?_))⟩;intro _ ds h0;cases h0;refine⟨rfl,U.Xu rfl (G4 (fun m=>G0.eq_1 m _ _ _ _ _ _ _ _ _ _ _) (U.no rfl ?_))⟩)
 (refine U.A0 (C1 (d:=(d+1)) (c:=(c+1)) (p0:=p0) (p1:=p1) (p2:=p2) h1 rfl) ?_;intro _ ds h0;cases h0;refine⟨rfl,U.Xu rfl (U.no rfl ?_)⟩)
 (refine U.A0 (C1 (d:=(d+1)) (c:=(c+1)) (p0:=p0) (p1:=p1) (p2:=p2) h1 rfl) ?_;intro _ ds h0;cases h0;refine⟨rfl,U.Xu rfl (U.no rfl ?_)⟩)
 (refine U.A0 (F8 (d:=(d+1)) (c:=(c+1)) (p0:=p0) (p1:=p1) (p2:=p2) hl h1 rfl) ?_;intro _ ds h0;cases h0;refine⟨rfl,U.Xu rfl (U.Xu rfl ?_)⟩)
 refine U.A0 (Cb hl hx h2 g3 rfl (d+1) (c+1) p0 p1 p2 (by omega) (by omega)) ?_
 rintro _ ds ⟨y,hy,h0⟩;cases h0
 have hy0:=hy
 obtain⟨k7,t7,r7,a7,b7,e7,s7,_,rfl⟩:=Y7 hy
 refine⟨rfl,U.Xu rfl (U.A0 (G6 (d:=(d+1)) (c:=(c+1)) (p0:=p0) (p1:=p1) (p2:=p2) hl [[61]] (by decide) (H8 g3 rfl)) ?_)⟩
 (intro _ ds h0;cases h0;refine⟨rfl,U.Xu rfl ?_⟩)
 refine U.A0 (wO hl he h4 h5 rfl (d+1) (c+1) p0 p1 p2 (by omega) (by omega)) ?_
 rintro _ ds ⟨z,hz,h0⟩;cases h0
 have hz0:=hz
 obtain⟨k8,t8,r8,a8,b8,e8,s8,_,rfl⟩:=Y7 hz
 refine⟨rfl,U.Xu rfl (U.A0 (G6 (d:=(d+1)) (c:=(c+1)) (p0:=p0) (p1:=p1) (p2:=p2) hl [[59]] (by decide) (H8 h5 rfl)) ?_)⟩
 (intro _ ds h0;cases h0;refine⟨rfl,U.Xu rfl ?_⟩)
 (refine G4 (fun m=>E4.eq_1 m _ _ _ _ _ _ _ _ _) (U.A0 (cM (l:=l) (d:=d) (c:=(c+1)) (p0:=p0) (p1:=p1) (p2:=p2) _ (by omega) hd) ?_);intro _ ds h0;cases h0;refine⟨rfl,U.Xu rfl ?_⟩)
 refine U.ret ⟨_,xF (i:=a1) (j:=b1) (l:=e1) (fL.two (cS (by decide) (rZ hx)) he hy0 hz0) fL.nil (by simp) (by simp) (by simp) (by simp) (by simp) Rl.nil Rl.nil Rl.nil Rl.nil Rl.nil,?_⟩
 rw [show i+((wE 4 x).length+(wE 4 e).length+3)=i+1+(wE 4 x).length+1+(wE 4 e).length+1 from by omega]
 rfl
theorem Qm {s:D}(hs:qL 4 s){i:Nat}(ht:C4 l i ([(1,mD),(3,[64]),(3,[42])]++wS 4 s))(hN:Gg l (i+(3+(wS 4 s).length))):Pi (fun m=>G1 m) l i (3+(wS 4 s).length) (1+qS 4 s) (OI (n+1) (I 5 [] [] false [] [] [s] [] [] [] [])) 16:=by
 have ht:C4 l i ((1,mD)::(3,[64])::(3,[42])::wS 4 s):=ht
 obtain⟨a1,b1,e1,h1⟩:=C2 ht
 obtain⟨a2,b2,e2,h2⟩:=C2 (D0 ht)
 obtain⟨a3,b3,e3,h3⟩:=C2 (D0 (D0 ht))
 have h4:=D0 (D0 (D0 ht))
 intro d c p0 p1 p2 hd hd2 hc hc2
 have I:=Vz hl 4 s hs _ h4 (fun _=>by rw [show i+1+1+1+(wS 4 s).length=i+(3+(wS 4 s).length) from by omega];exact hN) (d+1) (c+1) p0 p1 p2 (by omega) (by show d+1+14≤40;omega) (by omega) (by omega)
 have A:U (fun m=>V1 m (.agg [.int .i64 a1,.int .i64 b1,.int .i64 e1]) (.Z 5 l) ((i+1:Nat):Int) (d+1:Int) (c+1:Int) p0 p1 p2 (0:Int)) fun r=>∃ y,OS 4 s y∧r=(true,[AJ 5 a1 b1 e1 [] [] false [] [] [y] [] [] [] [],.Z 5 l,.int .i64 ((i+(3+(wS 4 s).length):Nat):Int),.int .i64 (d+1),.int .i64 (c+1+(qS 4 s:Int)),.int .i64 p0,.int .i64 p1,.int .i64 p2,.int .i64 0]):=by
  refine U.eq (fun m=>lY m a1 b1 e1 l _ (d+1) (c+1) p0 p1 p2 0) (U.A0 (G6 (d:=(d+1)) (c:=(c+1)) (p0:=p0) (p1:=p1) (p2:=p2) hl [[64]] (by decide) (H8 h2 rfl)) ?_)
  (intro _ ds h0;cases h0;refine⟨rfl,U.Xu rfl ?_⟩)
  refine U.A0 (F8 (d:=(d+1)) (c:=(c+1)) (p0:=p0) (p1:=p1) (p2:=p2) hl h3 rfl) ?_
  (intro _ ds h0;cases h0;refine⟨rfl,U.Xu rfl ?_⟩)
  refine U.no rfl (G4 (fun m=>aM.eq_1 m _ _ _ _ _ _ _ _ _ _ _ _ _) (U.A0 I ?_))
  rintro _ ds ⟨y,hy,h0⟩;cases h0
  have hy0:=hy
  obtain⟨k5,i5,j5,l5,t5,es5,bs5,zs5,es6,bs6,zs6,_,rfl⟩:=oS hy
  refine⟨rfl,U.Xu rfl (U.ret ⟨_,hy0,?_⟩)⟩
  rw [show i+(3+(wS 4 s).length)=i+1+1+1+(wS 4 s).length from by omega]
  rfl
 (refine U.eq (fun m=>H5 m l i d c p0 p1 p2 0) (U.A0 (gN (l:=l) (d:=d) (c:=c) (p0:=p0) (p1:=p1) (p2:=p2) (i:Int) (by omega) hd) ?_);intro _ ds h0;cases h0;refine⟨rfl,U.Xu rfl (U.no rfl (U.A0 (P6 (l:=l) (d:=(d+1)) (c:=c) (p0:=p0) (p1:=p1) (p2:=p2) (i:Int) (by omega) hc) ?_))⟩;intro _ ds h0;cases h0;refine⟨rfl,U.Xu rfl (U.A0 (K8 (d:=(d+1)) (c:=(c+1)) (p0:=p0) (p1:=p1) (p2:=p2) h1) ?_)⟩;intro _ ds h0;cases h0;refine⟨rfl,U.Xu rfl ?_⟩)
 (refine U.A0 (C1 (d:=(d+1)) (c:=(c+1)) (p0:=p0) (p1:=p1) (p2:=p2) h1 rfl) ?_;intro _ ds h0;cases h0;refine⟨rfl,U.Xu rfl (U.no rfl (U.A0 (C1 (d:=(d+1)) (c:=(c+1)) (p0:=p0) (p1:=p1) (p2:=p2) h1 rfl) ?_))⟩;intro _ ds h0;cases h0;refine⟨rfl,U.Xu rfl (U.no rfl (U.A0 (C1 (d:=(d+1)) (c:=(c+1)) (p0:=p0) (p1:=p1) (p2:=p2) h1 rfl) ?_))⟩;intro _ ds h0;cases h0;refine⟨rfl,U.Xu rfl (G4 (fun m=>G0.eq_1 m _ _ _ _ _ _ _ _ _ _ _) (U.no rfl ?_))⟩)
 (refine U.A0 (C1 (d:=(d+1)) (c:=(c+1)) (p0:=p0) (p1:=p1) (p2:=p2) h1 rfl) ?_;intro _ ds h0;cases h0;refine⟨rfl,U.Xu rfl (U.no rfl ?_)⟩)
 (refine U.A0 (C1 (d:=(d+1)) (c:=(c+1)) (p0:=p0) (p1:=p1) (p2:=p2) h1 rfl) ?_;intro _ ds h0;cases h0;refine⟨rfl,U.Xu rfl (U.no rfl ?_)⟩)
 (refine U.A0 (C1 (d:=(d+1)) (c:=(c+1)) (p0:=p0) (p1:=p1) (p2:=p2) h1 rfl) ?_;intro _ ds h0;cases h0;refine⟨rfl,U.Xu rfl (U.no rfl ?_)⟩)
 (refine U.A0 (F8 (d:=(d+1)) (c:=(c+1)) (p0:=p0) (p1:=p1) (p2:=p2) hl h1 rfl) ?_;intro _ ds h0;cases h0;refine⟨rfl,U.Xu rfl (U.Xu rfl ?_)⟩)
 refine U.A0 A ?_
 rintro _ ds ⟨y,hy,h0⟩;cases h0
 refine⟨rfl,U.Xu rfl ?_⟩
 (refine G4 (fun m=>E4.eq_1 m _ _ _ _ _ _ _ _ _) (U.A0 (cM (l:=l) (d:=d) (c:=(c+1+(qS 4 s:Int))) (p0:=p0) (p1:=p1) (p2:=p2) _ (by omega) hd) ?_);intro _ ds h0;cases h0;refine⟨rfl,U.Xu rfl ?_⟩)
 refine U.ret ⟨_,xF (i:=a1) (j:=b1) (l:=e1) fL.nil fL.nil (by simp) (by simp) (by simp) (by simp) (by simp) (Rl.one hy) Rl.nil Rl.nil Rl.nil Rl.nil,?_⟩
 rw [show c+((1+qS 4 s:Nat):Int)=c+1+(qS 4 s:Int) from by omega]
 rfl
theorem Dg {s:D}(hs:qL 4 s){i:Nat}(ht:C4 l i ([(1,mD),(3,[64]),(3,[40]),(1,GI),(1,wF),(3,[41])]++wS 4 s))(hN:Gg l (i+(6+(wS 4 s).length))):Pi (fun m=>G1 m) l i (6+(wS 4 s).length) (1+qS 4 s) (OI (n+1) (I 6 wF [] false [] [] [s] [] [] [] [])) 16:=by
 have ht:C4 l i ((1,mD)::(3,[64])::(3,[40])::(1,GI)::(1,wF)::(3,[41])::wS 4 s):=ht
 obtain⟨a1,b1,e1,h1⟩:=C2 ht
 have ht:=D0 ht
 obtain⟨a2,b2,e2,h2⟩:=C2 ht
 have ht:=D0 ht
 obtain⟨a3,b3,e3,h3⟩:=C2 ht
 have ht:=D0 ht
 obtain⟨a4,b4,e4,h4⟩:=C2 ht
 have ht:=D0 ht
 obtain⟨a5,b5,e5,h5⟩:=C2 ht
 have ht:=D0 ht
 obtain⟨a6,b6,e6,h6⟩:=C2 ht
 have h7:=D0 ht
 intro d c p0 p1 p2 hd hd2 hc hc2
 have I:=Vz hl 4 s hs _ h7 (fun _=>by rw [show i+1+1+1+1+1+1+(wS 4 s).length=i+(6+(wS 4 s).length) from by omega];exact hN) (d+1) (c+1) p0 p1 p2 (by omega) (by show d+1+14≤40;omega) (by omega) (by omega)
 have A:U (fun m=>V1 m (.agg [.int .i64 a1,.int .i64 b1,.int .i64 e1]) (.Z 5 l) ((i+1:Nat):Int) (d+1:Int) (c+1:Int) p0 p1 p2 (0:Int)) fun r=>∃ y,OS 4 s y∧r=(true,[AJ 6 a1 b1 e1 wF [] false [] [] [y] [] [] [] [],.Z 5 l,.int .i64 ((i+(6+(wS 4 s).length):Nat):Int),.int .i64 (d+1),.int .i64 (c+1+(qS 4 s:Int)),.int .i64 p0,.int .i64 p1,.int .i64 p2,.int .i64 0]):=by
  refine U.eq (fun m=>lY m a1 b1 e1 l _ (d+1) (c+1) p0 p1 p2 0) (U.A0 (G6 (d:=(d+1)) (c:=(c+1)) (p0:=p0) (p1:=p1) (p2:=p2) hl [[64]] (by decide) (H8 h2 rfl)) ?_)
  (intro _ ds h0;cases h0;refine⟨rfl,U.Xu rfl ?_⟩)
  refine U.A0 (C1 (d:=(d+1)) (c:=(c+1)) (p0:=p0) (p1:=p1) (p2:=p2) h3 rfl) ?_
  (intro _ ds h0;cases h0;refine⟨rfl,U.Xu rfl ?_⟩)
  refine U.Xu rfl (U.A0 (G6 (d:=(d+1)) (c:=(c+1)) (p0:=p0) (p1:=p1) (p2:=p2) hl [[40]] (by decide) (H8 h3 rfl)) ?_)
  (intro _ ds h0;cases h0;refine⟨rfl,U.Xu rfl ?_⟩)
  refine U.A0 (F8 (d:=(d+1)) (c:=(c+1)) (p0:=p0) (p1:=p1) (p2:=p2) hl h4 rfl) ?_
  (intro _ ds h0;cases h0;refine⟨rfl,U.Xu rfl ?_⟩)
  refine U.Xu rfl (U.A0 (gJ (d:=(d+1)) (c:=(c+1)) (p0:=p0) (p1:=p1) (p2:=p2) hl h5 (by kernel_rfl)) ?_)
  (intro _ ds h0;cases h0;refine⟨rfl,U.Xu rfl ?_⟩)
  refine U.A0 (G6 (d:=(d+1)) (c:=(c+1)) (p0:=p0) (p1:=p1) (p2:=p2) hl [[41]] (by decide) (H8 h6 rfl)) ?_
  (intro _ ds h0;cases h0;refine⟨rfl,U.Xu rfl ?_⟩)
  refine G4 (fun m=>aM.eq_1 m _ _ _ _ _ _ _ _ _ _ _ _ _) (U.A0 I ?_)
  rintro _ ds ⟨y,hy,h0⟩;cases h0
  have hy0:=hy
  obtain⟨k5,i5,j5,l5,t5,es5,bs5,zs5,es6,bs6,zs6,_,rfl⟩:=oS hy
  refine⟨rfl,U.Xu rfl (U.ret ⟨_,hy0,?_⟩)⟩
  rw [show i+(6+(wS 4 s).length)=i+1+1+1+1+1+1+(wS 4 s).length from by omega]
  rfl
 (refine U.eq (fun m=>H5 m l i d c p0 p1 p2 0) (U.A0 (gN (l:=l) (d:=d) (c:=c) (p0:=p0) (p1:=p1) (p2:=p2) (i:Int) (by omega) hd) ?_);intro _ ds h0;cases h0;refine⟨rfl,U.Xu rfl (U.no rfl (U.A0 (P6 (l:=l) (d:=(d+1)) (c:=c) (p0:=p0) (p1:=p1) (p2:=p2) (i:Int) (by omega) hc) ?_))⟩;intro _ ds h0;cases h0;refine⟨rfl,U.Xu rfl (U.A0 (K8 (d:=(d+1)) (c:=(c+1)) (p0:=p0) (p1:=p1) (p2:=p2) h1) ?_)⟩;intro _ ds h0;cases h0;refine⟨rfl,U.Xu rfl ?_⟩)
 (refine U.A0 (C1 (d:=(d+1)) (c:=(c+1)) (p0:=p0) (p1:=p1) (p2:=p2) h1 rfl) ?_;intro _ ds h0;cases h0;refine⟨rfl,U.Xu rfl (U.no rfl (U.A0 (C1 (d:=(d+1)) (c:=(c+1)) (p0:=p0) (p1:=p1) (p2:=p2) h1 rfl) ?_))⟩;intro _ ds h0;cases h0;refine⟨rfl,U.Xu rfl (U.no rfl (U.A0 (C1 (d:=(d+1)) (c:=(c+1)) (p0:=p0) (p1:=p1) (p2:=p2) h1 rfl) ?_))⟩;intro _ ds h0;cases h0;refine⟨rfl,U.Xu rfl (G4 (fun m=>G0.eq_1 m _ _ _ _ _ _ _ _ _ _ _) (U.no rfl ?_))⟩)
 (refine U.A0 (C1 (d:=(d+1)) (c:=(c+1)) (p0:=p0) (p1:=p1) (p2:=p2) h1 rfl) ?_;intro _ ds h0;cases h0;refine⟨rfl,U.Xu rfl (U.no rfl ?_)⟩)
 (refine U.A0 (C1 (d:=(d+1)) (c:=(c+1)) (p0:=p0) (p1:=p1) (p2:=p2) h1 rfl) ?_;intro _ ds h0;cases h0;refine⟨rfl,U.Xu rfl (U.no rfl ?_)⟩)
 (refine U.A0 (C1 (d:=(d+1)) (c:=(c+1)) (p0:=p0) (p1:=p1) (p2:=p2) h1 rfl) ?_;intro _ ds h0;cases h0;refine⟨rfl,U.Xu rfl (U.no rfl ?_)⟩)
 (refine U.A0 (F8 (d:=(d+1)) (c:=(c+1)) (p0:=p0) (p1:=p1) (p2:=p2) hl h1 rfl) ?_;intro _ ds h0;cases h0;refine⟨rfl,U.Xu rfl (U.Xu rfl ?_)⟩)
 refine U.A0 A ?_
 rintro _ ds ⟨y,hy,h0⟩;cases h0
 refine⟨rfl,U.Xu rfl ?_⟩
 (refine G4 (fun m=>E4.eq_1 m _ _ _ _ _ _ _ _ _) (U.A0 (cM (l:=l) (d:=d) (c:=(c+1+(qS 4 s:Int))) (p0:=p0) (p1:=p1) (p2:=p2) _ (by omega) hd) ?_);intro _ ds h0;cases h0;refine⟨rfl,U.Xu rfl ?_⟩)
 refine U.ret ⟨_,xF (i:=a1) (j:=b1) (l:=e1) fL.nil fL.nil (by simp) (by simp) (by simp) (by simp) (by simp) (Rl.one hy) Rl.nil Rl.nil Rl.nil Rl.nil,?_⟩
 rw [show c+((1+qS 4 s:Nat):Int)=c+1+(qS 4 s:Int) from by omega]
 rfl
theorem Qw {k:UInt8}{ps qs:List D}(hg:oQ [117,48+k]=true)(hp:ps.length≤2)(hq:qs.length≤2)(hpc:∀ c∈ps,xC c)(hqc:∀ c∈qs,xC c){i:Nat}(ht:C4 l i ([(1,sP)]++((bif ps.isEmpty then [] else [(3,[35])]++mR ps)++([(1,[117,48+k])]++(mR qs++[(3,[59])]))))) :
  Pi (fun m=>G1 m) l i ((bif ps.isEmpty then 0 else 1+(mR ps).length)+(mR qs).length+3) 1 (OI (n+1) (I 8 [117,48+k] sP false [] [] [] [] [] ps qs)) 16:=by
 have ht:=bI ht
 obtain⟨a1,b1,e1,h1⟩:=C2 ht
 obtain⟨h2,h3⟩:=C7.1 (D0 ht)
 have eP:((bif ps.isEmpty then [] else [(3,[35])]++mR ps):List Tk).length=(bif ps.isEmpty then 0 else 1+(mR ps).length):=by cases ps.isEmpty<;>simp only [cond_true,cond_false,Xx,Xw,Xy]<;>omega
 rw [eP] at h3
 have h3:=bI h3
 obtain⟨a3,b3,e3,g3⟩:=C2 h3
 obtain⟨h4,h5⟩:=C7.1 (D0 h3)
 obtain⟨a5,b5,e5,h5⟩:=C2 h5
 intro d c p0 p1 p2 hd hd2 hc hc2
 have J:∀ ps' r1,Rl OC ps ps'→r1=[.str sP,.Z 5 l,.int .i64 ((i+1:Nat):Int),.int .i64 (d+1),.int .i64 (c+1),.int .i64 p0,.int .i64 p1,.int .i64 p2,.int .i64 0]→U (fun m=>eI m l ((i+1+(bif ps.isEmpty then 0 else 1+(mR ps).length):Nat):Int) (d+1) (c+1) p0 p1 p2 0 ps' a1 b1 e1 r1) fun r=>∃ ps' qs',Rl OC ps ps'∧Rl OC qs qs'∧r=(true,[AJ 8 a1 b1 e1 [117,48+k] sP false [] [] [] [] [] ps' qs',.Z 5 l,.int .i64 ((i+((bif ps.isEmpty then 0 else 1+(mR ps).length)+(mR qs).length+3):Nat):Int),.int .i64 (d+1),.int .i64 (c+1),.int .i64 p0,.int .i64 p1,.int .i64 p2,.int .i64 0]):=by
  intro ps' r1 hp' hr1
  subst hr1
  refine G4 (fun m=>eI.eq_1 m _ _ _ _ _ _ _ _ _ _ _ _ _) (U.A0 (gJ (d:=(d+1)) (c:=(c+1)) (p0:=p0) (p1:=p1) (p2:=p2) hl g3 hg) ?_)
  (intro _ ds h0;cases h0;refine⟨rfl,U.Xu rfl ?_⟩)
  refine U.A0 (VE hl (by omega) hqc h4 (d+1) (c+1) p0 p1 p2 (by omega) (by omega)) ?_
  rintro _ ds ⟨qs',hq',h0⟩;cases h0
  refine⟨rfl,U.Xu rfl (U.A0 (G6 (d:=(d+1)) (c:=(c+1)) (p0:=p0) (p1:=p1) (p2:=p2) hl [[59]] (by decide) (H8 h5 rfl)) ?_)⟩
  (intro _ ds h0;cases h0;refine⟨rfl,U.Xu rfl ?_⟩)
  refine U.ret ⟨ps',qs',hp',hq',?_⟩
  rw [show i+((bif ps.isEmpty then 0 else 1+(mR ps).length)+(mR qs).length+3)=i+1+(bif ps.isEmpty then 0 else 1+(mR ps).length)+1+(mR qs).length+1 from by omega]
  rfl
 have A:U (fun m=>aP m (.agg [.int .i64 a1,.int .i64 b1,.int .i64 e1]) (.Z 5 l) (i:Int) (d+1:Int) (c+1:Int) p0 p1 p2 (0:Int)) fun r=>∃ ps' qs',Rl OC ps ps'∧Rl OC qs qs'∧r=(true,[AJ 8 a1 b1 e1 [117,48+k] sP false [] [] [] [] [] ps' qs',.Z 5 l,.int .i64 ((i+((bif ps.isEmpty then 0 else 1+(mR ps).length)+(mR qs).length+3):Nat):Int),.int .i64 (d+1),.int .i64 (c+1),.int .i64 p0,.int .i64 p1,.int .i64 p2,.int .i64 0]):=by
  refine U.eq (fun m=>xQ m a1 b1 e1 l _ (d+1) (c+1) p0 p1 p2 0) (U.A0 (gJ (d:=(d+1)) (c:=(c+1)) (p0:=p0) (p1:=p1) (p2:=p2) hl h1 (by kernel_rfl)) ?_)
  (intro _ ds h0;cases h0;refine⟨rfl,U.Xu rfl ?_⟩)
  cases ps with
  |nil=>
   have g3:l[i+1]? = _:=g3
   refine U.A0 (C1 (d:=(d+1)) (c:=(c+1)) (p0:=p0) (p1:=p1) (p2:=p2) g3 rfl) ?_
   (intro _ ds h0;cases h0;refine⟨rfl,U.Xu rfl ?_⟩)
   exact U.no rfl (J [] _ Rl.nil rfl)
  |cons p0' pr=>
   have h2:=bI (show C4 l (i+1) ([(3,[35])]++mR (p0'::pr)) from h2)
   obtain⟨a6,b6,e6,h6⟩:=C2 h2
   refine U.A0 (F8 (d:=(d+1)) (c:=(c+1)) (p0:=p0) (p1:=p1) (p2:=p2) hl h6 rfl) ?_
   (intro _ ds h0;cases h0;refine⟨rfl,U.Xu rfl ?_⟩)
   refine U.Xu rfl (U.A0 (VE hl (by omega) hpc (D0 h2) (d+1) (c+1) p0 p1 p2 (by omega) (by omega)) ?_)
   rintro _ ds ⟨ps',hp',h0⟩;cases h0
   refine⟨rfl,U.Xu rfl ?_⟩
   have K:=J ps' _ hp' rfl
   rw [show i+1+(bif (p0'::pr).isEmpty then 0 else 1+(mR (p0'::pr)).length)=i+1+1+(mR (p0'::pr)).length from by show i+1+(1+_)=_;omega] at K
   exact K
 (refine U.eq (fun m=>H5 m l i d c p0 p1 p2 0) (U.A0 (gN (l:=l) (d:=d) (c:=c) (p0:=p0) (p1:=p1) (p2:=p2) (i:Int) (by omega) hd) ?_);intro _ ds h0;cases h0;refine⟨rfl,U.Xu rfl (U.no rfl (U.A0 (P6 (l:=l) (d:=(d+1)) (c:=c) (p0:=p0) (p1:=p1) (p2:=p2) (i:Int) (by omega) hc) ?_))⟩;intro _ ds h0;cases h0;refine⟨rfl,U.Xu rfl (U.A0 (K8 (d:=(d+1)) (c:=(c+1)) (p0:=p0) (p1:=p1) (p2:=p2) h1) ?_)⟩;intro _ ds h0;cases h0;refine⟨rfl,U.Xu rfl ?_⟩)
 (refine U.A0 (C1 (d:=(d+1)) (c:=(c+1)) (p0:=p0) (p1:=p1) (p2:=p2) h1 rfl) ?_;intro _ ds h0;cases h0;refine⟨rfl,U.Xu rfl (U.no rfl (U.A0 (C1 (d:=(d+1)) (c:=(c+1)) (p0:=p0) (p1:=p1) (p2:=p2) h1 rfl) ?_))⟩;intro _ ds h0;cases h0;refine⟨rfl,U.Xu rfl (U.no rfl (U.A0 (C1 (d:=(d+1)) (c:=(c+1)) (p0:=p0) (p1:=p1) (p2:=p2) h1 rfl) ?_))⟩;intro _ ds h0;cases h0;refine⟨rfl,U.Xu rfl (G4 (fun m=>G0.eq_1 m _ _ _ _ _ _ _ _ _ _ _) (U.no rfl ?_))⟩)
 (refine U.A0 (C1 (d:=(d+1)) (c:=(c+1)) (p0:=p0) (p1:=p1) (p2:=p2) h1 rfl) ?_;intro _ ds h0;cases h0;refine⟨rfl,U.Xu rfl (U.no rfl ?_)⟩)
 (refine U.A0 (C1 (d:=(d+1)) (c:=(c+1)) (p0:=p0) (p1:=p1) (p2:=p2) h1 rfl) ?_;intro _ ds h0;cases h0;refine⟨rfl,U.Xu rfl (U.no rfl ?_)⟩)
 (refine U.A0 (C1 (d:=(d+1)) (c:=(c+1)) (p0:=p0) (p1:=p1) (p2:=p2) h1 rfl) ?_;intro _ ds h0;cases h0;refine⟨rfl,U.Xu rfl (U.no rfl ?_)⟩)
 (refine U.A0 (C1 (d:=(d+1)) (c:=(c+1)) (p0:=p0) (p1:=p1) (p2:=p2) h1 rfl) ?_;intro _ ds h0;cases h0;refine⟨rfl,U.Xu rfl (U.no rfl ?_)⟩)
 (refine U.A0 (C1 (d:=(d+1)) (c:=(c+1)) (p0:=p0) (p1:=p1) (p2:=p2) h1 rfl) ?_;intro _ ds h0;cases h0;refine⟨rfl,U.Xu rfl (U.no rfl ?_)⟩)
 (refine U.A0 (C1 (d:=(d+1)) (c:=(c+1)) (p0:=p0) (p1:=p1) (p2:=p2) h1 rfl) ?_;intro _ ds h0;cases h0;refine⟨rfl,U.Xu rfl (U.no rfl ?_)⟩)
 (refine U.A0 (C1 (d:=(d+1)) (c:=(c+1)) (p0:=p0) (p1:=p1) (p2:=p2) h1 rfl) ?_;intro _ ds h0;cases h0;refine⟨rfl,U.Xu rfl (U.no rfl ?_)⟩)
 (refine U.A0 (C1 (d:=(d+1)) (c:=(c+1)) (p0:=p0) (p1:=p1) (p2:=p2) h1 rfl) ?_;intro _ ds h0;cases h0;refine⟨rfl,U.Xu rfl (U.no rfl ?_)⟩)
 refine U.A0 A ?_
 rintro _ ds ⟨ps',qs',hp',hq',h0⟩;cases h0
 refine⟨rfl,U.Xu rfl (U.A0 (cM (l:=l) (d:=d) (c:=(c+1)) (p0:=p0) (p1:=p1) (p2:=p2) _ (by omega) hd) ?_)⟩
 intro _ ds h0;cases h0
 exact⟨rfl,U.Xu rfl (U.ret ⟨_,xF (i:=a1) (j:=b1) (l:=e1) fL.nil fL.nil (by simp) (by simp) (by simp) (by omega) (by omega) Rl.nil Rl.nil Rl.nil hp' hq',rfl⟩)⟩
end
end
section
theorem jA {T:NT}{x:D}(h:xN T x):∃ nm ty q f sg es fs,x=I 1 nm ty sg es fs [] [] [] [] []∧nm∈Z7∧(ty,q,f)∈T∧(ty=eZ→sg=true)∧es.length≤q∧(es.length=0∨es.length=2∨es.length=4)∧(fs=[]∨(f=true∧fs.length=1∧es.length≤2))∧(∀ e∈es,bS 4 e)∧∀ e∈fs,bS 4 e:=h
theorem Pc {nm ty:Zt}{q:Nat}{f sg:Bool}{es fs:List D}(hm:(ty,q,f)∈zH):EY (I 1 nm ty sg es fs [] [] [] [] [])=(1,ty)::(nR nm ty sg es fs++[(3,[59])]):=by
 have ho:(ty==Y2)=false:=by
  simp only [zH,Yh,Ys,List.not_mem_nil,or_false] at hm
  rcases hm with ⟨rfl,_⟩|⟨rfl,_⟩|⟨rfl,_⟩<;>rfl
 show nW nm ty sg es fs++[(3,[59])]=_
 rw [Mr,ho];rfl
section
variable {l:List D} (hl:l.length≤1000000) {n:Nat}
include hl
theorem Lv (q0 q1 q2 d c p0 p1 p2:Int)(hd:0≤d)(hd2:d≤32)(nm:Zt)(sg:Bool)(es:List D){rest:List Tk}(hrest:∀ i,C4 l i rest→∃ k t a b e,l[i]? = some (tk k t a b e)∧t∈sT):∀ (xs:List D) (i:Nat) (acc us:List D),(∀ x∈xs,xN zH x)→C4 l i (xs.flatMap EY++rest)→xs.length+acc.length≤100→Rl (OI (n+1)) us acc→
  U (fun m=>K5 m (.Z 5 l) (i:Int) d c p0 p1 p2 (0:Int) (0:Int) (0:Int) (0:Int) (0:Int) (.str []) (.str []) (.bool false) (7:Int) q0 q1 q2 (.str nm) (.str []) (.bool sg) (.Z 6 []) (.Z 6 []) (.Z 8 []) (.Z 14 []) (.Z 14 []) (.Z 5 []) (.Z 5 []) (.Z 6 es) (.Z 6 []) (.Z 8 []) (.Z 14 acc) (.Z 14 []) (.Z 5 []) (.Z 5 [])) fun r=>∃ ys,Rl (OI (n+1)) (us++xs) ys∧r=(false,[.Z 5 l,.int .i64 ((i+(xs.flatMap EY).length:Nat):Int),.int .i64 d,.int .i64 c,.int .i64 p0,.int .i64 p1,.int .i64 p2,.int .i64 0,.int .i64 0,.int .i64 0,.int .i64 0,.int .i64 0,.str [],.str [],.bool false,.int .i64 7,.int .i64 q0,.int .i64 q1,.int .i64 q2,.str nm,.str [],.bool sg,.Z 6 [],.Z 6 [],.Z 8 [],.Z 14 [],.Z 14 [],.Z 5 [],.Z 5 [],.Z 6 es,.Z 6 [],.Z 8 [],.Z 14 ys,.Z 14 [],.Z 5 [],.Z 5 []]):=by
 intro xs
 induction xs with
 |nil=>
  intro i acc us _ ht _ hr
  obtain⟨kk,t,a,b,e,h1,h2⟩:=hrest i ht
  refine U.eq (fun m=>hM m _ _ _ _ _ _ _ _ _ _ _ _ _ _ _ _ _ _ _ _ _ _ _ _ _ _ _ _ _ _ _ _ _ _ _ _) (U.A0 (dF (d:=d) (c:=c) (p0:=p0) (p1:=p1) (p2:=p2) MZ h1) ?_)
  (intro _ ds h0;cases h0;refine⟨rfl,U.Xu rfl ?_⟩)
  refine U.no (by exact LR (QH h2 (by simp [Pg]))) (U.A0 (dF (d:=d) (c:=c) (p0:=p0) (p1:=p1) (p2:=p2) iF h1) ?_)
  (intro _ ds h0;cases h0;refine⟨rfl,U.Xu rfl ?_⟩)
  refine U.no (by exact LR (QH h2 (by simp [Pg]))) (U.A0 (dF (d:=d) (c:=c) (p0:=p0) (p1:=p1) (p2:=p2) eZ h1) ?_)
  (intro _ ds h0;cases h0;refine⟨rfl,U.Xu rfl ?_⟩)
  refine G4 (fun m=>Q9.eq_1 m _ _ _ _ _ _ _ _ _ _ _ _ _ _ _ _ _ _ _ _ _ _ _ _ _ _ _ _ _ _ _ _ _ _ _ _ _) (U.no (by exact LR (QH h2 (by simp [Pg]))) (U.ret ⟨acc,by rw [Za];exact hr,rfl⟩))
 |cons x xs ih=>
  intro i acc us hx ht hn hr
  obtain⟨nm',ty,q,f,sg',es',fs',ex,g1,g2,g3,g4,g5,g6,g7,g8⟩:=jA (hx x (Yi ..))
  subst ex
  have hf:f=false:=by
   simp only [zH,Yh,Ys,List.not_mem_nil,or_false] at g2
   rcases g2 with ⟨_,_,h⟩|⟨_,_,h⟩|⟨_,_,h⟩<;>exact h
  have hfs:fs'=[]:=by rcases g6 with h|⟨h,_⟩;exact h;rw [hf] at h;cases h
  have hq2:es'.length≤2:=by
   simp only [zH,Yh,Ys,List.not_mem_nil,or_false] at g2
   rcases g2 with ⟨_,h,_⟩|⟨_,h,_⟩|⟨_,h,_⟩<;>omega
  rw [Ze,Pc g2] at ht
  have ht:C4 l i ((1,ty)::(nR nm' ty sg' es' fs'++([(3,[59])]++(xs.flatMap EY++rest)))):=by simpa using ht
  obtain⟨a1,b1,e1,h1⟩:=C2 ht
  obtain⟨h2,h3⟩:=C7.1 (D0 ht)
  have h3:=bI h3
  obtain⟨a3,b3,e3,g9⟩:=C2 h3
  have hR:=D0 h3
  have hi:=EB h1
  have N:=LS hl (Cv (.inr (.inr (.inl rfl)))) g1 g2 g3 g4 g5 g6 g7 g8 h2 g9 rfl a1 b1 e1 d c p0 p1 p2 hd hd2
  rw [← H7 (j:=i) (by omega)] at N
  simp only [Xw] at hn
  have eL:((I 1 nm' ty sg' es' fs' [] [] [] [] []::xs).flatMap EY).length=1+(nR nm' ty sg' es' fs').length+1+(xs.flatMap EY).length:=by
   rw [Ze,Pc g2];simp only [Xx,Xw,Xy];omega
  have J:U (fun m=>Q9 m true l (i:Int) d c p0 p1 p2 0 acc 0 0 0 0 [] [] false 7 q0 q1 q2 nm [] sg [] [] [] [] [] [] [] es [] [] [] [] []) fun r=>∃ ys,Rl (OI (n+1)) (us++I 1 nm' ty sg' es' fs' [] [] [] [] []::xs) ys∧r=(false,[.Z 5 l,.int .i64 ((i+((I 1 nm' ty sg' es' fs' [] [] [] [] []::xs).flatMap EY).length:Nat):Int),.int .i64 d,.int .i64 c,.int .i64 p0,.int .i64 p1,.int .i64 p2,.int .i64 0,.int .i64 0,.int .i64 0,.int .i64 0,.int .i64 0,.str [],.str [],.bool false,.int .i64 7,.int .i64 q0,.int .i64 q1,.int .i64 q2,.str nm,.str [],.bool sg,.Z 6 [],.Z 6 [],.Z 8 [],.Z 14 [],.Z 14 [],.Z 5 [],.Z 5 [],.Z 6 es,.Z 6 [],.Z 8 [],.Z 14 ys,.Z 14 [],.Z 5 [],.Z 5 []]):=by
   refine G4 (fun m=>Q9.eq_1 m _ _ _ _ _ _ _ _ _ _ _ _ _ _ _ _ _ _ _ _ _ _ _ _ _ _ _ _ _ _ _ _ _ _ _ _ _) (U.Xu rfl (U.A0 (K8 (d:=d) (c:=c) (p0:=p0) (p1:=p1) (p2:=p2) h1) ?_))
   (intro _ ds h0;cases h0;refine⟨rfl,U.Xu rfl ?_⟩)
   refine U.A0 N ?_
   rintro _ ds ⟨es2,fs2,hE,hF,h0⟩;cases h0
   have hO:OI (n+1) (I 1 nm' ty sg' es' fs' [] [] [] [] []) (AJ 1 a1 b1 e1 nm' ty sg' es2 fs2 [] [] [] [] []):=xF (i:=a1) (j:=b1) (l:=e1) hE hF (by simp) (by simp) (by simp) (by simp) (by simp) Rl.nil Rl.nil Rl.nil Rl.nil Rl.nil
   have l1:es2.length=es'.length:=hE.2.1.symm
   have l2:fs2.length=fs'.length:=hF.2.1.symm
   refine⟨rfl,U.Xu rfl (U.no (Zk (by show ¬ ((es2.length:Int)>2);omega)) ?_)⟩
   refine G4 (fun m=>cN.eq_1 m _ _ _ _ _ _ _ _ _ _ _ _ _ _ _ _ _ _ _ _ _ _ _ _ _ _ _ _ _ _ _) (U.no (Zk (by show ¬ ((fs2.length:Int)>0);rw [l2,hfs];simp)) (U.A0 (G6 (d:=d) (c:=c) (p0:=p0) (p1:=p1) (p2:=p2) hl [[59]] (by decide) (H8 g9 rfl)) ?_))
   (intro _ ds h0;cases h0;refine⟨rfl,U.Xu rfl ?_⟩)
   refine U.Xu (Yc (by simp only [D8];omega)) (G4 (fun m=>cO.eq_1 m _ _ _ _ _ _ _ _ _ _ _ _ _ _ _ _ _ _ _ _ _ _ _ _ _ _ _ _ _ _ _ _ _ _ _ _) ?_)
   have K:=ih (i+1+(nR nm' ty sg' es' fs').length+1) (acc++[AJ 1 a1 b1 e1 nm' ty sg' es2 fs2 [] [] [] [] []]) (us++[I 1 nm' ty sg' es' fs' [] [] [] [] []]) (fun x h=>hx x (Yk _ h)) hR (by rw [Xx,Yu];omega) (hr.snoc hO)
   refine K.mono fun r ⟨ys,k1,k2⟩=>⟨ys,by rw [Yl] at k1;exact k1,?_⟩
   rw [k2,eL,show i+(1+(nR nm' ty sg' es' fs').length+1+(xs.flatMap EY).length)=i+1+(nR nm' ty sg' es' fs').length+1+(xs.flatMap EY).length from by omega]
  have hty:ty=MZ∨ty=iF∨ty=eZ:=by
   simp only [zH,Yh,Ys,List.not_mem_nil,or_false] at g2
   rcases g2 with ⟨h,_⟩|⟨h,_⟩|⟨h,_⟩
   ·exact .inl h
   ·exact .inr (.inl h)
   ·exact .inr (.inr h)
  refine U.eq (fun m=>hM m _ _ _ _ _ _ _ _ _ _ _ _ _ _ _ _ _ _ _ _ _ _ _ _ _ _ _ _ _ _ _ _ _ _ _ _) (U.A0 (dF (d:=d) (c:=c) (p0:=p0) (p1:=p1) (p2:=p2) MZ h1) ?_)
  (intro _ ds h0;cases h0;refine⟨rfl,U.Xu rfl ?_⟩)
  rcases hty with rfl|rfl|rfl
  ·exact U.Xu rfl J
  ·refine U.no rfl (U.A0 (dF (d:=d) (c:=c) (p0:=p0) (p1:=p1) (p2:=p2) iF h1) ?_)
   (intro _ ds h0;cases h0;refine⟨rfl,U.Xu rfl ?_⟩)
   exact U.Xu rfl J
  ·refine U.no rfl (U.A0 (dF (d:=d) (c:=c) (p0:=p0) (p1:=p1) (p2:=p2) iF h1) ?_)
   (intro _ ds h0;cases h0;refine⟨rfl,U.Xu rfl ?_⟩)
   refine U.no rfl (U.A0 (dF (d:=d) (c:=c) (p0:=p0) (p1:=p1) (p2:=p2) eZ h1) ?_)
   (intro _ ds h0;cases h0;refine⟨rfl,U.Xu rfl ?_⟩)
   exact J
theorem Qs {sg:Bool}{es its:List D}{s:D}(h2e:es.length=0∨es.length=2)(he:∀ e∈es,bS 4 e)(h1n:its.length≤2)(hx:∀ x∈its,xN zH x)(hs:qL 4 s){i:Nat}(ht:C4 l i ([(1,BI)]++((bif sg then [(1,lD)] else [])++(mM es++([(1,[102]),(3,[59])]++(its.flatMap EY++(wS 4 s++[(1,lM)]))))))) :
  Pi (fun m=>G1 m) l i ((bif sg then 1 else 0)+(mM es).length+(its.flatMap EY).length+(wS 4 s).length+4) (1+qS 4 s) (OI (n+1+1) (I 7 [102] [] sg es [] [s] its [] [] [])) 16:=by
 have ht:=bI ht
 obtain⟨a1,b1,e1,h1⟩:=C2 ht
 obtain⟨hsg,ht⟩:=C7.1 (D0 ht)
 have sgl:((bif sg then [(1,lD)] else []):List Tk).length=(bif sg then 1 else 0):=by cases sg<;>rfl
 rw [sgl] at ht
 obtain⟨hb,ht⟩:=C7.1 ht
 have ht:C4 l (i+1+(bif sg then 1 else 0)+(mM es).length) ((1,[102])::(3,[59])::(its.flatMap EY++(wS 4 s++[(1,lM)]))):=ht
 obtain⟨a2,b2,e2,h2⟩:=C2 ht
 obtain⟨a3,b3,e3,h3⟩:=C2 (D0 ht)
 have hD:=D0 (D0 ht)
 obtain⟨_,hS⟩:=C7.1 hD
 obtain⟨hS,h9⟩:=C7.1 hS
 obtain⟨a9,b9,e9,h9⟩:=C2 h9
 intro d c p0 p1 p2 hd hd2 hc hc2
 have S0:U (fun m=>A8 m (.str lD) (.Z 5 l) ((i+1:Nat):Int) (d+1:Int) (c+1:Int) p0 p1 p2 (0:Int)) fun r=>r=(true,[.bool sg,.Z 5 l,.int .i64 ((i+1+(bif sg then 1 else 0):Nat):Int),.int .i64 (d+1),.int .i64 (c+1),.int .i64 p0,.int .i64 p1,.int .i64 p2,.int .i64 0]):=by
  cases sg with
  |true=>
   obtain⟨a4,b4,e4,h4⟩:=C2 (show C4 l (i+1) [(1,lD)] from hsg)
   exact F8 (d:=(d+1)) (c:=(c+1)) (p0:=p0) (p1:=p1) (p2:=p2) hl h4 rfl
  |false=>
   match es,h2e,hb,h2 with
   |[],_,_,h2=>exact C1 (d:=(d+1)) (c:=(c+1)) (p0:=p0) (p1:=p1) (p2:=p2) (show l[i+1]? = _ from h2) rfl
   |[x,y],_,hb,_=>
    obtain⟨a4,b4,e4,h4⟩:=C2 (show C4 l (i+1) ((3,[91])::_) from hb)
    exact C1 (d:=(d+1)) (c:=(c+1)) (p0:=p0) (p1:=p1) (p2:=p2) h4 rfl
 have B:=FG hl h2e he hb h2 rfl (d+1) (c+1) p0 p1 p2 (by omega) (by omega)
 have I:=Vz hl 4 s hs _ hS (fun _=>⟨1,lM,a9,b9,e9,h9,rfl⟩) (d+1) (c+1) p0 p1 p2 (by omega) (by show d+1+14≤40;omega) (by omega) (by omega)
 have A:U (fun m=>R7 m (.agg [.int .i64 a1,.int .i64 b1,.int .i64 e1]) (.Z 5 l) ((i+1:Nat):Int) (d+1:Int) (c+1:Int) p0 p1 p2 (0:Int)) fun r=>∃ es' its' y,fL es es'∧Rl (OI (n+1)) its its'∧OS 4 s y∧r=(true,[AJ 7 a1 b1 e1 [102] [] sg es' [] [y] its' [] [] [],.Z 5 l,.int .i64 ((i+((bif sg then 1 else 0)+(mM es).length+(its.flatMap EY).length+(wS 4 s).length+4):Nat):Int),.int .i64 (d+1),.int .i64 (c+1+(qS 4 s:Int)),.int .i64 p0,.int .i64 p1,.int .i64 p2,.int .i64 0]):=by
  refine U.eq (fun m=>rP m a1 b1 e1 l _ (d+1) (c+1) p0 p1 p2 0) (U.A0 S0 ?_)
  (intro _ ds h0;cases h0;refine⟨rfl,U.Xu rfl ?_⟩)
  refine U.A0 B ?_
  rintro _ ds ⟨es',hE,h0⟩;cases h0
  have Dc:=Lv hl (n:=n) a1 b1 e1 (d+1) (c+1) p0 p1 p2 (by omega) (by omega) [102] sg es' (rest:=wS 4 s++[(1,lM)]) (fun j hj=>Kh hs (C7.1 hj).1) its (i+1+(bif sg then 1 else 0)+(mM es).length+1+1) [] [] hx hD (by simp;omega) Rl.nil
  refine⟨rfl,U.Xu rfl (U.A0 (gJ (d:=(d+1)) (c:=(c+1)) (p0:=p0) (p1:=p1) (p2:=p2) hl h2 (by kernel_rfl)) ?_)⟩
  (intro _ ds h0;cases h0;refine⟨rfl,U.Xu rfl ?_⟩)
  refine U.A0 (G6 (d:=(d+1)) (c:=(c+1)) (p0:=p0) (p1:=p1) (p2:=p2) hl [[59]] (by decide) (H8 h3 rfl)) ?_
  (intro _ ds h0;cases h0;refine⟨rfl,U.Xu rfl ?_⟩)
  refine U.D4 Dc (fun ds h=>by obtain⟨_,_,h⟩:=h;cases h) fun ds h=>?_
  obtain⟨its',hI,h⟩:=h
  cases h
  refine U.Xu rfl (U.A0 I ?_)
  rintro _ ds ⟨y,hy,h0⟩;cases h0
  have hy0:=hy
  obtain⟨k5,i5,j5,l5,t5,es5,bs5,zs5,es6,bs6,zs6,_,rfl⟩:=oS hy
  refine⟨rfl,U.Xu rfl (U.A0 (G6 (d:=(d+1)) (c:=(c+1+(qS 4 s:Int))) (p0:=p0) (p1:=p1) (p2:=p2) hl [lM] (by decide) (H8 h9 rfl)) ?_)⟩
  (intro _ ds h0;cases h0;refine⟨rfl,U.Xu rfl ?_⟩)
  refine U.ret ⟨es',its',_,hE,hI,hy0,?_⟩
  rw [show i+((bif sg then 1 else 0)+(mM es).length+(its.flatMap EY).length+(wS 4 s).length+4)=i+1+(bif sg then 1 else 0)+(mM es).length+1+1+(its.flatMap EY).length+(wS 4 s).length+1 from by omega]
  rfl
 (refine U.eq (fun m=>H5 m l i d c p0 p1 p2 0) (U.A0 (gN (l:=l) (d:=d) (c:=c) (p0:=p0) (p1:=p1) (p2:=p2) (i:Int) (by omega) hd) ?_);intro _ ds h0;cases h0;refine⟨rfl,U.Xu rfl (U.no rfl (U.A0 (P6 (l:=l) (d:=(d+1)) (c:=c) (p0:=p0) (p1:=p1) (p2:=p2) (i:Int) (by omega) hc) ?_))⟩;intro _ ds h0;cases h0;refine⟨rfl,U.Xu rfl (U.A0 (K8 (d:=(d+1)) (c:=(c+1)) (p0:=p0) (p1:=p1) (p2:=p2) h1) ?_)⟩;intro _ ds h0;cases h0;refine⟨rfl,U.Xu rfl ?_⟩)
 (refine U.A0 (C1 (d:=(d+1)) (c:=(c+1)) (p0:=p0) (p1:=p1) (p2:=p2) h1 rfl) ?_;intro _ ds h0;cases h0;refine⟨rfl,U.Xu rfl (U.no rfl (U.A0 (C1 (d:=(d+1)) (c:=(c+1)) (p0:=p0) (p1:=p1) (p2:=p2) h1 rfl) ?_))⟩;intro _ ds h0;cases h0;refine⟨rfl,U.Xu rfl (U.no rfl (U.A0 (C1 (d:=(d+1)) (c:=(c+1)) (p0:=p0) (p1:=p1) (p2:=p2) h1 rfl) ?_))⟩;intro _ ds h0;cases h0;refine⟨rfl,U.Xu rfl (G4 (fun m=>G0.eq_1 m _ _ _ _ _ _ _ _ _ _ _) (U.no rfl ?_))⟩)
 (refine U.A0 (C1 (d:=(d+1)) (c:=(c+1)) (p0:=p0) (p1:=p1) (p2:=p2) h1 rfl) ?_;intro _ ds h0;cases h0;refine⟨rfl,U.Xu rfl (U.no rfl ?_)⟩)
 (refine U.A0 (C1 (d:=(d+1)) (c:=(c+1)) (p0:=p0) (p1:=p1) (p2:=p2) h1 rfl) ?_;intro _ ds h0;cases h0;refine⟨rfl,U.Xu rfl (U.no rfl ?_)⟩)
 (refine U.A0 (C1 (d:=(d+1)) (c:=(c+1)) (p0:=p0) (p1:=p1) (p2:=p2) h1 rfl) ?_;intro _ ds h0;cases h0;refine⟨rfl,U.Xu rfl (U.no rfl ?_)⟩)
 (refine U.A0 (C1 (d:=(d+1)) (c:=(c+1)) (p0:=p0) (p1:=p1) (p2:=p2) h1 rfl) ?_;intro _ ds h0;cases h0;refine⟨rfl,U.Xu rfl (U.no rfl ?_)⟩)
 (refine U.A0 (F8 (d:=(d+1)) (c:=(c+1)) (p0:=p0) (p1:=p1) (p2:=p2) hl h1 rfl) ?_;intro _ ds h0;cases h0;refine⟨rfl,U.Xu rfl (U.Xu rfl ?_)⟩)
 refine U.A0 A ?_
 rintro _ ds ⟨es',its',y,hE,hI,hy,h0⟩;cases h0
 refine⟨rfl,U.Xu rfl ?_⟩
 (refine G4 (fun m=>E4.eq_1 m _ _ _ _ _ _ _ _ _) (U.A0 (cM (l:=l) (d:=d) (c:=(c+1+(qS 4 s:Int))) (p0:=p0) (p1:=p1) (p2:=p2) _ (by omega) hd) ?_);intro _ ds h0;cases h0;refine⟨rfl,U.Xu rfl ?_⟩)
 refine U.ret ⟨_,xF (i:=a1) (j:=b1) (l:=e1) hE fL.nil (by simp) (by omega) (by simp) (by simp) (by simp) (Rl.one hy) hI Rl.nil Rl.nil Rl.nil,?_⟩
 rw [show c+((1+qS 4 s:Nat):Int)=c+1+(qS 4 s:Int) from by omega]
 rfl
end
def Xp (q:D→Nat)(k:Int)(bs its els:List D):Nat:=
 1+(bif k==7 then qS 4 (x0 bs) else sQ (qS 4) bs+sQ (fun g=>sQ q (g.at_ 7).l) its+sQ (fun g=>sQ q (g.at_ 7).l) els)
def qI:Nat→D→Nat
 |0,_=>0
 |n+1,x=>Xp (qI n) (x.at_ 0).i (x.at_ 6).l (x.at_ 7).l (x.at_ 8).l
def IH (n:Nat):Nat:=n+15
def iT:List Zt:=[ID,iF,eZ,mF,IM,pI,mD,BI,sP,uZ,vI]
def Ur:List Zt:=[dD,nP,cT]
theorem Qu:(iT.all fun t=>Ur.all fun w=>!(t==w))=true:=by kernel_rfl
theorem Ox {t w:Zt}(h:t∈iT)(hw:w∈Ur):(t==w)=false:=by
 have:=Yg.1 (Yg.1 Qu t h) w hw
 rwa [Zd] at this
theorem AK {l:List D}{i:Nat}{k:Int}{t:Zt}{ws:List Tk}(h:C4 l i ((k,t)::ws))(ht:t∈iT):∃ k t a b e,l[i]? = some (tk k t a b e)∧t∈iT:=by
 obtain⟨a,b,e,h⟩:=C2 h
 exact⟨k,t,a,b,e,h,ht⟩
theorem Bo {l:List D}{T:NT}(hT:T=sR∨T=GL){n:Nat}{x:D}(h:xN T x){i:Nat}(ht:C4 l i (wI (n+1) x)):∃ k t a b e,l[i]? = some (tk k t a b e)∧t∈iT:=by
 obtain⟨nm,ty,q,f,sg,es,fs,rfl,_,hm,_⟩:=jA h
 have hty:(ty==Y2)=false∧ty∈iT:=by
  rcases hT with rfl|rfl
  ·simp only [sR,Yn,Ys] at hm
   rw [hm.1];exact⟨rfl,by simp [iT]⟩
  ·simp only [GL,Yh,Ys,List.not_mem_nil,or_false] at hm
   rcases hm with h|h
   ·rw [h.1];exact⟨rfl,by simp [iT]⟩
   ·rw [h.1];exact⟨rfl,by simp [iT]⟩
 have ht:C4 l i (nW nm ty sg es fs++[(3,[59])]):=ht
 rw [Mr,hty.1] at ht
 exact AK (show C4 l i ((1,ty)::_) from ht) hty.2
theorem Im {l:List D}{n:Nat}{x:D}(h:xI n x){i:Nat}(ht:C4 l i (wI n x)):∃ k t a b e,l[i]? = some (tk k t a b e)∧t∈iT:=by
 cases n with
 |zero=>exact h.elim
 |succ n=>
  rcases h with (h|h)|⟨nm,e,rfl,hn,he⟩|⟨nm,rfl,hn⟩|⟨l0,e,rfl,hlf,he⟩|⟨s0,rfl,hs⟩|⟨s0,rfl,hs⟩|⟨sg,es,its,s0,rfl,_⟩|⟨k,ps,qs,rfl,_⟩|⟨es,its,rfl,h3,_⟩|⟨e,its,els,rfl,he,_⟩
  ·exact Bo (.inl rfl) h ht
  ·exact Bo (.inr rfl) h ht
  ·exact AK (show C4 l i ((1,mF)::_) from ht) (by simp [iT])
  ·exact AK (show C4 l i ((1,IM)::_) from ht) (by simp [iT])
  ·exact AK (show C4 l i ((1,pI)::_) from ht) (by simp [iT])
  ·exact AK (show C4 l i ((1,mD)::_) from ht) (by simp [iT])
  ·exact AK (show C4 l i ((1,mD)::_) from ht) (by simp [iT])
  ·exact AK (show C4 l i ((1,BI)::_) from ht) (by simp [iT])
  ·exact AK (show C4 l i ((1,sP)::_) from ht) (by simp [iT])
  ·match es,h3,ht with
   |[a,b,c],_,ht=>exact AK (show C4 l i ((1,uZ)::_) from ht) (by simp [iT])
  ·exact AK (show C4 l i ((1,vI)::_) from ht) (by simp [iT])
def Xc (l:List D)(n:Nat):Prop:=∀ x,xI n x→∀ i,C4 l i (wI n x)→Gg l (i+(wI n x).length)→Pi (fun m=>G1 m) l i (wI n x).length (qI n x) (OI (2*n) x) (IH n)
section
variable {l:List D} (hl:l.length≤1000000) {n:Nat} (ih:Xc l n)
include hl ih
theorem Mg {w:Zt}(hw:w=dD∨w=nP)(d p0 p1 p2:Int)(hd:0≤d)(hd2:d+IH n≤40):∀ (xs:List D) (i:Nat) (c:Int) (acc us:List D),(∀ x∈xs,xI n x)→C4 l i (xs.flatMap (wI n)++[(1,w)])→xs.length+acc.length≤100→0≤c→c+sQ (qI n) xs≤4000→Rl (OI (2*n)) us acc→
  U (fun m=>P0 m (.str w) (.Z 5 l) (i:Int) d c p0 p1 p2 (0:Int) (.Z 14 acc)) fun r=>∃ ys,Rl (OI (2*n)) (us++xs) ys∧r=(false,[.str w,.Z 5 l,.int .i64 ((i+((xs.flatMap (wI n)).length+1):Nat):Int),.int .i64 d,.int .i64 (c+(sQ (qI n) xs:Nat)),.int .i64 p0,.int .i64 p1,.int .i64 p2,.int .i64 0,.Z 14 ys]):=by
 intro xs
 have hwi:w∈Ur:=by rcases hw with rfl|rfl<;>simp [Ur]
 induction xs with
 |nil=>
  intro i c acc us _ ht _ hc _ hr
  obtain⟨a,b,e,h1⟩:=C2 (show C4 l i [(1,w)] from ht)
  refine U.eq (fun m=>kB m _ _ _ _ _ _ _ _ _ _) (U.Xu rfl (U.A0 (F8 (d:=d) (c:=c) (p0:=p0) (p1:=p1) (p2:=p2) hl h1 (by rw [Zm];rfl)) ?_))
  (intro _ ds h0;cases h0;refine⟨rfl,U.Xu rfl ?_⟩)
  refine G4 (fun m=>bM.eq_1 m _ _ _ _ _ _ _ _ _ _ _) (U.no rfl (U.ret ⟨acc,by rw [Za];exact hr,?_⟩))
  show (_:Bool×List D)=(false,[.str w,.Z 5 l,.int .i64 ((i+(0+1):Nat):Int),.int .i64 d,.int .i64 (c+((0:Nat):Int)),.int .i64 p0,.int .i64 p1,.int .i64 p2,.int .i64 0,_])
  rw [show c+((0:Nat):Int)=c from by omega]
  rfl
 |cons x xs ihx=>
  intro i c acc us hx ht hn hc hq hr
  have hq:c+((qI n x+sQ (qI n) xs:Nat):Int)≤4000:=hq
  rw [Ze,Yl] at ht
  obtain⟨h1,h2⟩:=C7.1 ht
  have hwx:=hx x (Yi ..)
  obtain⟨k,t,a0,b0,e0,h0,hti⟩:=Im hwx h1
  have hNel:Gg l (i+(wI n x).length):=by
   cases xs with
   |nil=>
    obtain⟨a,b,e,h3⟩:=C2 (show C4 l _ [(1,w)] from h2)
    exact⟨1,w,a,b,e,h3,by rcases hw with rfl|rfl<;>rfl⟩
   |cons x2 xs=>
    rw [Ze,Yl] at h2
    obtain⟨k,t,a,b,e,g1,g2⟩:=Im (hx x2 (by simp)) (C7.1 h2).1
    exact⟨k,t,a,b,e,g1,Ox g2 (by simp [Ur])⟩
  have I:=ih x hwx i h1 hNel d c p0 p1 p2 hd hd2 hc (by omega)
  simp only [Xw] at hn
  refine U.eq (fun m=>kB m _ _ _ _ _ _ _ _ _ _) (U.Xu rfl (U.A0 (C1 (d:=d) (c:=c) (p0:=p0) (p1:=p1) (p2:=p2) h0 (LR (Ox hti hwi))) ?_))
  (intro _ ds h0;cases h0;refine⟨rfl,U.Xu rfl ?_⟩)
  refine G4 (fun m=>bM.eq_1 m _ _ _ _ _ _ _ _ _ _ _) (U.Xu rfl (U.A0 I ?_))
  rintro _ ds ⟨y,hy,h3⟩;cases h3
  refine⟨rfl,U.Xu rfl (U.Xu (Yc (by show acc.length+[y].length≤D8;simp only [D8,Xw,Xy];omega)) ?_)⟩
  have K:=ihx (i+(wI n x).length) (c+(qI n x:Int)) (acc++[y]) (us++[x]) (fun z h=>hx z (Yk _ h)) h2 (by rw [Xx,Yu];omega) (by omega) (by omega) (hr.snoc hy)
  refine K.mono fun r ⟨ys,g1,g2⟩=>⟨ys,by rw [Yl] at g1;exact g1,?_⟩
  rw [g2,Ze,Xx,show i+(wI n x).length+((xs.flatMap (wI n)).length+1)=i+((wI n x).length+(xs.flatMap (wI n)).length+1) from by omega]
  show (_:Bool×List D)=(false,[.str w,.Z 5 l,.int .i64 ((i+((wI n x).length+(xs.flatMap (wI n)).length+1):Nat):Int),.int .i64 d,.int .i64 (c+((qI n x+sQ (qI n) xs:Nat):Int)),.int .i64 p0,.int .i64 p1,.int .i64 p2,.int .i64 0,_])
  rw [show c+(qI n x:Int)+(sQ (qI n) xs:Int)=c+((qI n x+sQ (qI n) xs:Nat):Int) from by omega]
theorem VP {w:Zt}(hw:w=dD∨w=nP){xs:List D}(hn:xs.length≤10)(hx:∀ x∈xs,xI n x){i:Nat}(ht:C4 l i (xs.flatMap (wI n)++[(1,w)]))(d c p0 p1 p2:Int)(hd:0≤d)(hd2:d+IH n≤40)(hc:0≤c)(hq:c+sQ (qI n) xs≤4000) :
  U (fun m=>L6 m (.str w) (.Z 5 l) (i:Int) d c p0 p1 p2 (0:Int)) fun r=>∃ ys,Rl (OI (2*n)) xs ys∧r=(true,[.Z 5 l,.int .i64 ((i+((xs.flatMap (wI n)).length+1):Nat):Int),.int .i64 d,.int .i64 (c+(sQ (qI n) xs:Nat)),.int .i64 p0,.int .i64 p1,.int .i64 p2,.int .i64 0,.Z 14 ys]):=by
 refine U.eq (fun m=>vE m w l i d c p0 p1 p2 0) (U.D4 (Mg hl ih hw d p0 p1 p2 hd hd2 xs i c [] [] hx ht (by simp;omega) hc hq Rl.nil) (fun ds h=>by obtain⟨_,_,h⟩:=h;cases h) fun ds h=>?_)
 obtain⟨ys,hy,h⟩:=h
 cases h
 exact U.Xu rfl (U.ret ⟨ys,hy,rfl⟩)
theorem yT {t:Zt}(hg:oQ t=true){xs:List D}(hn:xs.length≤2)(hx:∀ x∈xs,xI n x){i:Nat}(ht:C4 l i ([(1,Q6),(3,[58]),(1,t)]++(xs.flatMap (wI n)++[(1,dD)])))(d c p0 p1 p2:Int)(hd:0≤d)(hd2:d+IH n≤40)(hc:0≤c)(hq:c+sQ (qI n) xs≤4000) :
  U (fun m=>O5 m (.Z 5 l) (i:Int) d c p0 p1 p2 (0:Int)) fun r=>∃ y,OI (2*n+1) (gB t xs) y∧r=(true,[.Z 5 l,.int .i64 ((i+((xs.flatMap (wI n)).length+4):Nat):Int),.int .i64 d,.int .i64 (c+(sQ (qI n) xs:Nat)),.int .i64 p0,.int .i64 p1,.int .i64 p2,.int .i64 0,.Z 14 [y]]):=by
 have ht:C4 l i ((1,Q6)::(3,[58])::(1,t)::(xs.flatMap (wI n)++[(1,dD)])):=ht
 obtain⟨a1,b1,e1,h1⟩:=C2 ht
 obtain⟨a2,b2,e2,h2⟩:=C2 (D0 ht)
 obtain⟨a3,b3,e3,h3⟩:=C2 (D0 (D0 ht))
 have h4:=D0 (D0 (D0 ht))
 have hw:CI l i [Q6,[58]]:=by
  intro j hj
  have:j=0∨j=1:=by simp at hj;omega
  rcases this with rfl|rfl
  ·exact⟨1,_,_,_,h1,rfl⟩
  ·exact⟨3,_,_,_,h2,rfl⟩
 refine U.eq (fun m=>vA m l i d c p0 p1 p2 0) (U.A0 (K8 (d:=d) (c:=c) (p0:=p0) (p1:=p1) (p2:=p2) h1) ?_)
 (intro _ ds h0;cases h0;refine⟨rfl,U.Xu rfl ?_⟩)
 refine U.A0 (G6 (d:=d) (c:=c) (p0:=p0) (p1:=p1) (p2:=p2) hl [Q6,[58]] (by decide) hw) ?_
 (intro _ ds h0;cases h0;refine⟨rfl,U.Xu rfl ?_⟩)
 refine U.A0 (gJ (d:=d) (c:=c) (p0:=p0) (p1:=p1) (p2:=p2) hl h3 hg) ?_
 (intro _ ds h0;cases h0;refine⟨rfl,U.Xu rfl ?_⟩)
 refine U.A0 (VP hl ih (.inl rfl) (by omega) hx h4 d c p0 p1 p2 hd hd2 hc hq) ?_
 rintro _ ds ⟨ys,hy,h0⟩;cases h0
 refine⟨rfl,U.Xu rfl (U.ret ⟨_,xF (i:=a1) (j:=b1) (l:=e1) fL.nil fL.nil (by simp) (by omega) (by simp) (by simp) (by simp) Rl.nil hy Rl.nil Rl.nil Rl.nil,?_⟩)⟩
 rw [show i+((xs.flatMap (wI n)).length+4)=i+1+1+1+((xs.flatMap (wI n)).length+1) from by omega]
 rfl
theorem Ia {es its:List D}(h3:es.length=3)(he:∀ e∈es,bS 4 e)(hn:its.length≤2)(hx:∀ x∈its,xI n x){i:Nat}(ht:C4 l i (Z9 [105] es++([(1,Q6),(3,[58]),(1,[103])]++(its.flatMap (wI n)++[(1,dD)])))) :
  Pi (fun m=>G1 m) l i ((Z9 [105] es).length+((its.flatMap (wI n)).length+4)) (1+sQ (qI n) its) (OI (2*n+1+1) (I 9 [105] [] false es [] [] [gB [103] its] [] [] [])) (IH (n+1)):=by
 obtain⟨h2,hB⟩:=C7.1 ht
 obtain⟨a1,b1,e1,h1⟩:∃ a b e,l[i]? = some (tk 1 uZ a b e):=by
  match es,h3,h2 with
  |[x,y,z],_,h2=>exact C2 (show C4 l i ((1,uZ)::_) from h2)
 intro d c p0 p1 p2 hd hd2 hc hc2
 have hH:d+1+(IH n:Int)≤40:=by unfold IH at hd2 ⊢;omega
 unfold IH at hd2
 have L:=Bk hl (t:=[105]) (by kernel_rfl) h3 he h2 (d+1) (c+1) p0 p1 p2 (by omega) (by omega)
 have B:=yT hl ih (t:=[103]) (by kernel_rfl) hn hx hB (d+1) (c+1) p0 p1 p2 (by omega) hH (by omega) (by omega)
 (refine U.eq (fun m=>H5 m l i d c p0 p1 p2 0) (U.A0 (gN (l:=l) (d:=d) (c:=c) (p0:=p0) (p1:=p1) (p2:=p2) (i:Int) (by omega) hd) ?_);intro _ ds h0;cases h0;refine⟨rfl,U.Xu rfl (U.no rfl (U.A0 (P6 (l:=l) (d:=(d+1)) (c:=c) (p0:=p0) (p1:=p1) (p2:=p2) (i:Int) (by omega) hc) ?_))⟩;intro _ ds h0;cases h0;refine⟨rfl,U.Xu rfl (U.A0 (K8 (d:=(d+1)) (c:=(c+1)) (p0:=p0) (p1:=p1) (p2:=p2) h1) ?_)⟩;intro _ ds h0;cases h0;refine⟨rfl,U.Xu rfl ?_⟩)
 (refine U.A0 (C1 (d:=(d+1)) (c:=(c+1)) (p0:=p0) (p1:=p1) (p2:=p2) h1 rfl) ?_;intro _ ds h0;cases h0;refine⟨rfl,U.Xu rfl (U.no rfl (U.A0 (C1 (d:=(d+1)) (c:=(c+1)) (p0:=p0) (p1:=p1) (p2:=p2) h1 rfl) ?_))⟩;intro _ ds h0;cases h0;refine⟨rfl,U.Xu rfl (U.no rfl (U.A0 (C1 (d:=(d+1)) (c:=(c+1)) (p0:=p0) (p1:=p1) (p2:=p2) h1 rfl) ?_))⟩;intro _ ds h0;cases h0;refine⟨rfl,U.Xu rfl (G4 (fun m=>G0.eq_1 m _ _ _ _ _ _ _ _ _ _ _) (U.no rfl ?_))⟩)
 (refine U.A0 (C1 (d:=(d+1)) (c:=(c+1)) (p0:=p0) (p1:=p1) (p2:=p2) h1 rfl) ?_;intro _ ds h0;cases h0;refine⟨rfl,U.Xu rfl (U.no rfl ?_)⟩)
 (refine U.A0 (C1 (d:=(d+1)) (c:=(c+1)) (p0:=p0) (p1:=p1) (p2:=p2) h1 rfl) ?_;intro _ ds h0;cases h0;refine⟨rfl,U.Xu rfl (U.no rfl ?_)⟩)
 (refine U.A0 (C1 (d:=(d+1)) (c:=(c+1)) (p0:=p0) (p1:=p1) (p2:=p2) h1 rfl) ?_;intro _ ds h0;cases h0;refine⟨rfl,U.Xu rfl (U.no rfl ?_)⟩)
 (refine U.A0 (C1 (d:=(d+1)) (c:=(c+1)) (p0:=p0) (p1:=p1) (p2:=p2) h1 rfl) ?_;intro _ ds h0;cases h0;refine⟨rfl,U.Xu rfl (U.no rfl ?_)⟩)
 (refine U.A0 (C1 (d:=(d+1)) (c:=(c+1)) (p0:=p0) (p1:=p1) (p2:=p2) h1 rfl) ?_;intro _ ds h0;cases h0;refine⟨rfl,U.Xu rfl (U.no rfl ?_)⟩)
 (refine U.A0 (C1 (d:=(d+1)) (c:=(c+1)) (p0:=p0) (p1:=p1) (p2:=p2) h1 rfl) ?_;intro _ ds h0;cases h0;refine⟨rfl,U.Xu rfl (U.no rfl ?_)⟩)
 (refine U.A0 (F8 (d:=(d+1)) (c:=(c+1)) (p0:=p0) (p1:=p1) (p2:=p2) hl h1 rfl) ?_;intro _ ds h0;cases h0;refine⟨rfl,U.Xu rfl (U.Xu rfl ?_)⟩)
 refine U.A0 L ?_
 rintro _ ds ⟨es',hE,h0⟩;cases h0
 refine⟨rfl,U.Xu rfl (U.A0 B ?_)⟩
 rintro _ ds ⟨y,hy,h0⟩;cases h0
 refine⟨rfl,U.Xu rfl ?_⟩
 (refine G4 (fun m=>E4.eq_1 m _ _ _ _ _ _ _ _ _) (U.A0 (cM (l:=l) (d:=d) (c:=(c+1+(sQ (qI n) its:Int))) (p0:=p0) (p1:=p1) (p2:=p2) _ (by omega) hd) ?_);intro _ ds h0;cases h0;refine⟨rfl,U.Xu rfl ?_⟩)
 refine U.ret ⟨_,xF (i:=a1) (j:=b1) (l:=e1) hE fL.nil (by simp) (by simp) (by simp) (by simp) (by simp) Rl.nil (Rl.one hy) Rl.nil Rl.nil Rl.nil,?_⟩
 rw [show i+((Z9 [105] es).length+((its.flatMap (wI n)).length+4))=i+(Z9 [105] es).length+((its.flatMap (wI n)).length+4) from by omega,show c+((1+sQ (qI n) its:Nat):Int)=c+1+(sQ (qI n) its:Int) from by omega]
 rfl
theorem Ma {e:D}{its els:List D}(he:bS 4 e)(hn:its.length≤2)(hx:∀ x∈its,xI n x)(hel:els=[]∨∃ ys,els=[gB [101] ys]∧ys.length≤2∧∀ i∈ys,xI n i){i:Nat}(ht:C4 l i (wI (n+1) (I 10 [] [] false [e] [] [] [gB [116] its] els [] [])))(hN:Gg l (i+(wI (n+1) (I 10 [] [] false [e] [] [] [gB [116] its] els [] [])).length)) :
  Pi (fun m=>G1 m) l i (wI (n+1) (I 10 [] [] false [e] [] [] [gB [116] its] els [] [])).length (qI (n+1) (I 10 [] [] false [e] [] [] [gB [116] its] els [] [])) (OI (2*n+1+1) (I 10 [] [] false [e] [] [] [gB [116] its] els [] [])) (IH (n+1)):=by
 have eB:[gB [116] its].flatMap (FF (wI n))=[(1,Q6),(3,[58]),(1,[116])]++(its.flatMap (wI n)++[(1,dD)]):=by
  show ([(1,Q6),(3,[58]),(1,[116])]++(its.flatMap (wI n)++[(1,dD)]))++[]=_
  rw [Za]
 have eBl:([gB [116] its].flatMap (FF (wI n))).length=(its.flatMap (wI n)).length+4:=by
  rw [eB];simp only [Xx,Xw,Xy];omega
 have eW:wI (n+1) (I 10 [] [] false [e] [] [] [gB [116] its] els [] [])=[(1,vI)]++(pW e++([gB [116] its].flatMap (FF (wI n))++(bif els.isEmpty then [] else [(1,cT)]++els.flatMap (FF (wI n))))):=rfl
 intro d c p0 p1 p2 hd hd2 hc hc2
 have hH:d+1+(IH n:Int)≤40:=by unfold IH at hd2 ⊢;omega
 unfold IH at hd2
 rw [eW] at ht hN
 have ht:=bI ht
 obtain⟨a1,b1,e1,h1⟩:=C2 ht
 obtain⟨h2,hq3⟩:=C7.1 (D0 ht)
 obtain⟨h3,h4⟩:=C7.1 hq3
 rw [eBl] at h4
 rw [eB] at h3
 clear hq3
 rcases hel with rfl|⟨ys,rfl,hyn,hyx⟩
 ·have eL:(wI (n+1) (I 10 [] [] false [e] [] [] [gB [116] its] [] [] [])).length=1+(pW e).length+((its.flatMap (wI n)).length+4):=by
   rw [eW];simp only [List.isEmpty_nil,cond_true,Za,Xx,eBl,Xw,Xy]
   omega
  have eQ:qI (n+1) (I 10 [] [] false [e] [] [] [gB [116] its] [] [] [])=1+sQ (qI n) its:=by
   show 1+(0+(sQ (qI n) its+0)+0)=_
   omega
  rw [eQ] at hc2
  rw [← eW,eL] at hN
  obtain⟨kn,tn,an,bn,en,hn1,hn2⟩:=hN
  have hn1:l[i+1+(pW e).length+((its.flatMap (wI n)).length+4)]? = some (tk kn tn an bn en):=ND hn1 (by omega)
  have B:=yT hl ih (t:=[116]) (by kernel_rfl) hn hx h3 (d+1) (c+1) p0 p1 p2 (by omega) hH (by omega) (by omega)
  rw [eL,eQ]
  (refine U.eq (fun m=>H5 m l i d c p0 p1 p2 0) (U.A0 (gN (l:=l) (d:=d) (c:=c) (p0:=p0) (p1:=p1) (p2:=p2) (i:Int) (by omega) hd) ?_);intro _ ds h0;cases h0;refine⟨rfl,U.Xu rfl (U.no rfl (U.A0 (P6 (l:=l) (d:=(d+1)) (c:=c) (p0:=p0) (p1:=p1) (p2:=p2) (i:Int) (by omega) hc) ?_))⟩;intro _ ds h0;cases h0;refine⟨rfl,U.Xu rfl (U.A0 (K8 (d:=(d+1)) (c:=(c+1)) (p0:=p0) (p1:=p1) (p2:=p2) h1) ?_)⟩;intro _ ds h0;cases h0;refine⟨rfl,U.Xu rfl ?_⟩)
  (refine U.A0 (C1 (d:=(d+1)) (c:=(c+1)) (p0:=p0) (p1:=p1) (p2:=p2) h1 rfl) ?_;intro _ ds h0;cases h0;refine⟨rfl,U.Xu rfl (U.no rfl (U.A0 (C1 (d:=(d+1)) (c:=(c+1)) (p0:=p0) (p1:=p1) (p2:=p2) h1 rfl) ?_))⟩;intro _ ds h0;cases h0;refine⟨rfl,U.Xu rfl (U.no rfl (U.A0 (C1 (d:=(d+1)) (c:=(c+1)) (p0:=p0) (p1:=p1) (p2:=p2) h1 rfl) ?_))⟩;intro _ ds h0;cases h0;refine⟨rfl,U.Xu rfl (G4 (fun m=>G0.eq_1 m _ _ _ _ _ _ _ _ _ _ _) (U.no rfl ?_))⟩)
  (refine U.A0 (C1 (d:=(d+1)) (c:=(c+1)) (p0:=p0) (p1:=p1) (p2:=p2) h1 rfl) ?_;intro _ ds h0;cases h0;refine⟨rfl,U.Xu rfl (U.no rfl ?_)⟩)
  (refine U.A0 (C1 (d:=(d+1)) (c:=(c+1)) (p0:=p0) (p1:=p1) (p2:=p2) h1 rfl) ?_;intro _ ds h0;cases h0;refine⟨rfl,U.Xu rfl (U.no rfl ?_)⟩)
  (refine U.A0 (C1 (d:=(d+1)) (c:=(c+1)) (p0:=p0) (p1:=p1) (p2:=p2) h1 rfl) ?_;intro _ ds h0;cases h0;refine⟨rfl,U.Xu rfl (U.no rfl ?_)⟩)
  (refine U.A0 (C1 (d:=(d+1)) (c:=(c+1)) (p0:=p0) (p1:=p1) (p2:=p2) h1 rfl) ?_;intro _ ds h0;cases h0;refine⟨rfl,U.Xu rfl (U.no rfl ?_)⟩)
  (refine U.A0 (C1 (d:=(d+1)) (c:=(c+1)) (p0:=p0) (p1:=p1) (p2:=p2) h1 rfl) ?_;intro _ ds h0;cases h0;refine⟨rfl,U.Xu rfl (U.no rfl ?_)⟩)
  (refine U.A0 (C1 (d:=(d+1)) (c:=(c+1)) (p0:=p0) (p1:=p1) (p2:=p2) h1 rfl) ?_;intro _ ds h0;cases h0;refine⟨rfl,U.Xu rfl (U.no rfl ?_)⟩)
  (refine U.A0 (C1 (d:=(d+1)) (c:=(c+1)) (p0:=p0) (p1:=p1) (p2:=p2) h1 rfl) ?_;intro _ ds h0;cases h0;refine⟨rfl,U.Xu rfl (U.no rfl ?_)⟩)
  (refine U.A0 (F8 (d:=(d+1)) (c:=(c+1)) (p0:=p0) (p1:=p1) (p2:=p2) hl h1 rfl) ?_;intro _ ds h0;cases h0;refine⟨rfl,U.Xu rfl (U.Xu rfl ?_)⟩)
  refine U.A0 (sF hl he h2 (d+1) (c+1) p0 p1 p2 (by omega) (by omega)) ?_
  rintro _ ds ⟨x,hx',h0⟩;cases h0
  have hx0:=hx'
  obtain⟨k4,t4,r4,a4,b4,e4,s4,_,rfl⟩:=Y7 hx'
  refine⟨rfl,U.Xu rfl (U.A0 B ?_)⟩
  rintro _ ds ⟨y,hy,h0⟩;cases h0
  refine⟨rfl,U.Xu rfl (U.A0 (C1 (d:=(d+1)) (c:=(c+1+(sQ (qI n) its:Int))) (p0:=p0) (p1:=p1) (p2:=p2) hn1 (LR hn2)) ?_)⟩
  (intro _ ds h0;cases h0;refine⟨rfl,U.Xu rfl ?_⟩)
  refine U.no rfl ?_
  (refine G4 (fun m=>E4.eq_1 m _ _ _ _ _ _ _ _ _) (U.A0 (cM (l:=l) (d:=d) (c:=(c+1+(sQ (qI n) its:Int))) (p0:=p0) (p1:=p1) (p2:=p2) _ (by omega) hd) ?_);intro _ ds h0;cases h0;refine⟨rfl,U.Xu rfl ?_⟩)
  refine U.ret ⟨_,xF (i:=a1) (j:=b1) (l:=e1) (fL.one he hx0) fL.nil (by simp) (by simp) (by simp) (by simp) (by simp) Rl.nil (Rl.one hy) Rl.nil Rl.nil Rl.nil,?_⟩
  rw [show i+(1+(pW e).length+((its.flatMap (wI n)).length+4))=i+1+(pW e).length+((its.flatMap (wI n)).length+4) from by omega,show c+((1+sQ (qI n) its:Nat):Int)=c+1+(sQ (qI n) its:Int) from by omega]
  rfl
 ·have eC:[gB [101] ys].flatMap (FF (wI n))=[(1,Q6),(3,[58]),(1,[101])]++(ys.flatMap (wI n)++[(1,dD)]):=by
   show ([(1,Q6),(3,[58]),(1,[101])]++(ys.flatMap (wI n)++[(1,dD)]))++[]=_
   rw [Za]
  have eCl:([gB [101] ys].flatMap (FF (wI n))).length=(ys.flatMap (wI n)).length+4:=by
   rw [eC];simp only [Xx,Xw,Xy];omega
  have h4:C4 l _ ([(1,cT)]++[gB [101] ys].flatMap (FF (wI n))):=h4
  rw [eC] at h4
  have h4:=bI h4
  obtain⟨a5,b5,e5,h5⟩:=C2 h4
  have h6:=D0 h4
  have eL:(wI (n+1) (I 10 [] [] false [e] [] [] [gB [116] its] [gB [101] ys] [] [])).length=1+(pW e).length+((its.flatMap (wI n)).length+4)+1+((ys.flatMap (wI n)).length+4):=by
   rw [eW];simp only [List.isEmpty_cons,cond_false,Xx,eBl,eCl,Xw,Xy]
   omega
  have eQ:qI (n+1) (I 10 [] [] false [e] [] [] [gB [116] its] [gB [101] ys] [] [])=1+(sQ (qI n) its+sQ (qI n) ys):=by
   show 1+(0+(sQ (qI n) its+0)+(sQ (qI n) ys+0))=_
   omega
  rw [eQ] at hc2
  have B:=yT hl ih (t:=[116]) (by kernel_rfl) hn hx h3 (d+1) (c+1) p0 p1 p2 (by omega) hH (by omega) (by omega)
  have C:=yT hl ih (t:=[101]) (by kernel_rfl) hyn hyx h6 (d+1) (c+1+(sQ (qI n) its:Int)) p0 p1 p2 (by omega) hH (by omega) (by omega)
  rw [eL,eQ]
  (refine U.eq (fun m=>H5 m l i d c p0 p1 p2 0) (U.A0 (gN (l:=l) (d:=d) (c:=c) (p0:=p0) (p1:=p1) (p2:=p2) (i:Int) (by omega) hd) ?_);intro _ ds h0;cases h0;refine⟨rfl,U.Xu rfl (U.no rfl (U.A0 (P6 (l:=l) (d:=(d+1)) (c:=c) (p0:=p0) (p1:=p1) (p2:=p2) (i:Int) (by omega) hc) ?_))⟩;intro _ ds h0;cases h0;refine⟨rfl,U.Xu rfl (U.A0 (K8 (d:=(d+1)) (c:=(c+1)) (p0:=p0) (p1:=p1) (p2:=p2) h1) ?_)⟩;intro _ ds h0;cases h0;refine⟨rfl,U.Xu rfl ?_⟩)
  (refine U.A0 (C1 (d:=(d+1)) (c:=(c+1)) (p0:=p0) (p1:=p1) (p2:=p2) h1 rfl) ?_;intro _ ds h0;cases h0;refine⟨rfl,U.Xu rfl (U.no rfl (U.A0 (C1 (d:=(d+1)) (c:=(c+1)) (p0:=p0) (p1:=p1) (p2:=p2) h1 rfl) ?_))⟩;intro _ ds h0;cases h0;refine⟨rfl,U.Xu rfl (U.no rfl (U.A0 (C1 (d:=(d+1)) (c:=(c+1)) (p0:=p0) (p1:=p1) (p2:=p2) h1 rfl) ?_))⟩;intro _ ds h0;cases h0;refine⟨rfl,U.Xu rfl (G4 (fun m=>G0.eq_1 m _ _ _ _ _ _ _ _ _ _ _) (U.no rfl ?_))⟩)
  (refine U.A0 (C1 (d:=(d+1)) (c:=(c+1)) (p0:=p0) (p1:=p1) (p2:=p2) h1 rfl) ?_;intro _ ds h0;cases h0;refine⟨rfl,U.Xu rfl (U.no rfl ?_)⟩)
  (refine U.A0 (C1 (d:=(d+1)) (c:=(c+1)) (p0:=p0) (p1:=p1) (p2:=p2) h1 rfl) ?_;intro _ ds h0;cases h0;refine⟨rfl,U.Xu rfl (U.no rfl ?_)⟩)
  (refine U.A0 (C1 (d:=(d+1)) (c:=(c+1)) (p0:=p0) (p1:=p1) (p2:=p2) h1 rfl) ?_;intro _ ds h0;cases h0;refine⟨rfl,U.Xu rfl (U.no rfl ?_)⟩)
  (refine U.A0 (C1 (d:=(d+1)) (c:=(c+1)) (p0:=p0) (p1:=p1) (p2:=p2) h1 rfl) ?_;intro _ ds h0;cases h0;refine⟨rfl,U.Xu rfl (U.no rfl ?_)⟩)
  (refine U.A0 (C1 (d:=(d+1)) (c:=(c+1)) (p0:=p0) (p1:=p1) (p2:=p2) h1 rfl) ?_;intro _ ds h0;cases h0;refine⟨rfl,U.Xu rfl (U.no rfl ?_)⟩)
  (refine U.A0 (C1 (d:=(d+1)) (c:=(c+1)) (p0:=p0) (p1:=p1) (p2:=p2) h1 rfl) ?_;intro _ ds h0;cases h0;refine⟨rfl,U.Xu rfl (U.no rfl ?_)⟩)
  (refine U.A0 (C1 (d:=(d+1)) (c:=(c+1)) (p0:=p0) (p1:=p1) (p2:=p2) h1 rfl) ?_;intro _ ds h0;cases h0;refine⟨rfl,U.Xu rfl (U.no rfl ?_)⟩)
  (refine U.A0 (F8 (d:=(d+1)) (c:=(c+1)) (p0:=p0) (p1:=p1) (p2:=p2) hl h1 rfl) ?_;intro _ ds h0;cases h0;refine⟨rfl,U.Xu rfl (U.Xu rfl ?_)⟩)
  refine U.A0 (sF hl he h2 (d+1) (c+1) p0 p1 p2 (by omega) (by omega)) ?_
  rintro _ ds ⟨x,hx',h0⟩;cases h0
  have hx0:=hx'
  obtain⟨k4,t4,r4,a4,b4,e4,s4,_,rfl⟩:=Y7 hx'
  refine⟨rfl,U.Xu rfl (U.A0 B ?_)⟩
  rintro _ ds ⟨y,hy,h0⟩;cases h0
  refine⟨rfl,U.Xu rfl (U.A0 (F8 (d:=(d+1)) (c:=(c+1+(sQ (qI n) its:Int))) (p0:=p0) (p1:=p1) (p2:=p2) hl h5 rfl) ?_)⟩
  (intro _ ds h0;cases h0;refine⟨rfl,U.Xu rfl ?_⟩)
  refine U.Xu rfl (U.A0 C ?_)
  rintro _ ds ⟨z,hz,h0⟩;cases h0
  refine⟨rfl,U.Xu rfl ?_⟩
  (refine G4 (fun m=>E4.eq_1 m _ _ _ _ _ _ _ _ _) (U.A0 (cM (l:=l) (d:=d) (c:=(c+1+(sQ (qI n) its:Int)+(sQ (qI n) ys:Int))) (p0:=p0) (p1:=p1) (p2:=p2) _ (by omega) hd) ?_);intro _ ds h0;cases h0;refine⟨rfl,U.Xu rfl ?_⟩)
  refine U.ret ⟨_,xF (i:=a1) (j:=b1) (l:=e1) (fL.one he hx0) fL.nil (by simp) (by simp) (by simp) (by simp) (by simp) Rl.nil (Rl.one hy) (Rl.one hz) Rl.nil Rl.nil,?_⟩
  rw [show i+(1+(pW e).length+((its.flatMap (wI n)).length+4)+1+((ys.flatMap (wI n)).length+4))=i+1+(pW e).length+((its.flatMap (wI n)).length+4)+1+((ys.flatMap (wI n)).length+4) from by omega,show c+((1+(sQ (qI n) its+sQ (qI n) ys):Nat):Int)=c+1+(sQ (qI n) its:Int)+(sQ (qI n) ys:Int) from by omega]
  rfl
end
theorem Pi.mono {F:PW}{l:List D}{i m q:Nat}{R:D→Prop}{h h':Nat}(H:Pi F l i m q R h)(hh:h≤h'):Pi F l i m q R h':=
 fun d c p0 p1 p2 hd hd2 hc hc2=>H d c p0 p1 p2 hd (by omega) hc hc2
theorem Hq:∀ k:Nat,k≤8→oQ [117,48+UInt8.ofNat k]=true:=by decide +kernel
theorem Pd {T:NT}(hT:T=sR∨T=GL){n:Nat}{x:D}(h:xN T x){l:List D}(hl:l.length≤1000000){i:Nat}(ht:C4 l i (wI (n+1) x)):Pi (fun m=>G1 m) l i (wI (n+1) x).length (qI (n+1) x) (OI (2*(n+1)) x) 16:=by
 obtain⟨nm,ty,q,f,sg,es,fs,rfl,g1,hm,g3,g4,g5,g6,g7,g8⟩:=jA h
 have hty:(ty==Y2)=false:=by
  rcases hT with rfl|rfl
  ·simp only [sR,Yn,Ys] at hm
   rw [hm.1];rfl
  ·simp only [GL,Yh,Ys,List.not_mem_nil,or_false] at hm
   rcases hm with h|h
   ·rw [h.1];rfl
   ·rw [h.1];rfl
 have eW:wI (n+1) (I 1 nm ty sg es fs [] [] [] [] [])=[(1,ty)]++(nR nm ty sg es fs++[(3,[59])]):=by
  show nW nm ty sg es fs++[(3,[59])]=_
  rw [Mr,hty,Yl];rfl
 rw [eW] at ht ⊢
 exact (Uq hl hT g1 hm g3 g4 g5 g6 g7 g8 ht (n:=2*n+1)).cast (by simp only [Xx,Xw,Xy];omega) rfl
theorem Xf {l:List D}(hl:l.length≤1000000):∀ n,Xc l n
 |0=>fun _ h=>h.elim
 |n+1=>by
  have ih:=Xf hl n
  have h16:16≤IH (n+1):=by unfold IH;omega
  intro x h i ht hN
  rcases h with (h|h)|⟨nm,e,rfl,hn,he⟩|⟨nm,rfl,hn⟩|⟨l0,e,rfl,hlf,he⟩|⟨s0,rfl,hs⟩|⟨s0,rfl,hs⟩|⟨sg,es,its,s0,rfl,h2e,he,h1n,h2n,hx,hs⟩|⟨k,ps,qs,rfl,hk,hp,hq,hpc,hqc⟩|⟨es,its,rfl,h3,he,hn,hx⟩|⟨e,its,els,rfl,he,hn,hx,hel⟩
  ·exact (Pd (.inl rfl) h hl ht).mono h16
  ·exact (Pd (.inr rfl) h hl ht).mono h16
  ·exact ((Nn hl hn he (show C4 l i ([(1,mF)]++([(1,nm),(3,[61])]++(wE 4 e++[(3,[59])]))) from ht) (n:=2*n+1)).cast (by show _=([(1,mF),(1,nm),(3,[61])]++(wE 4 e++[(3,[59])]):List Tk).length;simp only [Xx,Xw,Xy];omega) rfl).mono h16
  ·exact (Ib hl hn (show C4 l i [(1,IM),(1,nm),(3,[59])] from ht) (n:=2*n+1)).mono h16
  ·exact ((Gx hl hlf he (show C4 l i ([(1,pI)]++(wE 4 l0++([(3,[61])]++(wE 4 e++[(3,[59])])))) from ht) (n:=2*n+1)).cast (by show _=([(1,pI)]++(wE 4 l0++([(3,[61])]++(wE 4 e++[(3,[59])]))):List Tk).length;simp only [Xx,Xw,Xy];omega) rfl).mono h16
  ·have eL:(wI (n+1) (I 5 [] [] false [] [] [s0] [] [] [] [])).length=3+(wS 4 s0).length:=by
    show ([(1,mD),(3,[64]),(3,[42])]++wS 4 s0:List Tk).length=_
    simp only [Xx,Xw,Xy]
   rw [eL] at hN ⊢
   exact ((Qm hl hs (show C4 l i ([(1,mD),(3,[64]),(3,[42])]++wS 4 s0) from ht) hN (n:=2*n+1)).cast rfl (by show 1+qS 4 s0=1+((qS 4 s0+0)+0+0);omega)).mono h16
  ·have eL:(wI (n+1) (I 6 wF [] false [] [] [s0] [] [] [] [])).length=6+(wS 4 s0).length:=by
    show ([(1,mD),(3,[64]),(3,[40]),(1,GI),(1,wF),(3,[41])]++wS 4 s0:List Tk).length=_
    simp only [Xx,Xw,Xy]
   rw [eL] at hN ⊢
   exact ((Dg hl hs (show C4 l i ([(1,mD),(3,[64]),(3,[40]),(1,GI),(1,wF),(3,[41])]++wS 4 s0) from ht) hN (n:=2*n+1)).cast rfl (by show 1+qS 4 s0=1+((qS 4 s0+0)+0+0);omega)).mono h16
  ·exact ((Qs hl h2e he h2n hx hs (show C4 l i ([(1,BI)]++((bif sg then [(1,lD)] else [])++(mM es++([(1,[102]),(3,[59])]++(its.flatMap EY++(wS 4 s0++[(1,lM)])))))) from ht) (n:=2*n)).cast (by
    show _=([(1,BI)]++((bif sg then [(1,lD)] else [])++(mM es++([(1,[102]),(3,[59])]++(its.flatMap EY++(wS 4 s0++[(1,lM)]))))):List Tk).length
    have sgl:((bif sg then [(1,lD)] else []):List Tk).length=(bif sg then 1 else 0):=by cases sg<;>rfl
    simp only [Xx,sgl,Xw,Xy];omega) rfl).mono h16
  ·have hg:=Hq k.toNat hk
   rw [UInt8.ofNat_toNat] at hg
   exact ((Qw hl hg hp hq hpc hqc (show C4 l i ([(1,sP)]++((bif ps.isEmpty then [] else [(3,[35])]++mR ps)++([(1,[117,48+k])]++(mR qs++[(3,[59])])))) from ht) (n:=2*n+1)).cast (by
    show _=([(1,sP)]++((bif ps.isEmpty then [] else [(3,[35])]++mR ps)++([(1,[117,48+k])]++(mR qs++[(3,[59])]))):List Tk).length
    cases ps.isEmpty<;>simp only [cond_true,cond_false,Xx,Xw,Xy]<;>omega) rfl).mono h16
  ·have eB:[gB [103] its].flatMap (FF (wI n))=[(1,Q6),(3,[58]),(1,[103])]++(its.flatMap (wI n)++[(1,dD)]):=by
    show ([(1,Q6),(3,[58]),(1,[103])]++(its.flatMap (wI n)++[(1,dD)]))++[]=_
    rw [Za]
   have eW:wI (n+1) (I 9 [105] [] false es [] [] [gB [103] its] [] [] [])=Z9 [105] es++([(1,Q6),(3,[58]),(1,[103])]++(its.flatMap (wI n)++[(1,dD)])):=by
    rw [← eB];rfl
   rw [eW] at ht ⊢
   exact (Ia hl ih h3 he hn hx ht).cast (by simp only [Xx,Xw,Xy];omega) (by show 1+sQ (qI n) its=1+(0+(sQ (qI n) its+0)+0);omega)
  ·exact Ma hl ih he hn hx hel ht hN
end
def Tj (t:Zt):Bool:=Nat.ble t.length 12&&(!t.isEmpty&&t.all fun c=>!(c==32)&&!(c==10))
def gw (t:Zt):Prop:=Tj t=true
instance gw_dec (t:Zt):Decidable (gw t):=inferInstanceAs (Decidable (_=true))
theorem Ig {t:Zt}(h:gw t):t.length≤12:=by
 have h:Tj t=true:=h
 rw [Tj,Xz] at h
 exact Yd h.1
def nl:Tk:=(9,[])
def Lb (st:Bool×Zt)(p:Tk):Bool×Zt:=bif p.1==9 then (true,st.2++[10]) else (false,st.2++((bif !st.2.isEmpty&&!st.1 then [32] else [])++p.2))
def PI (its:List Tk)(st:Bool×Zt):Bool×Zt:=its.foldl Lb st
def gy (its:List Tk):Prop:=∀ p∈its,p=nl∨(p.1==9)=false∧gw p.2
theorem Qa (a b:List Tk)(st:Bool×Zt):PI (a++b) st=PI b (PI a st):=by simp [PI,List.foldl_append]
theorem Gm:∀ {its:List Tk} (_:gy its) (st:Bool×Zt),(PI its st).2.length≤st.2.length+14*its.length
 |[],_,st=>Yj _
 |p::its,hs,st=>by
  have h:=Gm (its:=its) (fun q hq=>hs q (Yk _ hq)) (Lb st p)
  have h1:(Lb st p).2.length≤st.2.length+14:=by
   rcases hs p Yi with rfl|⟨e,hg⟩
   ·show (st.2++[10]).length≤_;simp
   ·have h12:=Ig hg
    unfold Lb
    rw [e]
    show (st.2++((bif !st.2.isEmpty&&!st.1 then [32] else [])++p.2)).length≤_
    have:(bif !st.2.isEmpty&&!st.1 then [32] else []:Zt).length≤1:=by cases !st.2.isEmpty&&!st.1<;>simp
    simp only [Xx];omega
  show (PI its (Lb st p)).2.length≤_
  simp only [Xw];omega
def Wr (st st':Bool×Zt)(its:List Tk):Prop:=st'=PI its st∧gy its
theorem Wr.len {f f':Bool}{s s':Zt}{its:List Tk}(h:Wr (f,s) (f',s') its):s'.length≤s.length+14*its.length:=by
 have:=Gm h.2 (f,s)
 rw [← h.1] at this;exact this
theorem Wr.nil (st:Bool×Zt):Wr st st []:=⟨rfl,fun _ h=>by cases h⟩
theorem Wr.app {a b c:Bool×Zt}{u v:List Tk}(h:Wr a b u)(h':Wr b c v):Wr a c (u++v):=
 ⟨by rw [h'.1,h.1,Qa],fun p hp=>(Yy.1 hp).elim (h.2 p) (h'.2 p)⟩
theorem yN (a b:Zt):E9 a++E9 b=E9 (a++b):=by simp [E9]
theorem pB (a:Zt):(E9 a).length=a.length:=List.length_map ..
theorem VB (s:Zt):(E9 s).all TC=true:=by
 induction s with
 |nil=>rfl
 |cons x s ih=>simp only [E9,List.map_cons,List.all_cons] at ih ⊢;rw [ih];rfl
theorem E6 (sk:Sk)(f:Bool)(s:Zt):D2 sk [.bool f,.Z 1 (E9 s)]=true:=by
 simp only [D2,List.all_cons,List.all_nil,VB];rfl
abbrev Xn:=Nat→D→D→Out
def Pr (F:Xn)(ws:List Tk):Prop:=∀ (f:Bool) (s:Zt),s.length+14*ws.length≤68000000000→U (fun n=>F n (.bool f) (.Z 1 (E9 s))) fun r=>∃ st:Bool×Zt,r=(true,[.bool st.1,.Z 1 (E9 st.2)])∧Wr (f,s) st ws
def CC (ws:List Tk):Prop:=∀ p∈ws,(p.1==9)=false∧gw p.2
theorem Td {f:Bool}{s:Zt}{p:Tk}(h:(p.1==9)=false∧gw p.2):Wr (f,s) (false,s++((bif !s.isEmpty&&!f then [32] else [])++p.2)) [p]:=
 ⟨by show _=Lb (f,s) p
     unfold Lb;rw [h.1];rfl,fun q hq=>by rw [Yn.1 hq];exact .inr h⟩
theorem ZX {ws:List Tk}{i:Nat}(h:i<ws.length):(MQ ws)[((i:Nat):Int).toNat]?.getD D.top = .str (ws[i]'h).2:=by
 rw [show ((i:Nat):Int).toNat=i from rfl,MQ,List.getElem?_map,Ym h];rfl
theorem Kt {ws:List Tk}(hs:CC ws)(hl:ws.length≤1000):∀ (m j:Nat) (f:Bool) (s:Zt),ws.length-j=m→j≤ws.length→s.length+14*(ws.drop j).length≤68000000000→
  U (fun n=>M4 n (.Z 1 (MQ ws)) ((MQ ws).length:Int) (j:Int) (.bool f) (.Z 1 (E9 s))) fun r=>
   ∃ st:Bool×Zt,r=(false,[.Z 1 (MQ ws),.int .i64 ((MQ ws).length:Int),.int .i64 (ws.length:Int),.bool st.1,.Z 1 (E9 st.2)])∧Wr (f,s) st (ws.drop j):=by
 intro m
 induction m with
 |zero=>
  intro j f s hm hj hb
  have:j=ws.length:=by omega
  subst this
  refine U.eq (fun n=>lI n _ _ _ _ _) (U.no (Zk (by rw [TN];omega)) (U.ret ⟨(f,s),rfl,?_⟩))
  rw [List.drop_length];exact Wr.nil _
 |succ m ih=>
  intro j f s hm hj hb
  have hlt:j<ws.length:=by omega
  have hlt2:j<(MQ ws).length:=by rw [TN];exact hlt
  have hg:=hs _ (Yr hlt)
  have h12:=Ig hg.2
  rw [drop_cons hlt] at hb ⊢
  simp only [Xw] at hb
  have W:=Td (f:=f) (s:=s) hg
  have fin:∀ st:Bool×Zt,st=(false,s++((bif !s.isEmpty&&!f then [32] else [])++(ws[j]'hlt).2))→U (fun n=>M4 n (.Z 1 (MQ ws)) ((MQ ws).length:Int) (.int .i64 (IntKind.i64.wrap ((j:Int)+1))) (.bool st.1) (.Z 1 (E9 st.2))) fun r=>
    ∃ st:Bool×Zt,r=(false,[.Z 1 (MQ ws),.int .i64 ((MQ ws).length:Int),.int .i64 (ws.length:Int),.bool st.1,.Z 1 (E9 st.2)])∧Wr (f,s) st (ws[j]::ws.drop (j+1)):=by
   intro st hst
   rw [← hst] at W
   obtain⟨f1,s1⟩:=st
   have l1:=W.len
   simp only [Xw,Xy] at l1
   rw [H7 (by omega)]
   refine (ih (j+1) f1 s1 (by omega) hlt (by omega)).mono fun r hr=>?_
   obtain⟨st,h1,h2⟩:=hr
   exact⟨st,h1,W.app h2⟩
  have J:∀ g:Bool,g=(!s.isEmpty&&!f)→U (fun n=>cH n g f (E9 s) (MQ ws) (j:Int) ((MQ ws).length:Int)) fun r=>
    ∃ st:Bool×Zt,r=(false,[.Z 1 (MQ ws),.int .i64 ((MQ ws).length:Int),.int .i64 (ws.length:Int),.bool st.1,.Z 1 (E9 st.2)])∧Wr (f,s) st (ws[j]::ws.drop (j+1)):=by
   intro g hg
   refine G4 (fun n=>cH.eq_1 n _ _ _ _ _ _) ?_
   have hs1:s.length≤68000000000:=by omega
   cases g with
   |true=>
    refine U.Xu rfl (U.A0 (Q:=fun r=>r=(true,[.nili,.bool f,.Z 1 (E9 (s++[32]))])) ?_ ?_)
    ·refine U.eq (fun n=>gP n _ _ _) (U.Xu (Yc (by rw [pB];simp only [D8];omega)) (U.ret ?_))
     rw [← yN];rfl
    ·intro _ _ h;cases h
     rw [ZX hlt]
     refine⟨rfl,U.Xu rfl (U.A0 (Q:=fun r=>∃ d:Int,r=(true,[.int .i64 d,.nili,.bool f,.Z 1 (E9 (s++[32]++(ws[j]'hlt).2))])) ?_ ?_)⟩
     ·refine U.eq (fun n=>fJ n _ _ _) (U.Xu ?_ (U.ret ⟨((ws[j]'hlt).2.length:Int),?_⟩))
      ·show (Nat.ble ((E9 (s++[32])).length+(ws[j]'hlt).2.length) D8&&true)=true
       rw [Yc (by rw [pB,Xx];simp only [D8,Xw,Xy];omega)];rfl
      ·rw [← yN (s++[32])];rfl
     ·rintro _ _ ⟨d,h⟩;cases h
      refine⟨rfl,U.Xu rfl (fin (false,s++[32]++(ws[j]'hlt).2) ?_)⟩
      show _=(false,s++((bif !s.isEmpty&&!f then [32] else [])++(ws[j]'hlt).2))
      rw [← hg,Yl];rfl
   |false=>
    rw [ZX hlt]
    refine U.no rfl (U.A0 (Q:=fun r=>∃ d:Int,r=(true,[.int .i64 d,.nili,.bool f,.Z 1 (E9 (s++(ws[j]'hlt).2))])) ?_ ?_)
    ·refine U.eq (fun n=>fJ n _ _ _) (U.Xu ?_ (U.ret ⟨((ws[j]'hlt).2.length:Int),?_⟩))
     ·show (Nat.ble ((E9 s).length+(ws[j]'hlt).2.length) D8&&true)=true
      rw [Yc (by rw [pB];simp only [D8];omega)];rfl
     ·rw [← yN s];rfl
    ·rintro _ _ ⟨d,h⟩;cases h
     refine⟨rfl,U.Xu rfl (fin (false,s++(ws[j]'hlt).2) ?_)⟩
     show _=(false,s++((bif !s.isEmpty&&!f then [32] else [])++(ws[j]'hlt).2))
     rw [← hg];rfl
  refine U.eq (fun n=>lI n _ _ _ _ _) (U.Xu (Zi (by rw [TN];omega)) (U.Xu (G9 hlt2) (U.Xu (by rw [ZX hlt];rfl) ?_)))
  refine U.A0 (U.eq (fun n=>uF n f (E9 s)) (U.ret (P:=fun r=>r=_) rfl)) ?_
  intro _ _ h;cases h
  refine⟨rfl,U.Xu rfl (U.Xv (fun h=>?_) fun h=>?_)⟩
  ·refine J _ ?_
   have h:0<((E9 s).length:Int):=Zj h
   rw [pB] at h
   cases s with
   |nil=>simp at h
   |cons=>simp [Y,D.b]
  ·refine J _ ?_
   have h:¬ (0<((E9 s).length:Int)):=Zl h
   rw [pB] at h
   cases s with
   |nil=>rfl
   |cons=>simp at h
theorem E7 {ws:List Tk}(hs:CC ws)(hl:ws.length≤1000):Pr (fun n=>A7 n (.Z 1 (MQ ws))) ws:=by
 intro f s hb
 refine U.eq (fun n=>zF n _ _ _) (U.D4 (Kt hs hl ws.length 0 f s rfl (Yo _) (by rw [List.drop_zero];exact hb)) (fun ds h=>by obtain⟨_,h,_⟩:=h;cases h) fun ds h=>?_)
 obtain⟨st,h,hw⟩:=h
 cases h
 exact U.Xu rfl (U.ret ⟨st,rfl,hw⟩)
end Go.Proofs.YtalibicpmfbieaaGreatDoor
