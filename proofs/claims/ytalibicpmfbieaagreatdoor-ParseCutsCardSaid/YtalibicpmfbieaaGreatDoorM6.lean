import Derived.Test.YtalibicpmfbieaaGreatDoorM5
import Derived.Test.YtalibicpmfbieaaGreatDoorM3
import Derived.Test.YtalibicpmfbieaaGreatDoorM4
namespace Go.Proofs.YtalibicpmfbieaaGreatDoor
open Go.AE
open IntKind (i64 u64)
set_option linter.all false
def aO8:∀ (d:Nat) (x y:D),uN d x→OS d x y→Pr (fun n=>M5 n y) (yS d x):=by
 intro d
 induction d with
 |zero=>intro x y h;exact h.elim
 |succ d ih=>
  rintro x y ⟨k,t,es,bs,zs,rfl,L,I,hz,hsh⟩ ⟨k2,i,j,l0,t2,es2,bs2,zs2,es',bs',zs',e,rfl,C,_,_,hR,hZ⟩ f s g;cases e;rw [aU7] at g ⊢;refine I5 (fun n=>DE n ..) ?_;rcases hsh with ⟨rfl,rfl,rfl,hl,rfl⟩|⟨hk,rfl,⟨l,e,rfl,_⟩,rfl,rfl⟩|⟨rfl,rfl,hl,⟨b,c,rfl,hop⟩,rfl⟩|⟨rfl,rfl,hl,rfl,hz1,hz2⟩|⟨rfl,rfl,hl,hl2,rfl⟩|⟨rfl,ht,hl,rfl,rfl⟩|⟨rfl,rfl,rfl,rfl,rfl⟩
  ·(replace g:s.length+14*([(1,aM),nl]++(bs.flatMap (yS d)++[(1,iU),nl]):List Tk).length≤68000000000:=g;simp only [G0] at g);refine J5 ?_;(refine H6 ((qO (ws:=[(1,aM)]) (K8 rfl) (by decide) (by decide) f s (by simp only [G0];omega))) ?_;rintro _ _ ⟨⟨u,s1⟩,h,w1⟩;cases h;have a:=Wr.len w1;(try simp only [G0] at a);refine⟨rfl,I4 (L0 rfl (N6 _ _ _)) ?_⟩);refine L4 (aH5 ih (xs:=bs) (ys:=bs') (by omega) I hR u s1 (by omega)) (fun ds h=>by obtain⟨_,h,_⟩:=h;cases h) fun ds h=>?_;obtain⟨⟨A,w⟩,h,p⟩:=h;cases h;have l2:=p.len;refine J5 ?_;(refine H6 ((qO (ws:=[(1,iU)]) (K8 rfl) (by decide) (by decide) A w (by simp only [G0];omega))) ?_;rintro _ _ ⟨⟨E,B⟩,h,q⟩;cases h;have m:=Wr.len q;(try simp only [G0] at m);refine⟨rfl,I4 (L0 rfl (N6 _ _ _)) ?_⟩);exact H8 ⟨(E,B),rfl,w1.app (p.app q)⟩
  ·obtain⟨l',V,rfl,h1,R,e1,e2⟩:=aS1 C;have H:=UC h1;have p2:=UC R;rcases hk with rfl|rfl
   ·show U _ fun r=>∃ st:Bool×G1,r=(true,[.bool st.1,.Z 1 (P0 st.2)])∧Wr (f,s) st (wE 4 l++([(3,[61])]++(wE 4 e++[(3,[59]),nl])));replace g:s.length+14*(wE 4 l++([(3,[61])]++(wE 4 e++[(3,[59]),nl])):List Tk).length≤68000000000:=g;rw [e1,e2] at g ⊢;simp only [G0] at g;refine L3 (J5 (J5 (J5 (I4 (MN h1) ?_))));(refine H6 (H f s (by omega)) ?_;rintro _ _ ⟨⟨u,s1⟩,h,w1⟩;cases h;have a:=Wr.len w1;(try simp only [G0] at a);refine⟨rfl,J5 ?_⟩);refine J5 ?_;(refine H6 ((N7 (ws:=[(3,[61])]) (K8 rfl) (by decide) u s1 (by simp only [A0,A8];omega))) ?_;rintro _ _ ⟨⟨A,w⟩,h,p⟩;cases h;have o:=Wr.len p;(try simp only [G0] at o);refine⟨rfl,I4 (L0 rfl (N6 _ _ _)) ?_⟩);refine O9 (fun n=>kI.eq_1 n ..) (J5 (I4 (MN R) ?_));(refine H6 (p2 A w (by omega)) ?_;rintro _ _ ⟨⟨E,B⟩,h,q⟩;cases h;have m:=Wr.len q;(try simp only [G0] at m);refine⟨rfl,J5 ?_⟩);(refine H6 ((qO (ws:=[(3,[59])]) (K8 rfl) (by decide) (by decide) E B (by simp only [G0];omega))) ?_;rintro _ _ ⟨⟨T,N⟩,h,F⟩;cases h;have G:=Wr.len F;(try simp only [G0] at G);refine⟨rfl,I4 (L0 rfl (N6 _ _ _)) ?_⟩);exact H8 ⟨(T,N),rfl,w1.app (p.app (q.app F))⟩
   ·show U _ fun r=>∃ st:Bool×G1,r=(true,[.bool st.1,.Z 1 (P0 st.2)])∧Wr (f,s) st (wE 4 l++([(3,[60,61])]++(wE 4 e++[(3,[59]),nl])));replace g:s.length+14*(wE 4 l++([(3,[60,61])]++(wE 4 e++[(3,[59]),nl])):List Tk).length≤68000000000:=g;rw [e1,e2] at g ⊢;simp only [G0] at g;refine L3 (L3 (J5 (J5 (I4 (MN h1) ?_))));(refine H6 (H f s (by omega)) ?_;rintro _ _ ⟨⟨u,s1⟩,h,w1⟩;cases h;have a:=Wr.len w1;(try simp only [G0] at a);refine⟨rfl,J5 ?_⟩);refine L3 ?_;(refine H6 ((N7 (ws:=[(3,[60,61])]) (K8 rfl) (by decide) u s1 (by simp only [A0,A8];omega))) ?_;rintro _ _ ⟨⟨A,w⟩,h,p⟩;cases h;have o:=Wr.len p;(try simp only [G0] at o);refine⟨rfl,I4 (L0 rfl (N6 _ _ _)) ?_⟩);refine O9 (fun n=>kI.eq_1 n ..) (J5 (I4 (MN R) ?_));(refine H6 (p2 A w (by omega)) ?_;rintro _ _ ⟨⟨E,B⟩,h,q⟩;cases h;have m:=Wr.len q;(try simp only [G0] at m);refine⟨rfl,J5 ?_⟩);(refine H6 ((qO (ws:=[(3,[59])]) (K8 rfl) (by decide) (by decide) E B (by simp only [G0];omega))) ?_;rintro _ _ ⟨⟨T,N⟩,h,F⟩;cases h;have G:=Wr.len F;(try simp only [G0] at G);refine⟨rfl,I4 (L0 rfl (N6 _ _ _)) ?_⟩);exact H8 ⟨(T,N),rfl,w1.app (p.app (q.app F))⟩
  ·obtain⟨b',c',rfl,v,P⟩:=aV2 hR;have hb1:=I b (by simp);have hc1:=I c (by simp)
   match es,hl,L,C with
   |[e],_,L,C=>
    (obtain⟨V,rfl,h1,e1⟩:=Kj C;have H:=YI h1;have p2:=Jt ih hb1 v;have p3:=Jt ih hc1 P;have pt:=aO9 ih hb1 v;obtain⟨K,ic,jc,lc,tc,ec,bc,zc,ec',bc',zc',rfl,rfl⟩:=HZ P;refine L3 (L3 (L3 (J5 ?_)));have eW:aR6 (yS d) 4 [] [e] [b,S K tc ec bc zc] []=[(1,zD)]++(pW V++(yS d b++(bif K==8 then [] else [(1,iM)]++yS d (S K tc ec bc zc)))):=by rw [← Ww e1];rfl);rw [eW] at g ⊢;have Q:s.length+14*(1+((pW V).length+((yS d b).length+(bif K==8 then [] else [(1,iM)]++yS d (S K tc ec bc zc):List Tk).length)))≤68000000000:=by simpa only [G0,C5] using g
    clear g;(refine H6 ((N7 (ws:=[(1,zD)]) (K8 rfl) (by decide) f s (by simp only [A0,A8];omega))) ?_;rintro _ _ ⟨⟨u,s1⟩,h,w1⟩;cases h;have a:=Wr.len w1;(try simp only [G0] at a);refine⟨rfl,I4 (L0 rfl (N6 _ _ _)) ?_⟩);refine J5 (I4 (MN h1) ?_);(refine H6 (H u s1 (by omega)) ?_;rintro _ _ ⟨⟨A,w⟩,h,p⟩;cases h;have o:=Wr.len p;(try simp only [G0] at o);refine⟨rfl,J5 ?_⟩);refine J5 (J5 (J5 (K0 (fun M=>?_) fun M=>?_)))
    ·have M:(K==8)=true:=M;rw [M] at Q ⊢;refine J5 (I4 (IA v) ?_);(refine H6 (p2 A w (by omega)) ?_;rintro _ _ ⟨⟨E,B⟩,h,q⟩;cases h;have m:=Wr.len q;(try simp only [G0] at m);refine⟨rfl,J5 ?_⟩);refine H8 ⟨(E,B),rfl,?_⟩;have W:=w1.app (p.app q);simpa using W
    ·have M:(K==8)=false:=M;rw [M] at Q ⊢;simp only [cond_false,G0] at Q;have ho:pE d b=false:=by
      rcases hop with h|h
      ·exact absurd (congrArg (fun x=>(x.at_ 0).i==8) h) (by show ¬ (K==8)=true;rw [M];decide)
      ·exact h
     refine J5 (I4 (IA v) ?_);(refine H6 (pt ho A w (by omega)) ?_;rintro _ _ ⟨⟨E,B⟩,h,q⟩;cases h;have m:=Wr.len q;(try simp only [G0] at m);refine⟨rfl,J5 ?_⟩);(refine H6 ((N7 (ws:=[(1,iM)]) (K8 rfl) (by decide) E B (by simp only [A0,A8];omega))) ?_;rintro _ _ ⟨⟨T,N⟩,h,F⟩;cases h;have G:=Wr.len F;(try simp only [G0] at G);refine⟨rfl,I4 (L0 rfl (N6 _ _ _)) ?_⟩);refine J5 (I4 (IA P) ?_);(refine H6 (p3 T N (by omega)) ?_;rintro _ _ ⟨⟨f5,s5⟩,h,X⟩;cases h;have O:=Wr.len X;(try simp only [G0] at O);refine⟨rfl,J5 ?_⟩);exact H8 ⟨(f5,s5),rfl,w1.app (p.app (q.app (F.app X)))⟩
  ·match es,hl,L,C with
   |[e],_,L,C=>obtain⟨V,rfl,h1,e1⟩:=Kj C;have H:=YI h1;show U _ fun r=>∃ st:Bool×G1,r=(true,[.bool st.1,.Z 1 (P0 st.2)])∧Wr (f,s) st ([(1,sV)]++(pW e++([nl]++(zs.flatMap (lE (yS d))++[(1,gS),nl]))));replace g:s.length+14*([(1,sV)]++(pW e++([nl]++(zs.flatMap (lE (yS d))++[(1,gS),nl]))):List Tk).length≤68000000000:=g;rw [Ww e1] at g ⊢;simp only [G0] at g;refine L3 (L3 (L3 (L3 (J5 ?_))));(refine H6 ((N7 (ws:=[(1,sV)]) (K8 rfl) (by decide) f s (by simp only [A0,A8];omega))) ?_;rintro _ _ ⟨⟨u,s1⟩,h,w1⟩;cases h;have a:=Wr.len w1;(try simp only [G0] at a);refine⟨rfl,I4 (L0 rfl (N6 _ _ _)) ?_⟩);refine J5 (I4 (MN h1) ?_);(refine H6 (H u s1 (by omega)) ?_;rintro _ _ ⟨⟨A,w⟩,h,p⟩;cases h;have o:=Wr.len p;(try simp only [G0] at o);refine⟨rfl,J5 ?_⟩);refine H6 (aN2 A w (by simp only [A0,A8];omega)) ?_;rintro _ _ ⟨⟨E,B⟩,h,q⟩;cases h;have l3:=q.len;simp only [A0,A8] at l3;refine⟨rfl,J5 (L4 (aK8 ih (xs:=zs) (ys:=zs') (by omega) hz hZ E B (by omega)) (fun ds h=>by obtain⟨_,h,_⟩:=h;cases h) fun ds h=>?_)⟩;obtain⟨⟨T,N⟩,h,F⟩:=h;cases h;have l4:=F.len;refine J5 ?_;(refine H6 ((qO (ws:=[(1,gS)]) (K8 rfl) (by decide) (by decide) T N (by simp only [G0];omega))) ?_;rintro _ _ ⟨⟨f5,s5⟩,h,X⟩;cases h;have O:=Wr.len X;(try simp only [G0] at O);refine⟨rfl,I4 (L0 rfl (N6 _ _ _)) ?_⟩);exact H8 ⟨(f5,s5),rfl,w1.app (p.app (q.app (F.app X)))⟩
  ·obtain⟨b,rfl⟩:∃ b,bs=[b]:=by
    match bs,hl2 with
    |[b],_=>exact⟨b,rfl⟩
   obtain⟨b',rfl,v⟩:=aJ0 hR;have p2:=Jt ih (I b (by simp)) v
   match es,hl,L,C with
   |[x,y,z],_,L,C=>obtain⟨x',y',z',rfl,h1,R,h3,e1,e2,e3⟩:=aJ9 C;have H:=Yk (t:=[105]) (by decide) h1 R h3;show U _ fun r=>∃ st:Bool×G1,r=(true,[.bool st.1,.Z 1 (P0 st.2)])∧Wr (f,s) st (dX [105] [x,y,z]++yS d b);replace g:s.length+14*(dX [105] [x,y,z]++yS d b:List Tk).length≤68000000000:=g;rw [Ip e1 e2 e3] at g ⊢;rw [A7] at g;refine L3 (L3 (L3 (L3 (L3 (J5 ?_)))));(refine H6 (H f s (by omega)) ?_;rintro _ _ ⟨⟨u,s1⟩,h,w1⟩;cases h;have a:=Wr.len w1;(try simp only [G0] at a);refine⟨rfl,J5 ?_⟩);refine J5 (I4 (IA v) ?_);(refine H6 (p2 u s1 (by omega)) ?_;rintro _ _ ⟨⟨A,w⟩,h,p⟩;cases h;have o:=Wr.len p;(try simp only [G0] at o);refine⟨rfl,J5 ?_⟩);exact H8 ⟨(A,w),rfl,w1.app p⟩
  ·match es,hl,L,C with
   |[e],_,L,C=>
    (obtain⟨V,rfl,h1,e1⟩:=Kj C;have H:=YI h1;have J:∀ (f:Bool) (s:G1),s.length+14*([(1,rR)]++(pW e++[(3,[59]),nl]):List Tk).length≤68000000000→U (fun n=>kJ n (P0 s) f [V]) fun r=>∃ st:Bool×G1,r=(true,[.bool st.1,.Z 1 (P0 st.2)])∧Wr (f,s) st ([(1,rR)]++(pW e++[(3,[59]),nl])):=by intro f s g;rw [Ww e1] at g ⊢;simp only [G0] at g;refine O9 (fun n=>kJ.eq_1 n ..) ?_;(refine H6 ((N7 (ws:=[(1,rR)]) (K8 rfl) (by decide) f s (by simp only [A0,A8];omega))) ?_;rintro _ _ ⟨⟨u,s1⟩,h,w1⟩;cases h;have a:=Wr.len w1;(try simp only [G0] at a);refine⟨rfl,I4 (L0 rfl (N6 _ _ _)) ?_⟩);refine J5 (I4 (MN h1) ?_);(refine H6 (H u s1 (by omega)) ?_;rintro _ _ ⟨⟨A,w⟩,h,p⟩;cases h;have o:=Wr.len p;(try simp only [G0] at o);refine⟨rfl,J5 ?_⟩);(refine H6 ((qO (ws:=[(3,[59])]) (K8 rfl) (by decide) (by decide) A w (by simp only [G0];omega))) ?_;rintro _ _ ⟨⟨E,B⟩,h,q⟩;cases h;have m:=Wr.len q;(try simp only [G0] at m);refine⟨rfl,I4 (L0 rfl (N6 _ _ _)) ?_⟩);exact H8 ⟨(E,B),rfl,w1.app (p.app q)⟩);refine L3 (L3 (L3 (L3 (L3 (L3 (J5 ?_))))));rcases ht with rfl|rfl
    ·exact L3 (J f s g)
    ·(replace g:s.length+14*([(1,[112,49]),(3,[58])]++([(1,rR)]++(pW e++[(3,[59]),nl])):List Tk).length≤68000000000:=g;simp only [G0] at g);refine J5 ?_;(refine H6 ((N7 (ws:=[(1,[112,49]),(3,[58])]) (K8 rfl) (by decide) f s (by simp only [A0,A8];omega))) ?_;rintro _ _ ⟨⟨u,s1⟩,h,w1⟩;cases h;have a:=Wr.len w1;(try simp only [G0] at a);refine⟨rfl,I4 (L0 rfl (N6 _ _ _)) ?_⟩);exact (J u s1 (by simp only [G0];omega)).mono fun r ⟨st,h1,R⟩=>⟨st,h1,w1.app R⟩
  ·(replace g:s.length+14*([(3,[59]),nl]:List Tk).length≤68000000000:=g;simp only [G0] at g);refine L3 (L3 (L3 (L3 (L3 (L3 (L3 ?_))))));(refine H6 ((qO (ws:=[(3,[59])]) (K8 rfl) (by decide) (by decide) f s (by simp only [G0];omega))) ?_;rintro _ _ ⟨⟨u,s1⟩,h,w1⟩;cases h;have a:=Wr.len w1;(try simp only [G0] at a);refine⟨rfl,I4 (L0 rfl (N6 _ _ _)) ?_⟩);exact H8 ⟨(u,s1),rfl,w1⟩
def zF:List G1:=[MG,mQ,kP,RU,oW,dC]
def Tr (ty:G1):List Tk:=bif ty==dC then [(1,oW),(1,mQ)] else [(1,ty)]
def Dj {ty:G1}(h:ty∈zF):(Lib.split ty [32]).map D.str=RW (Tr ty)∧FU (Tr ty)∧(Tr ty).length≤2:=by
 have a:(zF.all fun ty=>(Lib.split ty [32]==(Tr ty).map (·.2))&&((Tr ty).all fun p=>!(p.1==9)&&aJ3 p.2))=true:=by decide +kernel
 have a:=B6.1 a ty h;rw [A9] at a;refine⟨?_,K8 a.2,?_⟩
 ·rw [eq_of_beq a.1];simp [RW]
 ·unfold Tr;cases ty==dC<;>simp
def Tm {ty:G1}(h:ty∈zF):U (fun n=>strings_Split n (.str ty) (.str [32])) fun r=>r=(true,[.Z 1 (RW (Tr ty))]):=by
 have a:(zF.all fun ty=>Nat.ble ty.length 4294967280)=true:=by decide +kernel
 have a:=B6.1 a ty h;refine I5 (u:=fun _=>some (true,[D.Z 1 (RW (Tr ty))])) (fun n=>IJ n _ _ _ ?_) (H8 rfl);show (bif Nat.ble ty.length 4294967280&&true then some [D.Z 1 ((Lib.split ty [32]).map D.str)] else none)=_;rw [a,(Dj h).1];rfl
def xO {n:Nat}{x y:D}(h:OI n x y):∃ m k i j l nm ty sg es fs bs its els ps qs c b d a els' ps' qs',n=m+1∧x=I k nm ty sg es fs bs its els ps qs∧y=AJ k i j l nm ty sg c b d a els' ps' qs'∧kY es c∧kY fs b∧Rl (OS 4) bs d∧Rl (OI m) its a∧Rl (OI m) els els'∧Rl OC ps ps'∧Rl OC qs qs':=by
 cases n with
 |zero=>exact h.elim
 |succ n=>obtain⟨k,i,j,l,nm,ty,sg,es,fs,bs,its,els,ps,qs,c,b,d,a,els',ps',qs',h1,q,g1,g2,_,_,_,_,_,p,o,g,f,e⟩:=h;exact⟨n,k,i,j,l,nm,ty,sg,es,fs,bs,its,els,ps,qs,c,b,d,a,els',ps',qs',rfl,h1,q,g1,g2,p,o,g,f,e⟩
def Cb {n:Nat}{x y:D}(h:OI n x y):(dA I8&&kX I8 y)=true:=by obtain⟨_,_,_,_,_,_,_,_,_,_,_,_,_,_,_,_,_,_,_,_,_,_,_,_,rfl,_⟩:=xO h;rfl
def XV {n:Nat}{x y:D}(h:OI n x y):K4 I8 y=y:=by obtain⟨_,_,_,_,_,_,_,_,_,_,_,_,_,_,_,_,_,_,_,_,_,_,_,_,rfl,_⟩:=xO h;rfl
def Pb {es a:List D}(h:Rl (OE 4) es a):qV es=qV a:=by
 obtain⟨hl,b⟩:=h
 match es,a,hl,b with
 |[],[],_,_=>rfl
 |[x],[y],_,b=>show [(3,[91])]++(wE 4 x++[(3,[93])])=[(3,[91])]++(wE 4 y++[(3,[93])]);rw [show wE 4 x=wE 4 y from GC (b 0 (by simp) (by simp))]
 |x::x'::_,y::c::_,_,b=>show [(3,[91])]++(wE 4 x++([(3,[58])]++(wE 4 x'++[(3,[93])])))=[(3,[91])]++(wE 4 y++([(3,[58])]++(wE 4 c++[(3,[93])])));rw [show wE 4 x=wE 4 y from GC (b 0 (by simp) (by simp)),show wE 4 x'=wE 4 c from GC (b 1 (by simp) (by simp))]
def Rl.take {R:D→D→Prop}{xs ys:List D}(h:Rl R xs ys)(n:Nat):Rl R (xs.take n) (ys.take n):=⟨by rw [D7,D7,h.1],fun i b a=>by rw [D7] at b a;rw [List.getElem_take,List.getElem_take];exact h.2 i (by omega) (by omega)⟩
def Rl.drop {R:D→D→Prop}{xs ys:List D}(h:Rl R xs ys)(n:Nat):Rl R (xs.drop n) (ys.drop n):=⟨by rw [F9,F9,h.1],fun i b a=>by rw [F9] at b a;rw [List.getElem_drop,List.getElem_drop];exact h.2 (n+i) (by omega) (by omega)⟩
def WH {es:List D}(hl:es.length≤2)(a:∀ x∈es,zB 4 x):Pr (fun n=>R7 n (.Z 6 es)) (qV es):=by rw [← aL6];exact WG (KZ 4) hl a
def Yh (fs:List D):List Tk:=bif fs.isEmpty then [] else [(3,[61])]++wE 4 (x0 fs)
def aN4 {fs:List D}(hl:fs.length≤1)(d:∀ e∈fs,zB 4 e)(f:Bool)(s:G1)(a:s.length+14*(Yh fs).length≤68000000000):U (fun n=>lJ n (P0 s) f fs) (fun r=>∃ st:Bool×G1,r=(true,[.bool st.1,.Z 1 (P0 st.2)])∧Wr (f,s) st (Yh fs)):=by
 refine O9 (fun n=>lJ.eq_1 n ..) ?_
 match fs,hl,d,a with
 |[],_,_,_=>exact L3 (H8 ⟨(f,s),rfl,Wr.nil _⟩)
 |[x],_,d,a=>(replace a:s.length+14*([(3,[61])]++wE 4 x:List Tk).length≤68000000000:=a;simp only [G0] at a);refine J5 ?_;(refine H6 ((N7 (ws:=[(3,[61])]) (K8 rfl) (by decide) f s (by simp only [A0,A8];omega))) ?_;rintro _ _ ⟨⟨k,s1⟩,h,w1⟩;cases h;have c:=Wr.len w1;(try simp only [G0] at c);refine⟨rfl,I4 (L0 rfl (N6 _ _ _)) ?_⟩);(refine H6 (FI (KZ 4) (xs:=[x]) (by simp) d k s1 (by show s1.length+14*(wE 4 x).length≤_;omega)) ?_;rintro _ _ ⟨⟨j,i⟩,h,g⟩;cases h;have b:=Wr.len g;(try simp only [G0] at b);refine⟨rfl,J5 ?_⟩);exact H8 ⟨(j,i),rfl,w1.app g⟩
def aT8 {nm:G1}{es fs:List D}(q:gw nm)(hl:es.length=0∨es.length=2∨es.length=4)(m:∀ e∈es,zB 4 e)(a:fs.length≤1)(l:∀ e∈fs,zB 4 e)(f:Bool)(s:G1) (t:s.length+14*(qV (es.take 2)++([(1,nm)]++(qV (es.drop 2)++Yh fs)):List Tk).length≤68000000000):U (fun n=>lI n (P0 s) f es nm fs) (fun r=>∃ st:Bool×G1,r=(true,[.bool st.1,.Z 1 (P0 st.2)])∧Wr (f,s) st (qV (es.take 2)++([(1,nm)]++(qV (es.drop 2)++Yh fs)))):=by
 refine O9 (fun n=>lI.eq_1 n ..) ?_;simp only [G0] at t;have z:=WH (es:=es.take 2) (by rw [D7];omega) fun e h=>m e (List.mem_of_mem_take h);have y:=WH (es:=es.drop 2) (by rw [F9];omega) fun e h=>m e (List.mem_of_mem_drop h);have e1:(es.drop 0).take ((min 2 (es.length:Int)).toNat-0)=es.take 2:=by
  rw [List.drop_zero,Nat.sub_zero];rcases hl with h|h|h<;>rw [h]
  ·rw [E5.1 h];rfl
  ·rfl
  ·rfl
 have x:(es.drop 2).take ((es.length:Int).toNat-2)=es.drop 2:=List.take_of_length_le (by rw [F9,E1];exact B9 _);rw [e1,x];refine I4 (by rcases hl with h|h|h<;>rw [h]<;>rfl) ?_;(refine H6 (z f s (by omega)) ?_;rintro _ _ ⟨⟨v,s1⟩,h,w1⟩;cases h;have g:=Wr.len w1;(try simp only [G0] at g);refine⟨rfl,J5 ?_⟩);(refine H6 ((N7 (ws:=[(1,nm)]) (S9 q (K8 rfl)) (by simp) v s1 (by simp only [A0,A8];omega))) ?_;rintro _ _ ⟨⟨o,k⟩,h,b⟩;cases h;have d:=Wr.len b;(try simp only [G0] at d);refine⟨rfl,I4 (L0 rfl (N6 _ _ _)) ?_⟩);refine K0 (fun h=>?_) fun h=>?_
 ·have h:=E7 h;refine I4 (by rw [E6 (show (2:Int)≤es.length by omega),E6 (Int.le_refl _)];rfl) ?_;(refine H6 (y o k (by omega)) ?_;rintro _ _ ⟨⟨u,p⟩,h,j⟩;cases h;have c:=Wr.len j;(try simp only [G0] at c);refine⟨rfl,J5 ?_⟩);exact (aN4 a l u p (by omega)).mono fun r ⟨st,h1,i⟩=>⟨st,h1,w1.app (b.app (j.app i))⟩
 ·have h:=E9 h;have w:qV (es.drop 2)=[]:=by rw [D4 (by omega)];rfl
  refine (aN4 a l o k (by omega)).mono fun r ⟨st,h1,i⟩=>⟨st,h1,?_⟩;rw [w];exact w1.app (b.app i)
def aM2 {fs a:List D}(h:Rl (OE 4) fs a):Yh fs=Yh a:=by
 obtain⟨hl,b⟩:=h
 match fs,a,hl,b with
 |[],[],_,_=>rfl
 |x::_,y::_,_,b=>show [(3,[61])]++wE 4 x=[(3,[61])]++wE 4 y;rw [show wE 4 x=wE 4 y from GC (b 0 (by simp) (by simp))]
def aN6 {T:NT}(W:∀ p∈T,p.1∈zF){m:Nat}{x y:D}(h:xN T x)(h':OI m x y):Pr (fun n=>bP n (K4 I8 y)) (mN x):=by
 rw [XV h'];obtain⟨nm,ty,q,fl,sg,es,fs,rfl,S,Q,_,_,hl,w,H,G⟩:=h;obtain⟨m',k',i,j,l,O,K,L,k,X,bs,its,els,ps,qs,a,c,bs',F,els',ps',qs',_,e,rfl,o,z,_⟩:=xO h';cases e;have H:=KO o;have G:=KO z;have le:=o.2.1;have P:=z.2.1;have v:fs.length≤1:=by rcases w with rfl|⟨_,h,_⟩;exact C4 _;omega
 have B:=jL (T:=dP) rfl S;have d:ty∈zF:=W _ Q;obtain⟨es1,k,es3⟩:=Dj d;intro f s b;have eW:mN (I 1 nm ty sg es fs [] [] [] [] [])=Tr ty++((bif sg&&!(ty==kP) then [(1,pI)] else [])++(qV (a.take 2)++([(1,nm)]++(qV (a.drop 2)++Yh c)))):=by rw [← Pb (o.2.take 2),← Pb (o.2.drop 2),← aM2 z.2];rfl
 rw [eW] at b ⊢;have N:=fun f s b=>aT8 (nm:=nm) B (by rw [← le];exact hl) H (by rw [← P];exact v) G f s b;generalize (qV (a.take 2)++([(1,nm)]++(qV (a.drop 2)++Yh c)):List Tk)=R at b N ⊢;refine I5 (fun n=>EP n ..) (M3 (Tm d) ?_);simp only [A7] at b;(refine H6 (N7 (ws:=Tr ty) k (by omega) f s (by omega)) ?_;rintro _ _ ⟨⟨C,s1⟩,h,w1⟩;cases h;have u:=Wr.len w1;(try simp only [G0] at u);refine⟨rfl,I4 (L0 rfl (N6 _ _ _)) ?_⟩);have J:∀ g:Bool,g=(sg&&!(ty==kP))→U (fun n=>lH n g [.bool C,.Z 1 (P0 s1)] a nm c) (fun r=>∃ st:Bool×G1,r=(true,[.bool st.1,.Z 1 (P0 st.2)])∧Wr (f,s) st (Tr ty++((bif sg&&!(ty==kP) then [(1,pI)] else [])++R))):=by
  intro g V;refine O9 (fun n=>lH.eq_1 n ..) ?_;rw [← V] at b ⊢
  cases g with
  |true=>simp only [cond_true,A0,A8] at b;refine J5 ?_;(refine H6 ((N7 (ws:=[(1,pI)]) (K8 rfl) (by decide) C s1 (by simp only [A0,A8];omega))) ?_;rintro _ _ ⟨⟨f2,M⟩,h,E⟩;cases h;have t:=Wr.len E;(try simp only [G0] at t);refine⟨rfl,I4 (L0 rfl (N6 _ _ _)) ?_⟩);exact (N f2 M (by omega)).mono fun r ⟨st,h1,A⟩=>⟨st,h1,w1.app (E.app A)⟩
  |false=>simp only [cond_false,A8] at b;exact L3 ((N C s1 (by omega)).mono fun r ⟨st,h1,A⟩=>⟨st,h1,w1.app A⟩)
 cases sg with
 |true=>exact J5 (J _ rfl)
 |false=>exact L3 (J _ rfl)
def Qx (w:D→List Tk):∀ (b a:List D),(lW w a).length≤(lW w (a++b)).length
 |[],a=>by rw [D5];exact B9 _
 |x::b,a=>by have h:=Qx w b (a++[x]);rw [XJ,A7,C1] at h;exact Nat.le_trans (Nat.le_add_right _ _) h
def YK {Q:Bool×List D→Prop}{xs:List D}{w:D→List Tk}{T:Int→Bool→G1→Nat→Out}{f:Bool}{s:G1}(hl:xs.length≤1000)(n:s.length+14*(lW w xs).length≤68000000000) (step:∀ (j:Nat) (f:Bool) (s:G1) (h:j<xs.length),s.length+14*((bif j==0 then [] else [(3,[44])])++w xs[j]:List Tk).length≤68000000000→(∀ a s1,Wr (f,s) (a,s1) ((bif j==0 then [] else [(3,[44])])++w xs[j])→U (T (i64.wrap ((j:Int)+1)) a s1) Q)→U (T (j:Int) f s) Q) (fin:∀ a s1,Wr (f,s) (a,s1) (lW w xs)→U (T (xs.length:Int) a s1) Q):U (T 0 f s) Q:=by
 have aux:∀ (m j:Nat) (a:Bool) (s1:G1),xs.length-j=m→j≤xs.length→Wr (f,s) (a,s1) (lW w (xs.take j))→U (T (j:Int) a s1) Q:=by
  intro m
  induction m with
  |zero=>(intro j a s1 hm g c;have:j=xs.length:=by omega);subst this;rw [List.take_length] at c;exact fin a s1 c
  |succ m ih=>
   (intro j a s1 hm g c;have b:j<xs.length:=by omega);have l:(xs.take j).isEmpty=(j==0):=by
    cases j with
    |zero=>rfl
    |succ j=>
     cases xs with
     |nil=>simp at b
     |cons y r=>rfl
   (have e:lW w (xs.take (j+1))=lW w (xs.take j)++((bif j==0 then [] else [(3,[44])])++w xs[j]):=by rw [List.take_add_one,C2 b,Option.toList_some,XJ,l]);have le:=Qx w (xs.drop (j+1)) (xs.take (j+1));rw [List.take_append_drop,e,A7] at le;have l0:=c.len;refine step j a s1 b (by omega) fun k d i=>?_;rw [P4];exact ih (j+1) k d (by omega) (by omega) (by rw [e];exact c.app i)
 exact aux xs.length 0 f s rfl (C4 _) (Wr.nil _)
def Pm {xs ys:List D}(hn:xs.length≤10)(h:∀ x∈xs,xC x)(G:Rl OC xs ys):Pr (fun n=>bC n (.Z 5 ys)) (rA xs):=by
 have el:=G.1;intro f s a;(replace a:s.length+14*([(3,[40])]++(lW cW xs++[(3,[41])]):List Tk).length≤68000000000:=a;simp only [G0] at a);refine I5 (fun n=>zU n ..) ?_;(refine H6 ((N7 (ws:=[(3,[40])]) (K8 rfl) (by decide) f s (by simp only [A0,A8];omega))) ?_;rintro _ _ ⟨⟨f0,q⟩,h,w1⟩;cases h;have k:=Wr.len w1;(try simp only [G0] at k);refine⟨rfl,I4 (L0 rfl (N6 _ _ _)) ?_⟩);refine L4 (Q:=fun r=>∃ st:Bool×G1,r=(false,[.Z 5 ys,iD (ys.length:Int),iD (ys.length:Int),.bool st.1,.Z 1 (P0 st.2)])∧Wr (f0,q) st (lW cW xs)) ?_ (fun ds h=>by obtain⟨_,h,_⟩:=h;cases h) fun ds h=>?_
 ·refine YK (xs:=xs) (w:=cW) (T:=fun j f s n=>Y9 n (.Z 5 ys) (ys.length:Int) j (.bool f) (.Z 1 (P0 s))) (by omega) (by show q.length+_≤_;omega) (fun j f s F a K=>?_) fun g d W=>?_
  ·(have c:j<ys.length:=by omega);obtain⟨nm,es,e,z,O,p⟩:=h xs[j] (C6 F);obtain⟨L,i1,j1,l1,S,b,e2,H,A⟩:=G.2 j F c;have X:=e.symm.trans e2;cases X;have p:=KO A;have M:=A.2.1;have B:=jL (T:=dP) rfl z;have V:cW xs[j]=[(3,[46]),(1,nm),(3,[40])]++(lW (wE 4) b++[(3,[41])]):=by rw [e,← Xw A];rfl
   (rw [V] at a K;have J:∀ (l:Bool) (s1:G1) (u:List Tk),Wr (f,s) (l,s1) u→s1.length+14*([(3,[46]),(1,nm),(3,[40])]++(lW (wE 4) b++[(3,[41])]):List Tk).length≤68000000000→(∀ g d,Wr (f,s) (g,d) (u++([(3,[46]),(1,nm),(3,[40])]++(lW (wE 4) b++[(3,[41])])))→U (fun n=>Y9 n (.Z 5 ys) (ys.length:Int) (.int .i64 (i64.wrap ((j:Int)+1))) (.bool g) (.Z 1 (P0 d))) fun r=>∃ st:Bool×G1,r=(false,[.Z 5 ys,iD (ys.length:Int),iD (ys.length:Int),.bool st.1,.Z 1 (P0 st.2)])∧Wr (f0,q) st (lW cW xs))→U (fun n=>gJ n (P0 s1) l ys (j:Int) (ys.length:Int)) fun r=>∃ st:Bool×G1,r=(false,[.Z 5 ys,iD (ys.length:Int),iD (ys.length:Int),.bool st.1,.Z 1 (P0 st.2)])∧Wr (f0,q) st (lW cW xs):=by intro l s1 u N a K;simp only [G0] at a;refine O9 (fun n=>gJ.eq_1 n ..) ?_;rw [bS c,H];(refine H6 ((N7 (ws:=[(3,[46]),(1,nm),(3,[40])]) (S9 (by decide) (S9 B (K8 rfl))) (by simp) l s1 (by simp only [A0,A8];omega))) ?_;rintro _ _ ⟨⟨g,d⟩,h,o⟩;cases h;have y:=Wr.len o;(try simp only [G0] at y);refine⟨rfl,I4 (L0 rfl (N6 _ _ _)) ?_⟩);(refine H6 (FI (KZ 4) (xs:=b) (by omega) p g d (by omega)) ?_;rintro _ _ ⟨⟨C,t⟩,h,m⟩;cases h;have i:=Wr.len m;(try simp only [G0] at i);refine⟨rfl,J5 ?_⟩);(refine H6 ((N7 (ws:=[(3,[41])]) (K8 rfl) (by decide) C t (by simp only [A0,A8];omega))) ?_;rintro _ _ ⟨⟨R,I⟩,h,E⟩;cases h;have v:=Wr.len E;(try simp only [G0] at v);refine⟨rfl,I4 (L0 rfl (N6 _ _ _)) ?_⟩);exact K R I (N.app (o.app (m.app E))));refine I5 (fun n=>oZ n ..) (I4 aX8 (I4 (P1 c) (I4 (by rw [bS c,H];rfl) (K0 (fun h0=>?_) fun h0=>?_))))
   ·have h0:=E7 h0;rw [show (j==0)=false from F4.2 (by omega)] at a K;have P:s.length+14*(1+([(3,[46]),(1,nm),(3,[40])]++(lW (wE 4) b++[(3,[41])]):List Tk).length)≤68000000000:=by
     rw [cond_false,A7] at a;simpa only [A0,A8,C5] using a
    (refine H6 ((N7 (ws:=[(3,[44])]) (K8 rfl) (by decide) f s (by simp only [A0,A8];omega))) ?_;rintro _ _ ⟨⟨l,s1⟩,h,w1⟩;cases h;have k:=Wr.len w1;(try simp only [G0] at k);refine⟨rfl,I4 (L0 rfl (N6 _ _ _)) ?_⟩);exact J l s1 _ w1 (by omega) K
   ·(have h0:=E9 h0;have:j=0:=by omega);subst this;exact J f s [] (Wr.nil _) a K
  ·exact I5 (fun n=>oZ n ..) (N8 aY0 (H8 ⟨(g,d),by rw [el],W⟩))
 ·obtain⟨⟨g,d⟩,h,o⟩:=h;cases h;have l2:=o.len;refine J5 ?_;(refine H6 ((N7 (ws:=[(3,[41])]) (K8 rfl) (by decide) g d (by simp only [A0,A8];omega))) ?_;rintro _ _ ⟨⟨C,t⟩,h,m⟩;cases h;have i:=Wr.len m;(try simp only [G0] at i);refine⟨rfl,I4 (L0 rfl (N6 _ _ _)) ?_⟩);exact H8 ⟨(C,t),rfl,w1.app (o.app m)⟩
section
def Fe {w:D→List Tk}{xs ys:List D}(el:xs.length=ys.length)(p:xs.length≤1000)(h:∀ (j:Nat) (k:j<xs.length) (a:j<ys.length),Pr (fun n=>bU n (K4 I8 ys[j])) (w xs[j])∧(dA I8&&kX I8 ys[j])=true):Pr (fun n=>T0 n (.Z 14 ys)) (xs.flatMap w):=by
 intro f0 i l;refine I5 (fun n=>zV n ..) (L4 (Q:=fun r=>∃ st:Bool×G1,r=(false,[.Z 14 ys,iD (ys.length:Int),iD (ys.length:Int),.bool st.1,.Z 1 (P0 st.2)])∧Wr (f0,i) st (xs.flatMap w)) ?_ (fun ds h=>by obtain⟨_,h,_⟩:=h;cases h) fun ds h=>?_)
 ·refine YL (xs:=xs) (w:=w) (T:=fun j f s n=>aG n (.Z 14 ys) (ys.length:Int) j (.bool f) (.Z 1 (P0 s))) (by omega) (by show i.length+_≤_;omega) (fun j f s k l K=>?_) fun c b W=>?_
  ·(have a:j<ys.length:=by omega);obtain⟨o,ok⟩:=h j k a;refine I5 (fun n=>pA n ..) (I4 aX8 (I4 (P1 a) ?_));rw [bS a];refine I4 ok ?_;(refine H6 (o f s l) ?_;rintro _ _ ⟨⟨c,b⟩,h,e⟩;cases h;have g:=Wr.len e;(try simp only [G0] at g);refine⟨rfl,J5 ?_⟩);exact K c b e
  ·exact I5 (fun n=>pA n ..) (N8 aY0 (H8 ⟨(c,b),by rw [el],W⟩))
 ·obtain⟨⟨c,b⟩,h,e⟩:=h;cases h;exact J5 (H8 ⟨(c,b),rfl,e⟩)
def XR {T:NT}(u:∀ p∈T,p.1∈zF){m:Nat}{x y:D}(h:xN T x)(h':OI m x y):Pr (fun n=>bU n (K4 I8 y)) (mN x++[(3,[59]),nl]):=by have hp:=aN6 u h h';rw [XV h'] at hp ⊢;obtain⟨nm,ty,sg,es,fs,rfl⟩:=vH h;obtain⟨F,G,i,j,l,t,o,q,B,v,bs,its,els,ps,qs,C,w,E,g,els',ps',qs',_,e,rfl,_⟩:=xO h';cases e;intro f s k;rw [A7] at k;simp only [A0,A8] at k;refine I5 (fun n=>aA n ..) (J5 ?_);(refine H6 (hp f s (by omega)) ?_;rintro _ _ ⟨⟨A,s1⟩,h,w1⟩;cases h;have b:=Wr.len w1;(try simp only [G0] at b);refine⟨rfl,J5 ?_⟩);(refine H6 ((qO (ws:=[(3,[59])]) (K8 rfl) (by decide) (by decide) A s1 (by simp only [G0];omega))) ?_;rintro _ _ ⟨⟨z,r⟩,h,c⟩;cases h;have a:=Wr.len c;(try simp only [G0] at a);refine⟨rfl,I4 (L0 rfl (N6 _ _ _)) ?_⟩);exact H8 ⟨(z,r),rfl,w1.app c⟩
def Sf {nm ty:G1}{x:D}(q:gw nm)(p:gw ty)(o:zB 4 x)(k i j l:Int)(sg:Bool)(fs bs its els ps qs:List D):Pr (fun n=>Z4 n (AJ k i j l nm ty sg [x] fs bs its els ps qs)) ([(1,ty),(1,nm),(3,[61])]++wE 4 x):=by intro f s r;simp only [G0] at r;refine I5 (fun n=>zY n ..) ?_;(refine H6 ((N7 (ws:=[(1,ty),(1,nm),(3,[61])]) (S9 p (S9 q (K8 rfl))) (by simp) f s (by simp only [A0,A8];omega))) ?_;rintro _ _ ⟨⟨u,s1⟩,h,w1⟩;cases h;have b:=Wr.len w1;(try simp only [G0] at b);refine⟨rfl,I4 (L0 rfl (N6 _ _ _)) ?_⟩);(refine H6 (FI (KZ 4) (xs:=[x]) (by simp) (fun e h=>by rw [C3.1 h];exact o) u s1 (by show s1.length+14*(wE 4 x).length≤_;omega)) ?_;rintro _ _ ⟨⟨t,g⟩,h,c⟩;cases h;have a:=Wr.len c;(try simp only [G0] at a);refine⟨rfl,J5 ?_⟩);exact H8 ⟨(t,g),rfl,w1.app c⟩
def Gi {x y:D}(h:uN 4 x)(h':OS 4 x y):Pr (fun n=>M5 n (K4 M1 y)) (yS 4 x):=by rw [YG h'];exact aO8 4 x y h h'
def Vz {x y:D}(h:isLeft x)(a:OE 4 x y):aW (wE 4) y=wE 4 y:=by obtain⟨k,t,ar,rfl,_,h,_⟩:=h;have:=Xv a;unfold aW;rw [← this];rcases h with ⟨rfl,_⟩|⟨rfl,_⟩|⟨rfl,_⟩<;>rfl
def ZE (w:D→List Tk)(g:D):List Tk:=[(1,aM),(3,[58]),(1,(g.at_ 1).s),nl]++((g.at_ 7).l.flatMap w++[(1,iU),nl])
def aI9 (q:D):List Tk:=mN q++[(3,[59]),nl]
def aX4 (w:D→List Tk)(k:Int)(nm ty:G1)(sg:Bool)(es fs bs its els ps qs:List D):List Tk:=
 bif k==1 then nW nm ty sg es fs++[(3,[59]),nl]
 else bif k==2 then [(1,ty),(1,nm),(3,[61])]++(wE 4 (x0 es)++[(3,[59]),nl])
 else bif k==3 then [(1,MK),(1,nm),(3,[59]),nl]
 else bif k==4 then [(1,tO)]++(wE 4 (x0 es)++([(3,[61])]++(wE 4 (x1 es)++[(3,[59]),nl])))
 else bif k==5 then [(1,qK),(3,[64]),(3,[42])]++yS 4 (x0 bs)
 else bif k==6 then [(1,qK),(3,[64]),(3,[40]),(1,KE),(1,nm),(3,[41])]++yS 4 (x0 bs)
 else bif k==7 then [(1,FA)]++((bif sg then [(1,pI)] else [])++(qV es++([(1,nm),(3,[59]),nl]++(its.flatMap aI9++(yS 4 (x0 bs)++[(1,pS),nl])))))
 else bif k==8 then [(1,ty)]++((bif ps.isEmpty then [] else [(3,[35])]++rA ps)++([(1,nm)]++(rA qs++[(3,[59]),nl])))
 else bif k==9 then dX nm es++its.flatMap (ZE w)
 else [(1,zD)]++(pW (x0 es)++(its.flatMap (ZE w)++(bif els.isEmpty then [] else [(1,iM)]++els.flatMap (ZE w))))
def yI:Nat→D→List Tk
 |0,_=>[]
 |n+1,x=>aX4 (yI n) (x.at_ 0).i (x.at_ 1).s (x.at_ 2).s (x.at_ 3).b (x.at_ 4).l (x.at_ 5).l (x.at_ 6).l (x.at_ 7).l (x.at_ 8).l (x.at_ 9).l (x.at_ 10).l
section
variable {d:Nat} (ih:∀ x y m,xI d x→OI m x y→Pr (fun n=>bU n (K4 I8 y)) (yI d x))
include ih
def aC7 {its a:List D}{m:Nat}(hl:its.length≤10)(f:∀ i∈its,xI d i)(e:Rl (OI m) its a):Pr (fun n=>T0 n (.Z 14 a)) (its.flatMap (yI d)):=Fe e.1 (by omega) fun j c b=>⟨ih _ _ m (f _ (C6 c)) (e.2 j c b),Cb (e.2 j c b)⟩
def Eh {t:G1}{its ys:List D}{m:Nat}(H:gw t)(hl:its.length≤2)(I:∀ i∈its,xI d i)(J:Rl (OI m) [gB t its] ys):Pr (fun n=>Z3 n (.Z 14 ys)) ([gB t its].flatMap (ZE (yI d))):=by
 obtain⟨y,rfl,K⟩:=aJ0 J;obtain⟨S,T,i,j,l,G,B,C,P,M,bs,z,els,ps,qs,u,p,v,a,els',ps',qs',_,e,rfl,_,_,_,L,_⟩:=xO K;cases e;have F:=aC7 ih (by omega) I L;intro f s A;have R:[gB t its].flatMap (ZE (yI d))=[(1,aM),(3,[58]),(1,t),nl]++(its.flatMap (yI d)++[(1,iU),nl]):=by show ([(1,aM),(3,[58]),(1,t),nl]++(its.flatMap (yI d)++[(1,iU),nl]))++[]=_;rw [D5]
 rw [R] at A ⊢;simp only [G0] at A;refine I5 (fun n=>zR n ..) (L4 (Q:=fun r=>∃ st:Bool×G1,r=(false,[.Z 14 [AJ 11 i j l t [] false u p v a els' ps' qs'],iD 1,iD 1,.bool st.1,.Z 1 (P0 st.2)])∧Wr (f,s) st ([(1,aM),(3,[58]),(1,t),nl]++(its.flatMap (yI d)++[(1,iU),nl]))) ?_ (fun ds h=>by obtain⟨_,h,_⟩:=h;cases h) fun ds h=>?_)
 ·refine I5 (fun n=>oY n ..) (J5 (J5 (J5 ?_)));(refine H6 ((qO (ws:=[(1,aM),(3,[58]),(1,t)]) (S9 (by decide) (S9 (by decide) (S9 H (K8 rfl)))) (by simp) (by simp) f s (by simp only [G0];omega))) ?_;rintro _ _ ⟨⟨O,s1⟩,h,w1⟩;cases h;have o:=Wr.len w1;(try simp only [G0] at o);refine⟨rfl,I4 (L0 rfl (N6 _ _ _)) ?_⟩);(refine H6 (F O s1 (by omega)) ?_;rintro _ _ ⟨⟨q,c⟩,h,b⟩;cases h;have k:=Wr.len b;(try simp only [G0] at k);refine⟨rfl,J5 ?_⟩);(refine H6 ((qO (ws:=[(1,iU)]) (K8 rfl) (by decide) (by decide) q c (by simp only [G0];omega))) ?_;rintro _ _ ⟨⟨N,E⟩,h,w⟩;cases h;have g:=Wr.len w;(try simp only [G0] at g);refine⟨rfl,I4 (L0 rfl (N6 _ _ _)) ?_⟩);exact I5 (fun n=>oY n ..) (L3 (H8 ⟨(N,E),rfl,w1.app (b.app w)⟩))
 ·obtain⟨⟨q,c⟩,h,b⟩:=h;cases h;exact J5 (H8 ⟨(q,c),rfl,b⟩)
end
def aR0 (sg:Bool)(nm:G1)(es its:List D)(x:D):List Tk:=[(1,FA)]++((bif sg then [(1,pI)] else [])++(qV es++([(1,nm),(3,[59]),nl]++(its.flatMap aI9++(yS 4 x++[(1,pS),nl])))))
def Lh {T:NT}(hT:∀ p∈T,p.1∈zF){m:Nat}{i j l:Int}{nm ty:G1}{sg:Bool}{es fs its els ps qs a els' ps' qs':List D}{x y:D}(X:gw nm)(hl:es.length≤2)(he:∀ e∈es,zB 4 e)(hi:its.length≤10)(S:∀ i∈its,xN T i)(W:uN 4 x)(K:OS 4 x y)(C:Rl (OI m) its a) :Pr (fun n=>cJ n (AJ 7 i j l nm ty sg es fs [y] a els' ps' qs')) (aR0 sg nm es its x):=by
 have Q:=WH hl he;have p2:Pr (fun n=>T0 n (.Z 14 a)) (its.flatMap aI9):=Fe C.1 (by omega) fun j B q=>⟨XR hT (S _ (C6 B)) (C.2 j B q),Cb (C.2 j B q)⟩;have p3:=Gi W K;intro f s k;unfold aR0 at k ⊢;have J:∀ (b:Bool) (s1:G1) (u:List Tk),Wr (f,s) (b,s1) u→s1.length+14*(qV es++([(1,nm),(3,[59]),nl]++(its.flatMap aI9++(yS 4 x++[(1,pS),nl]))):List Tk).length≤68000000000→U (fun n=>gK n (P0 s1) b es nm a [y]) (fun r=>∃ st:Bool×G1,r=(true,[.bool st.1,.Z 1 (P0 st.2)])∧Wr (f,s) st (u++(qV es++([(1,nm),(3,[59]),nl]++(its.flatMap aI9++(yS 4 x++[(1,pS),nl])))))):=by intro b s1 u V k;simp only [G0] at k;refine O9 (fun n=>gK.eq_1 n ..) ?_;(refine H6 (Q b s1 (by omega)) ?_;rintro _ _ ⟨⟨E,t⟩,h,o⟩;cases h;have c:=Wr.len o;(try simp only [G0] at c);refine⟨rfl,J5 ?_⟩);(refine H6 ((qO (ws:=[(1,nm),(3,[59])]) (S9 X (K8 rfl)) (by simp) (by simp) E t (by simp only [G0];omega))) ?_;rintro _ _ ⟨⟨f3,P⟩,h,I⟩;cases h;have A:=Wr.len I;(try simp only [G0] at A);refine⟨rfl,I4 (L0 rfl (N6 _ _ _)) ?_⟩);(refine H6 (p2 f3 P (by omega)) ?_;rintro _ _ ⟨⟨f4,O⟩,h,H⟩;cases h;have z:=Wr.len H;(try simp only [G0] at z);refine⟨rfl,J5 ?_⟩);refine J5 (I4 (IA K) ?_);(refine H6 (p3 f4 O (by omega)) ?_;rintro _ _ ⟨⟨f5,N⟩,h,G⟩;cases h;have w:=Wr.len G;(try simp only [G0] at w);refine⟨rfl,J5 ?_⟩);(refine H6 ((qO (ws:=[(1,pS)]) (K8 rfl) (by decide) (by decide) f5 N (by simp only [G0];omega))) ?_;rintro _ _ ⟨⟨f6,M⟩,h,F⟩;cases h;have v:=Wr.len F;(try simp only [G0] at v);refine⟨rfl,I4 (L0 rfl (N6 _ _ _)) ?_⟩);exact H8 ⟨(f6,M),rfl,V.app (o.app (I.app (H.app (G.app F))))⟩
 refine I5 (fun n=>vS n 7 i j l nm ty sg es fs [y] a els' ps' qs' f (P0 s)) ?_;generalize (qV es++([(1,nm),(3,[59]),nl]++(its.flatMap aI9++(yS 4 x++[(1,pS),nl]))):List Tk)=R at k J ⊢
 cases sg with
 |true=>simp only [cond_true,G0] at k;(refine H6 ((N7 (ws:=[(1,FA)]) (K8 rfl) (by decide) f s (by simp only [A0,A8];omega))) ?_;rintro _ _ ⟨⟨b,s1⟩,h,w1⟩;cases h;have g:=Wr.len w1;(try simp only [G0] at g);refine⟨rfl,I4 (L0 rfl (N6 _ _ _)) ?_⟩);refine J5 ?_;(refine H6 ((N7 (ws:=[(1,pI)]) (K8 rfl) (by decide) b s1 (by simp only [A0,A8];omega))) ?_;rintro _ _ ⟨⟨E,t⟩,h,o⟩;cases h;have c:=Wr.len o;(try simp only [G0] at c);refine⟨rfl,I4 (L0 rfl (N6 _ _ _)) ?_⟩);refine (J E t _ (w1.app o) (by omega)).mono fun r ⟨st,h1,L⟩=>⟨st,h1,?_⟩;rw [C1] at L;exact L
 |false=>simp only [cond_false,G0] at k;(refine H6 ((N7 (ws:=[(1,FA)]) (K8 rfl) (by decide) f s (by simp only [A0,A8];omega))) ?_;rintro _ _ ⟨⟨b,s1⟩,h,w1⟩;cases h;have g:=Wr.len w1;(try simp only [G0] at g);refine⟨rfl,I4 (L0 rfl (N6 _ _ _)) ?_⟩);exact L3 (J b s1 _ w1 (by omega))
end
def aB8 (c:UInt8)(b:gw [c]){k:UInt8}(d:k.toNat≤8):gw [c,48+k]:=by
 have a:∀ n:Nat,n≤8→(!((48+UInt8.ofNat n)==32)&&!((48+UInt8.ofNat n)==10))=true:=by decide +kernel
 have a:=a _ d;rw [UInt8.ofNat_toNat] at a;have b:(true&&(true&&((!(c==32)&&!(c==10))&&true)))=true:=b;rw [Bool.true_and,Bool.true_and,Bool.and_true] at b;show (true&&(true&&((!(c==32)&&!(c==10))&&((!((48+k)==32)&&!((48+k)==10))&&true))))=true;rw [b,a];rfl
def aN1:∀ (d:Nat) (x y:D) (m:Nat),xI d x→OI m x y→Pr (fun n=>bU n (K4 I8 y)) (yI d x):=by
 intro d
 induction d with
 |zero=>intro x y m h;exact h.elim
 |succ d ih=>
  intro x y m h h';rcases h with (h|h)|⟨nm,e,rfl,hn,he⟩|⟨nm,rfl,hn⟩|⟨l,e,rfl,hlf,he⟩|⟨s0,rfl,hs⟩|⟨s0,rfl,hs⟩|⟨sg,es,its,s0,rfl,hl,he,_,hi,hx,hs⟩|⟨k,ps,qs,rfl,hk,hp,hq,hpc,hqc⟩|⟨es,its,rfl,hl,he,hi,hx⟩|⟨e,its,els,rfl,he,hi,hx,hel⟩
  ·have hp:=XR (T:=wO) (by decide) h h';obtain⟨nm,ty,sg,es,fs,rfl⟩:=vH h;exact hp
  ·have hp:=XR (T:=KH) (by decide) h h';obtain⟨nm,ty,sg,es,fs,rfl⟩:=vH h;exact hp
  all_goals
   rw [XV h'];obtain⟨m',k',O,N,l0,nm',ty',sg',es2,fs2,bs2,its2,els2,ps2,qs2,A,z,G,q,els',ps',qs',_,F,rfl,Q,hF,hB,hI,hE,hP,hQ⟩:=xO h';cases F;have hfl:=hF.2.1
  ·have X:=jL (T:=dP) rfl hn;obtain⟨F,rfl,h1,e1⟩:=Kj Q;have hp:=Sf X (ty:=sD) (by decide) h1 2 O N l0 false z G q els' ps' qs';intro f s g;show U _ fun r=>∃ st:Bool×G1,r=(true,[.bool st.1,.Z 1 (P0 st.2)])∧Wr (f,s) st ([(1,sD),(1,nm),(3,[61])]++(wE 4 e++[(3,[59]),nl]));replace g:s.length+14*([(1,sD),(1,nm),(3,[61])]++(wE 4 e++[(3,[59]),nl]):List Tk).length≤68000000000:=g;rw [e1] at g ⊢;simp only [G0] at g;refine I5 (fun n=>aA n ..) (L3 (J5 ?_));(refine H6 (hp f s (by simp only [G0];omega)) ?_;rintro _ _ ⟨⟨w,s1⟩,h,w1⟩;cases h;have o:=Wr.len w1;(try simp only [G0] at o);refine⟨rfl,J5 ?_⟩);(refine H6 ((qO (ws:=[(3,[59])]) (K8 rfl) (by decide) (by decide) w s1 (by simp only [G0];omega))) ?_;rintro _ _ ⟨⟨E,B⟩,h,v⟩;cases h;have p:=Wr.len v;(try simp only [G0] at p);refine⟨rfl,I4 (L0 rfl (N6 _ _ _)) ?_⟩);refine H8 ⟨(E,B),rfl,?_⟩;have W:=w1.app v;rw [C1] at W;exact W
  ·have X:=jL (T:=dP) rfl hn;intro f s g;(replace g:s.length+14*([(1,MK),(1,nm),(3,[59]),nl]:List Tk).length≤68000000000:=g;simp only [G0] at g);refine I5 (fun n=>aA n 3 O N l0 nm [] false A z G q els' ps' qs' f (P0 s)) (L3 (L3 (J5 ?_)));(refine H6 ((qO (ws:=[(1,MK),(1,nm),(3,[59])]) (S9 (by decide) (S9 X (K8 rfl))) (by simp) (by simp) f s (by simp only [G0];omega))) ?_;rintro _ _ ⟨⟨w,s1⟩,h,w1⟩;cases h;have o:=Wr.len w1;(try simp only [G0] at o);refine⟨rfl,I4 (L0 rfl (N6 _ _ _)) ?_⟩);exact H8 ⟨(w,s1),rfl,w1⟩
  ·have hO1:∃ l' F,A=[l',F]∧OE 4 l l'∧OE 4 e F:=by
    obtain⟨_,hl,hr⟩:=Q
    match A,hl,hr with
    |[l',F],_,hr=>exact⟨l',F,rfl,hr 0 (by simp) (by simp),hr 1 (by simp) (by simp)⟩
   obtain⟨l',F,rfl,g1,g2⟩:=hO1;have hl4:=Un g1;have he4:=Un g2;have e1:=GC g1;have e2:=GC g2;have K:=ZU (KZ 4) hl4;rw [Vz hlf g1] at K;have p2:=UC he4;intro f s g;show U _ fun r=>∃ st:Bool×G1,r=(true,[.bool st.1,.Z 1 (P0 st.2)])∧Wr (f,s) st ([(1,tO)]++(wE 4 l++([(3,[61])]++(wE 4 e++[(3,[59]),nl]))));replace g:s.length+14*([(1,tO)]++(wE 4 l++([(3,[61])]++(wE 4 e++[(3,[59]),nl]))):List Tk).length≤68000000000:=g;rw [e1,e2] at g ⊢;simp only [G0] at g;refine I5 (fun n=>aA n 4 O N l0 [] [] false [l',F] z G q els' ps' qs' f (P0 s)) (L3 (L3 (L3 (J5 ?_))));(refine H6 ((N7 (ws:=[(1,tO)]) (K8 rfl) (by decide) f s (by simp only [A0,A8];omega))) ?_;rintro _ _ ⟨⟨w,s1⟩,h,w1⟩;cases h;have o:=Wr.len w1;(try simp only [G0] at o);refine⟨rfl,I4 (L0 rfl (N6 _ _ _)) ?_⟩);refine J5 ?_;(refine H6 (K w s1 (by omega)) ?_;rintro _ _ ⟨⟨E,B⟩,h,v⟩;cases h;have p:=Wr.len v;(try simp only [G0] at p);refine⟨rfl,J5 ?_⟩);(refine H6 ((N7 (ws:=[(3,[61])]) (K8 rfl) (by decide) E B (by simp only [A0,A8];omega))) ?_;rintro _ _ ⟨⟨S,P⟩,h,H⟩;cases h;have M:=Wr.len H;(try simp only [G0] at M);refine⟨rfl,I4 (L0 rfl (N6 _ _ _)) ?_⟩);refine J5 (I4 (MN he4) ?_);(refine H6 (p2 S P (by omega)) ?_;rintro _ _ ⟨⟨f4,s4⟩,h,R⟩;cases h;have L:=Wr.len R;(try simp only [G0] at L);refine⟨rfl,J5 ?_⟩);(refine H6 ((qO (ws:=[(3,[59])]) (K8 rfl) (by decide) (by decide) f4 s4 (by simp only [G0];omega))) ?_;rintro _ _ ⟨⟨f5,s5⟩,h,w5⟩;cases h;have lw5:=Wr.len w5;(try simp only [G0] at lw5);refine⟨rfl,I4 (L0 rfl (N6 _ _ _)) ?_⟩);exact H8 ⟨(f5,s5),rfl,w1.app (v.app (H.app (R.app w5)))⟩
  ·obtain⟨y0,rfl,V⟩:=aJ0 hB;have K:=Gi hs V;intro f s g;(replace g:s.length+14*([(1,qK),(3,[64]),(3,[42])]++yS 4 s0:List Tk).length≤68000000000:=g;simp only [G0] at g);refine I5 (fun n=>aA n 5 O N l0 [] [] false A z [y0] q els' ps' qs' f (P0 s)) (L3 (L3 (L3 (L3 (J5 ?_)))));(refine H6 ((N7 (ws:=[(1,qK),(3,[64]),(3,[42])]) (K8 rfl) (by decide) f s (by simp only [A0,A8];omega))) ?_;rintro _ _ ⟨⟨w,s1⟩,h,w1⟩;cases h;have o:=Wr.len w1;(try simp only [G0] at o);refine⟨rfl,I4 (L0 rfl (N6 _ _ _)) ?_⟩);refine J5 (I4 (IA V) ?_);(refine H6 (K w s1 (by omega)) ?_;rintro _ _ ⟨⟨E,B⟩,h,v⟩;cases h;have p:=Wr.len v;(try simp only [G0] at p);refine⟨rfl,J5 ?_⟩);exact H8 ⟨(E,B),rfl,w1.app v⟩
  ·obtain⟨y0,rfl,V⟩:=aJ0 hB;have K:=Gi hs V;intro f s g;(replace g:s.length+14*([(1,qK),(3,[64]),(3,[40]),(1,KE),(1,AN),(3,[41])]++yS 4 s0:List Tk).length≤68000000000:=g;simp only [G0] at g);refine I5 (fun n=>aA n 6 O N l0 AN [] false A z [y0] q els' ps' qs' f (P0 s)) (L3 (L3 (L3 (L3 (L3 (J5 ?_))))));(refine H6 ((N7 (ws:=[(1,qK),(3,[64]),(3,[40]),(1,KE),(1,AN),(3,[41])]) (K8 rfl) (by decide) f s (by simp only [A0,A8];omega))) ?_;rintro _ _ ⟨⟨w,s1⟩,h,w1⟩;cases h;have o:=Wr.len w1;(try simp only [G0] at o);refine⟨rfl,I4 (L0 rfl (N6 _ _ _)) ?_⟩);refine J5 (I4 (IA V) ?_);(refine H6 (K w s1 (by omega)) ?_;rintro _ _ ⟨⟨E,B⟩,h,v⟩;cases h;have p:=Wr.len v;(try simp only [G0] at p);refine⟨rfl,J5 ?_⟩);exact H8 ⟨(E,B),rfl,w1.app v⟩
  ·obtain⟨y0,rfl,V⟩:=aJ0 hB;have K:=Lh (T:=DI) (by decide) (nm:=[102]) (ty:=[]) (sg:=sg) (es:=A) (fs:=z) (els:=[]) (ps:=[]) (qs:=[]) (i:=O) (j:=N) (l:=l0) (els':=els') (ps':=ps') (qs':=qs') (by decide) (by have:=Q.2.1;omega) (KO Q) (by omega) hx hs V hI;intro f s g;have eW:yI (d+1) (I 7 [102] [] sg es [] [s0] its [] [] [])=aR0 sg [102] A its s0:=by
    unfold aR0;rw [← Pb Q.2];rfl
   rw [eW] at g ⊢;refine I5 (fun n=>aA n 7 O N l0 [102] [] sg A z [y0] q els' ps' qs' f (P0 s)) (L3 (L3 (L3 (L3 (L3 (L3 (J5 ?_)))))));(refine H6 (K f s g) ?_;rintro _ _ ⟨⟨w,s1⟩,h,w1⟩;cases h;have o:=Wr.len w1;(try simp only [G0] at o);refine⟨rfl,J5 ?_⟩);exact H8 ⟨(w,s1),rfl,w1⟩
  ·have cp:=Pm (by omega) hpc hP;have cq:=Pm (by omega) hqc hQ;intro f s g;have eW:yI (d+1) (I 8 [117,48+k] wL false [] [] [] [] [] ps qs)=[(1,wL)]++((bif ps.isEmpty then [] else [(3,[35])]++rA ps)++([(1,[117,48+k])]++(rA qs++[(3,[59]),nl]))):=rfl;rw [eW] at g ⊢;have J:∀ (w:Bool) (s1:G1) (u:List Tk),Wr (f,s) (w,s1) u→s1.length+14*([(1,[117,48+k])]++(rA qs++[(3,[59]),nl]):List Tk).length≤68000000000→U (fun n=>kH n (P0 s1) w [117,48+k] qs') (fun r=>∃ st:Bool×G1,r=(true,[.bool st.1,.Z 1 (P0 st.2)])∧Wr (f,s) st (u++([(1,[117,48+k])]++(rA qs++[(3,[59]),nl])))):=by
    intro w s1 u hu g;simp only [G0] at g;refine O9 (fun n=>kH.eq_1 n ..) ?_;(refine H6 ((N7 (ws:=[(1,[117,48+k])]) (S9 (aB8 117 (by decide) hk) (K8 rfl)) (by simp) w s1 (by simp only [A0,A8];omega))) ?_;rintro _ _ ⟨⟨E,B⟩,h,v⟩;cases h;have p:=Wr.len v;(try simp only [G0] at p);refine⟨rfl,I4 (L0 rfl (N6 _ _ _)) ?_⟩);(refine H6 (cq E B (by omega)) ?_;rintro _ _ ⟨⟨S,P⟩,h,H⟩;cases h;have M:=Wr.len H;(try simp only [G0] at M);refine⟨rfl,J5 ?_⟩);(refine H6 ((qO (ws:=[(3,[59])]) (K8 rfl) (by decide) (by decide) S P (by simp only [G0];omega))) ?_;rintro _ _ ⟨⟨f4,s4⟩,h,R⟩;cases h;have L:=Wr.len R;(try simp only [G0] at L);refine⟨rfl,I4 (L0 rfl (N6 _ _ _)) ?_⟩);exact H8 ⟨(f4,s4),rfl,hu.app (v.app (H.app R))⟩
   (refine I5 (fun n=>aA n 8 O N l0 [117,48+k] wL false A z G q els' ps' qs' f (P0 s)) (L3 (L3 (L3 (L3 (L3 (L3 (L3 (J5 ?_))))))));have C:s.length+14*(1+((bif ps.isEmpty then [] else [(3,[35])]++rA ps:List Tk).length+([(1,[117,48+k])]++(rA qs++[(3,[59]),nl]):List Tk).length))≤68000000000:=by rw [A7,A7] at g;simpa only [A0,A8,C5] using g);clear g;(refine H6 ((N7 (ws:=[(1,wL)]) (K8 rfl) (by decide) f s (by simp only [A0,A8];omega))) ?_;rintro _ _ ⟨⟨w,s1⟩,h,w1⟩;cases h;have o:=Wr.len w1;(try simp only [G0] at o);refine⟨rfl,I4 (L0 rfl (N6 _ _ _)) ?_⟩);have el:=hP.1;refine K0 (fun h0=>?_) fun h0=>?_
   ·have h0:=E7 h0;have:ps.isEmpty=false:=by
     cases ps with
     |nil=>simp at el;omega
     |cons=>rfl
    rw [this] at C ⊢;simp only [cond_false] at C;rw [A7] at C;simp only [A0,A8] at C;(refine H6 ((N7 (ws:=[(3,[35])]) (K8 rfl) (by decide) w s1 (by simp only [A0,A8];omega))) ?_;rintro _ _ ⟨⟨E,B⟩,h,v⟩;cases h;have p:=Wr.len v;(try simp only [G0] at p);refine⟨rfl,I4 (L0 rfl (N6 _ _ _)) ?_⟩);(refine H6 (cp E B (by omega)) ?_;rintro _ _ ⟨⟨S,P⟩,h,H⟩;cases h;have M:=Wr.len H;(try simp only [G0] at M);refine⟨rfl,J5 ?_⟩);refine (J S P _ (w1.app (v.app H)) (by omega)).mono fun r ⟨st,h1,h2⟩=>⟨st,h1,?_⟩;simpa using h2
   ·have h0:=E9 h0;have:ps=[]:=E5.1 (by omega);subst this;exact J w s1 _ w1 (by omega)
  ·have pb:=Eh ih (t:=[103]) (by decide) hi hx hI
   match es,hl,he,Q with
   |[a,b,c],_,he,Q=>obtain⟨a',b',c',rfl,h1,h2,h3,e1,e2,e3⟩:=aJ9 Q;have K:=Yk (t:=[105]) (by decide) h1 h2 h3;intro f s g;show U _ fun r=>∃ st:Bool×G1,r=(true,[.bool st.1,.Z 1 (P0 st.2)])∧Wr (f,s) st (dX [105] [a,b,c]++[gB [103] its].flatMap (ZE (yI d)));replace g:s.length+14*(dX [105] [a,b,c]++[gB [103] its].flatMap (ZE (yI d)):List Tk).length≤68000000000:=g;rw [Ip e1 e2 e3] at g ⊢;rw [A7] at g;refine I5 (fun n=>aA n 9 O N l0 [105] [] false [a',b',c'] z G q els' ps' qs' f (P0 s)) (L3 (L3 (L3 (L3 (L3 (L3 (L3 (L3 (J5 ?_)))))))));(refine H6 (K f s (by omega)) ?_;rintro _ _ ⟨⟨w,s1⟩,h,w1⟩;cases h;have o:=Wr.len w1;(try simp only [G0] at o);refine⟨rfl,J5 ?_⟩);(refine H6 (pb w s1 (by omega)) ?_;rintro _ _ ⟨⟨E,B⟩,h,v⟩;cases h;have p:=Wr.len v;(try simp only [G0] at p);refine⟨rfl,J5 ?_⟩);exact H8 ⟨(E,B),rfl,w1.app v⟩
  ·have pb:=Eh ih (t:=[116]) (by decide) hi hx hI;obtain⟨F,rfl,h1,e1⟩:=Kj Q;have K:=YI h1;intro f s g;have eW:yI (d+1) (I 10 [] [] false [e] [] [] [gB [116] its] els [] [])=[(1,zD)]++(pW F++([gB [116] its].flatMap (ZE (yI d))++(bif els.isEmpty then [] else [(1,iM)]++els.flatMap (ZE (yI d))))):=by
    rw [← Ww e1];rfl
   (rw [eW] at g ⊢;refine I5 (fun n=>aA n 10 O N l0 [] [] false [F] z G q els' ps' qs' f (P0 s)) (L3 (L3 (L3 (L3 (L3 (L3 (L3 (L3 (L3 (J5 ?_))))))))));have C:s.length+14*(1+((pW F).length+(([gB [116] its].flatMap (ZE (yI d))).length+(bif els.isEmpty then [] else [(1,iM)]++els.flatMap (ZE (yI d)):List Tk).length)))≤68000000000:=by rw [A7,A7,A7] at g;simpa only [A0,A8,C5] using g);clear g;(refine H6 ((N7 (ws:=[(1,zD)]) (K8 rfl) (by decide) f s (by simp only [A0,A8];omega))) ?_;rintro _ _ ⟨⟨w,s1⟩,h,w1⟩;cases h;have o:=Wr.len w1;(try simp only [G0] at o);refine⟨rfl,I4 (L0 rfl (N6 _ _ _)) ?_⟩);refine J5 (I4 (MN h1) ?_);(refine H6 (K w s1 (by omega)) ?_;rintro _ _ ⟨⟨E,B⟩,h,v⟩;cases h;have p:=Wr.len v;(try simp only [G0] at p);refine⟨rfl,J5 ?_⟩);have l2:B.length≤s1.length+14*(pW F).length:=v.len;refine H6 (pb E B (by omega)) ?_;rintro _ _ ⟨⟨S,P⟩,h,H⟩;cases h;have l3:P.length≤B.length+14*([gB [116] its].flatMap (ZE (yI d))).length:=H.len;refine⟨rfl,J5 ?_⟩;rcases hel with rfl|⟨zs,rfl,hz,hzx⟩
   ·have:els'=[]:=E5.1 hE.1.symm;subst this;exact L3 (H8 ⟨(S,P),rfl,by simpa using w1.app (v.app H)⟩)
   ·have pe:=Eh ih (t:=[101]) (by decide) hz hzx hE;have el:=hE.1;rw [show (bif ([gB [101] zs]:List D).isEmpty then [] else [(1,iM)]++[gB [101] zs].flatMap (ZE (yI d)):List Tk)=[(1,iM)]++[gB [101] zs].flatMap (ZE (yI d)) from rfl] at C ⊢;rw [List.singleton_append,A0] at C;refine I4 (E6 (by simp at el;omega)) ?_;(refine H6 ((N7 (ws:=[(1,iM)]) (K8 rfl) (by decide) S P (by simp only [A0,A8];omega))) ?_;rintro _ _ ⟨⟨f4,s4⟩,h,R⟩;cases h;have L:=Wr.len R;(try simp only [G0] at L);refine⟨rfl,I4 (L0 rfl (N6 _ _ _)) ?_⟩);refine H6 (pe f4 s4 (by omega)) ?_;rintro _ _ ⟨⟨f5,s5⟩,h,w5⟩;cases h;exact⟨rfl,J5 (H8 ⟨(f5,s5),rfl,w1.app (v.app (H.app (R.app w5)))⟩)⟩
def aF9 {m:Nat}{x y:D}(h:xP x)(h':OI m x y):Pr (fun n=>Z4 n (K4 I8 y)) (uI x):=by
 rw [XV h'];obtain⟨nm,e,rfl,l,v⟩:=h;obtain⟨t,u,k,j,l0,i,f,g,q,p,bs,its,els,ps,qs,r,b,d,a,els',ps',qs',_,c,rfl,o,_⟩:=xO h';cases c;obtain⟨c,rfl,h1,e1⟩:=Kj o;have s:uI (I 2 nm sR false [e] [] [] [] [] [] [])=[(1,sR),(1,nm),(3,[61])]++wE 4 c:=by rw [← e1];rfl
 rw [s];exact Sf (jL (T:=dP) rfl l) (ty:=sR) (by decide) h1 2 k j l0 false b d a els' ps' qs'
def Wy {xs ys pp qq ii:List D}{nm:G1}{i k l:Int}{m:Nat}(v:xs.length≤10)(h:∀ x∈xs,xP x)(t:Rl (OI m) xs ys)(f:Bool)(s:G1)(g:s.length+14*(lW uI xs).length≤68000000000) :U (fun n=>V3 n (.Z 14 ys) (ys.length:Int) (0:Int) (.bool f) (.str nm) i k l (.Z 14 pp) (.Z 14 qq) (.Z 14 ii) (.Z 1 (P0 s))) fun r=>∃ st:Bool×G1,r=(false,[.Z 14 ys,iD (ys.length:Int),iD (ys.length:Int),.bool st.1,.str nm,iD i,iD k,iD l,.Z 14 pp,.Z 14 qq,.Z 14 ii,.Z 1 (P0 st.2)])∧Wr (f,s) st (lW uI xs):=by
 have el:=t.1
 ·refine YK (xs:=xs) (w:=uI) (T:=fun j f s n=>V3 n (.Z 14 ys) (ys.length:Int) j (.bool f) (.str nm) i k l (.Z 14 pp) (.Z 14 qq) (.Z 14 ii) (.Z 1 (P0 s))) (by omega) (by show s.length+_≤_;omega) (fun j f s q g K=>?_) fun e d W=>?_
  ·(have b:j<ys.length:=by omega);have r:=t.2 j q b;have p:=aF9 (h _ (C6 q)) r;refine I5 (fun n=>oF n ..) (I4 aX8 (I4 (P1 b) ?_));rw [bS b];refine I4 (Cb r) (K0 (fun h0=>?_) fun h0=>?_)
   ·have h0:=E7 h0;rw [show (j==0)=false from F4.2 (by omega)] at g K;simp only [cond_false,G0] at g;(refine H6 ((N7 (ws:=[(3,[44])]) (K8 rfl) (by decide) f s (by simp only [A0,A8];omega))) ?_;rintro _ _ ⟨⟨u,s1⟩,h,w1⟩;cases h;have o:=Wr.len w1;(try simp only [G0] at o);refine⟨rfl,I4 (L0 rfl (N6 _ _ _)) ?_⟩);(refine H6 (p u s1 (by omega)) ?_;rintro _ _ ⟨⟨e,d⟩,h,c⟩;cases h;have a:=Wr.len c;(try simp only [G0] at a);refine⟨rfl,J5 ?_⟩);exact K e d (w1.app c)
   ·(have h0:=E9 h0;have:j=0:=by omega);subst this;(refine H6 (p f s g) ?_;rintro _ _ ⟨⟨e,d⟩,h,c⟩;cases h;have a:=Wr.len c;(try simp only [G0] at a);refine⟨rfl,J5 ?_⟩);exact K e d c
  ·exact I5 (fun n=>oF n ..) (N8 aY0 (H8 ⟨(e,d),by rw [el],W⟩))
def aG3 {xs ys pp qq ii:List D}{nm:G1}{i k l:Int}{m:Nat}(v:xs.length≤10)(h:∀ x∈xs,xN oN x)(t:Rl (OI m) xs ys)(f:Bool)(s:G1)(g:s.length+14*(lW mN xs).length≤68000000000) :U (fun n=>V4 n (.Z 14 ys) (ys.length:Int) (0:Int) (.bool f) (.str nm) i k l (.Z 14 pp) (.Z 14 qq) (.Z 14 ii) (.Z 1 (P0 s))) fun r=>∃ st:Bool×G1,r=(false,[.Z 14 ys,iD (ys.length:Int),iD (ys.length:Int),.bool st.1,.str nm,iD i,iD k,iD l,.Z 14 pp,.Z 14 qq,.Z 14 ii,.Z 1 (P0 st.2)])∧Wr (f,s) st (lW mN xs):=by
 have el:=t.1
 ·refine YK (xs:=xs) (w:=mN) (T:=fun j f s n=>V4 n (.Z 14 ys) (ys.length:Int) j (.bool f) (.str nm) i k l (.Z 14 pp) (.Z 14 qq) (.Z 14 ii) (.Z 1 (P0 s))) (by omega) (by show s.length+_≤_;omega) (fun j f s q g K=>?_) fun e d W=>?_
  ·(have b:j<ys.length:=by omega);have r:=t.2 j q b;have p:=aN6 (T:=oN) (by decide) (h _ (C6 q)) r;refine I5 (fun n=>oG n ..) (I4 aX8 (I4 (P1 b) ?_));rw [bS b];refine I4 (Cb r) (K0 (fun h0=>?_) fun h0=>?_)
   ·have h0:=E7 h0;rw [show (j==0)=false from F4.2 (by omega)] at g K;simp only [cond_false,G0] at g;(refine H6 ((N7 (ws:=[(3,[44])]) (K8 rfl) (by decide) f s (by simp only [A0,A8];omega))) ?_;rintro _ _ ⟨⟨u,s1⟩,h,w1⟩;cases h;have o:=Wr.len w1;(try simp only [G0] at o);refine⟨rfl,I4 (L0 rfl (N6 _ _ _)) ?_⟩);(refine H6 (p u s1 (by omega)) ?_;rintro _ _ ⟨⟨e,d⟩,h,c⟩;cases h;have a:=Wr.len c;(try simp only [G0] at a);refine⟨rfl,J5 ?_⟩);exact K e d (w1.app c)
   ·(have h0:=E9 h0;have:j=0:=by omega);subst this;(refine H6 (p f s g) ?_;rintro _ _ ⟨⟨e,d⟩,h,c⟩;cases h;have a:=Wr.len c;(try simp only [G0] at a);refine⟨rfl,J5 ?_⟩);exact K e d c
  ·exact I5 (fun n=>oG n ..) (N8 aY0 (H8 ⟨(e,d),by rw [el],W⟩))
def yM (x:D):List Tk:=[(1,yU),(1,(x.at_ 0).s)]++((bif (x.at_ 1).l.isEmpty then [] else [(3,[35]),(3,[40])]++(lW uI (x.at_ 1).l++[(3,[41])]))++([(3,[40])]++(lW mN (x.at_ 2).l++([(3,[41]),(3,[59]),nl]++((x.at_ 3).l.flatMap (yI 4)++[(1,rV),nl])))))
def Zh (nm:G1)(x:D):Prop:=∃ ps qs its,x=M nm ps qs its∧ps.length≤2∧qs.length≤3∧its.length≤5∧(∀ p∈ps,xP p)∧(∀ q∈qs,xN oN q)∧∀ i∈its,xI 4 i
def Wc {a:G1}(hg:gw a){x y:D}(h:Zh a x)(h':OM x y):Pr (fun n=>aL n (K4 dU y)) (yM x):=by
 intro f s g;obtain⟨ps,qs,its,rfl,l1,l2,Q,h1,I,h3⟩:=h;obtain⟨nm,i,t,l,ps2,X,S,ps',qs',b,e,rfl,_,_,_,_,T,hQ,H⟩:=h';cases e;have p3:Pr (fun n=>T0 n (.Z 14 b)) (its.flatMap (yI 4)):=Fe H.1 (by omega) fun j G v=>⟨aN1 4 _ _ 8 (h3 _ (C6 G)) (H.2 j G v),Cb (H.2 j G v)⟩;have eW:yM (M a ps qs its)=[(1,yU),(1,a)]++((bif ps.isEmpty then [] else [(3,[35]),(3,[40])]++(lW uI ps++[(3,[41])]))++([(3,[40])]++(lW mN qs++([(3,[41]),(3,[59]),nl]++(its.flatMap (yI 4)++[(1,rV),nl]))))):=rfl;rw [eW] at g ⊢;have J:∀ (m:Bool) (s1:G1) (u:List Tk),Wr (f,s) (m,s1) u→s1.length+14*([(3,[40])]++(lW mN qs++([(3,[41]),(3,[59]),nl]++(its.flatMap (yI 4)++[(1,rV),nl]))):List Tk).length≤68000000000→U (fun n=>jC n m a i t l ps' qs' b (P0 s1)) fun r=>∃ st:Bool×G1,r=(true,[.bool st.1,.Z 1 (P0 st.2)])∧Wr (f,s) st (u++([(3,[40])]++(lW mN qs++([(3,[41]),(3,[59]),nl]++(its.flatMap (yI 4)++[(1,rV),nl]))))):=by intro m s1 u hu g;simp only [G0] at g;refine O9 (fun n=>jC.eq_1 n ..) ?_;(refine H6 ((N7 (ws:=[(3,[40])]) (K8 rfl) (by decide) m s1 (by simp only [A0,A8];omega))) ?_;rintro _ _ ⟨⟨N,B⟩,h,q⟩;cases h;have d:=Wr.len q;(try simp only [G0] at d);refine⟨rfl,I4 (L0 rfl (N6 _ _ _)) ?_⟩);refine L4 (aG3 (xs:=qs) (ys:=qs') (pp:=ps') (qq:=qs') (ii:=b) (nm:=a) (i:=i) (k:=t) (l:=l) (by omega) I hQ N B (by omega)) (fun ds h=>by obtain⟨_,h,_⟩:=h;cases h) fun ds h=>?_;obtain⟨⟨L,A⟩,h,p⟩:=h;cases h;have Q:=p.len;refine J5 ?_;(refine H6 ((qO (ws:=[(3,[41]),(3,[59])]) (K8 rfl) (by decide) (by decide) L A (by simp only [G0];omega))) ?_;rintro _ _ ⟨⟨K,z⟩,h,o⟩;cases h;have c:=Wr.len o;(try simp only [G0] at c);refine⟨rfl,I4 (L0 rfl (N6 _ _ _)) ?_⟩);(refine H6 (p3 K z (by omega)) ?_;rintro _ _ ⟨⟨f5,W⟩,h,P⟩;cases h;have E:=Wr.len P;(try simp only [G0] at E);refine⟨rfl,J5 ?_⟩);(refine H6 ((qO (ws:=[(1,rV)]) (K8 rfl) (by decide) (by decide) f5 W (by simp only [G0];omega))) ?_;rintro _ _ ⟨⟨f6,V⟩,h,O⟩;cases h;have C:=Wr.len O;(try simp only [G0] at C);refine⟨rfl,I4 (L0 rfl (N6 _ _ _)) ?_⟩);exact H8 ⟨(f6,V),rfl,hu.app (q.app (p.app (o.app (P.app O))))⟩
 show U (fun n=>aL n (AM a i t l ps' qs' b) (.bool f) (.Z 1 (P0 s))) _;refine I5 (fun n=>yY n a i t l ps' qs' b f (P0 s)) ?_;generalize ([(3,[40])]++(lW mN qs++([(3,[41]),(3,[59]),nl]++(its.flatMap (yI 4)++[(1,rV),nl]))):List Tk)=R at g J ⊢;have w:s.length+14*(2+((bif ps.isEmpty then [] else [(3,[35]),(3,[40])]++(lW uI ps++[(3,[41])]):List Tk).length+R.length))≤68000000000:=by rw [A7,A7] at g;simpa only [A0,A8,C5] using g
 clear g;(refine H6 ((N7 (ws:=[(1,yU),(1,a)]) (S9 (by decide) (S9 hg (K8 rfl))) (by simp) f s (by simp only [A0,A8];omega))) ?_;rintro _ _ ⟨⟨m,s1⟩,h,w1⟩;cases h;have F:=Wr.len w1;(try simp only [G0] at F);refine⟨rfl,I4 (L0 rfl (N6 _ _ _)) ?_⟩);have el:=T.1;refine K0 (fun h0=>?_) fun h0=>?_
 ·have h0:=E7 h0;have:ps.isEmpty=false:=by
   cases ps with
   |nil=>simp at el;omega
   |cons=>rfl
  rw [this] at w ⊢;simp only [cond_false,G0] at w;(refine H6 ((N7 (ws:=[(3,[35]),(3,[40])]) (K8 rfl) (by decide) m s1 (by simp only [A0,A8];omega))) ?_;rintro _ _ ⟨⟨N,B⟩,h,q⟩;cases h;have d:=Wr.len q;(try simp only [G0] at d);refine⟨rfl,I4 (L0 rfl (N6 _ _ _)) ?_⟩);refine L4 (Wy (xs:=ps) (ys:=ps') (pp:=ps') (qq:=qs') (ii:=b) (nm:=a) (i:=i) (k:=t) (l:=l) (by omega) h1 T N B (by omega)) (fun ds h=>by obtain⟨_,h,_⟩:=h;cases h) fun ds h=>?_;obtain⟨⟨L,A⟩,h,p⟩:=h;cases h;have Q:=p.len;refine J5 ?_;(refine H6 ((N7 (ws:=[(3,[41])]) (K8 rfl) (by decide) L A (by simp only [A0,A8];omega))) ?_;rintro _ _ ⟨⟨K,z⟩,h,o⟩;cases h;have c:=Wr.len o;(try simp only [G0] at c);refine⟨rfl,I4 (L0 rfl (N6 _ _ _)) ?_⟩);refine (J K z _ (w1.app (q.app (p.app o))) (by omega)).mono fun r ⟨st,h1,I⟩=>⟨st,h1,?_⟩;simpa using I
 ·have h0:=E9 h0;have:ps=[]:=E5.1 (by omega);subst this;exact J m s1 _ w1 (by omega)
def Ma (s:G1):vC (P0 s)=true:=by
 induction s with
 |nil=>rfl
 |cons c s ih=>show (decide (0≤(c.toNat:Int))&&decide ((c.toNat:Int)<256)&&vC (P0 s))=true;have:=c.toNat_lt;rw [ih,aX8,aX8];rfl
def Mw (s:G1):(P0 s).map toByte=s:=by
 induction s with
 |nil=>rfl
 |cons c s ih=>show UInt8.ofNat (c.toNat:Int).toNat::(P0 s).map toByte=c::s;rw [ih,E1,UInt8.ofNat_toNat]
def aV8 (nms:List G1)(ms:List D):Prop:=nms.length=ms.length∧∀ (k:Nat) (h:k<ms.length) (h':k<nms.length),Zh nms[k] ms[k]∧gw nms[k]
def Sl {nms:List G1}{ms ys:List D}(p:ms.length≤6)(h:aV8 nms ms)(k:Rl OM ms ys)(o:14*(ms.flatMap yM).length≤68000000000):U (fun n=>pK n (.Z 7 ys)) fun r=>r=(true,[.str (PI (ms.flatMap yM) (true,[])).2]):=by
 have el:=k.1;refine I5 (fun n=>ZP n ys) (L4 (Q:=fun r=>∃ st:Bool×G1,r=(false,[.Z 7 ys,iD (ys.length:Int),iD (ys.length:Int),.bool st.1,.Z 1 (P0 st.2)])∧Wr (true,[]) st (ms.flatMap yM)) ?_ (fun ds h=>by obtain⟨_,h,_⟩:=h;cases h) fun ds h=>?_)
 ·refine YL (xs:=ms) (w:=yM) (f:=true) (s:=[]) (T:=fun j f s n=>jM n (.Z 7 ys) (ys.length:Int) j (.bool f) (.Z 1 (P0 s))) (by omega) (by show 0+_≤_;rw [C5];exact o) (fun j f s i m K=>?_) fun d b W=>?_
  ·(have a:j<ys.length:=by omega);have r:=k.2 j i a;obtain⟨hm,l⟩:=h.2 j i (by rw [h.1];exact i);refine I5 (fun n=>zQ n ..) (I4 aX8 (I4 (P1 a) ?_));rw [bS a];refine I4 (by obtain⟨_,_,_,_,_,_,_,_,_,_,_,e,_⟩:=r;rw [e];rfl) ?_;(refine H6 (Wc l hm r f s m) ?_;rintro _ _ ⟨⟨d,b⟩,h,c⟩;cases h;have g:=Wr.len c;(try simp only [G0] at g);refine⟨rfl,J5 ?_⟩);exact K d b c
  ·exact I5 (fun n=>zQ n ..) (N8 aY0 (H8 ⟨(d,b),by rw [el],W⟩))
 ·obtain⟨⟨d,b⟩,h,c⟩:=h;cases h;refine J5 (I4 (by show (vC (P0 b)&&true&&true)=true;rw [Ma];rfl) (H8 ?_));show (true,[D.str ((P0 b).map toByte)])=_;rw [Mw,← c.1]
section
def Yw:∀ (n:Nat) (x:D),xI n x→qI n x≤(wI n x).length
 |0,_,h=>h.elim
 |n+1,x,h=>by
  have ih:=Yw n;rcases h with (h|h)|⟨nm,e,rfl,m,g⟩|⟨nm,rfl,m⟩|⟨l0,e,rfl,t,g⟩|⟨a,rfl,c⟩|⟨a,rfl,c⟩|⟨sg,es,its,a,rfl,v,g,w,u,d,c⟩|⟨k,ps,qs,rfl,A,hp,z,s,r⟩|⟨es,its,rfl,B,g,m,d⟩|⟨e,its,els,rfl,g,m,d,o⟩
  ·obtain⟨nm,ty,q,f,sg,es,fs,rfl,_⟩:=nN h;show 1+0≤(nW nm ty sg es fs++[(3,[59])]:List Tk).length;simp only [G0];omega
  ·obtain⟨nm,ty,q,f,sg,es,fs,rfl,_⟩:=nN h;show 1+0≤(nW nm ty sg es fs++[(3,[59])]:List Tk).length;simp only [G0];omega
  ·show 1+0≤([(1,sD),(1,nm),(3,[61])]++(wE 4 e++[(3,[59])]):List Tk).length;simp only [G0];omega
  ·show 1+0≤([(1,MK),(1,nm),(3,[59])]:List Tk).length;simp only [A0,A8];omega
  ·show 1+0≤([(1,tO)]++(wE 4 l0++([(3,[61])]++(wE 4 e++[(3,[59])]))):List Tk).length;simp only [G0];omega
  ·have:=Jf 4 a c;show 1+((qS 4 a+0)+0+0)≤([(1,qK),(3,[64]),(3,[42])]++wS 4 a:List Tk).length;simp only [G0];omega
  ·have:=Jf 4 a c;show 1+((qS 4 a+0)+0+0)≤([(1,qK),(3,[64]),(3,[40]),(1,KE),(1,AN),(3,[41])]++wS 4 a:List Tk).length;simp only [G0];omega
  ·have:=Jf 4 a c;show 1+qS 4 a≤([(1,FA)]++((bif sg then [(1,pI)] else [])++(qV es++([(1,[102]),(3,[59])]++(its.flatMap IT++(wS 4 a++[(1,pS)]))))):List Tk).length;simp only [G0];omega
  ·show 1+0≤([(1,wL)]++((bif ps.isEmpty then [] else [(3,[35])]++rA ps)++([(1,[117,48+k])]++(rA qs++[(3,[59])]))):List Tk).length;simp only [G0];omega
  ·have h1:sQ (qI n) its≤(its.flatMap (wI n)).length:=LY fun x b=>ih x (d x b);have i:[gB [103] its].flatMap (JC (wI n))=[(1,aM),(3,[58]),(1,[103])]++(its.flatMap (wI n)++[(1,iU)]):=by
    show ([(1,aM),(3,[58]),(1,[103])]++(its.flatMap (wI n)++[(1,iU)]))++[]=_;rw [D5]
   show 1+(0+(sQ (qI n) its+0)+0)≤(dX [105] es++[gB [103] its].flatMap (JC (wI n)):List Tk).length;rw [i];simp only [G0];omega
  ·have h1:sQ (qI n) its≤(its.flatMap (wI n)).length:=LY fun x b=>ih x (d x b);have i:[gB [116] its].flatMap (JC (wI n))=[(1,aM),(3,[58]),(1,[116])]++(its.flatMap (wI n)++[(1,iU)]):=by
    show ([(1,aM),(3,[58]),(1,[116])]++(its.flatMap (wI n)++[(1,iU)]))++[]=_;rw [D5]
   rcases o with rfl|⟨ys,rfl,p,j⟩
   ·show 1+(0+(sQ (qI n) its+0)+0)≤([(1,zD)]++(pW e++([gB [116] its].flatMap (JC (wI n))++[])):List Tk).length;rw [i];simp only [G0];omega
   ·have C:sQ (qI n) ys≤(ys.flatMap (wI n)).length:=LY fun x b=>ih x (j x b);have y:[gB [101] ys].flatMap (JC (wI n))=[(1,aM),(3,[58]),(1,[101])]++(ys.flatMap (wI n)++[(1,iU)]):=by
     show ([(1,aM),(3,[58]),(1,[101])]++(ys.flatMap (wI n)++[(1,iU)]))++[]=_;rw [D5]
    show 1+(0+(sQ (qI n) its+0)+(sQ (qI n) ys+0))≤([(1,zD)]++(pW e++([gB [116] its].flatMap (JC (wI n))++([(1,iM)]++[gB [101] ys].flatMap (JC (wI n))))):List Tk).length;rw [i,y];simp only [G0];omega
def aD9 {t:G1}(h:t∈dP):(t==mQ)=false:=VE (by simp only [sT,D3];exact .inl h) (by simp [Yr])
def aD7 {l:List D}{nm ty:G1}{sg:Bool}{es fs:List D}(d:nm∈dP){i:Nat}(c:K6 l i (nR nm ty sg es fs)):∃ k t a b e,l[i]? = some (tk k t a b e)∧(t==mQ)=false:=by
 unfold nR at c
 cases hb:(sg&&!(ty==kP)) with
 |true=>rw [hb] at c;obtain⟨a,b,e,h⟩:=K1 (show K6 l i ((1,pI)::_) from c);exact⟨_,_,_,_,_,h,rfl⟩
 |false=>
  rw [hb] at c;have c:K6 l i (qV (es.take 2)++([(1,nm)]++(qV (es.drop 2)++aJ2 fs))):=c
  match hes:es.take 2,c with
  |[],c=>obtain⟨a,b,e,h⟩:=K1 (show K6 l i ((1,nm)::_) from c);exact⟨_,_,_,_,_,h,aD9 d⟩
  |[x],c=>obtain⟨a,b,e,h⟩:=K1 (show K6 l i ((3,[91])::_) from c);exact⟨_,_,_,_,_,h,rfl⟩
  |x::y::r,c=>obtain⟨a,b,e,h⟩:=K1 (show K6 l i ((3,[91])::_) from c);exact⟨_,_,_,_,_,h,rfl⟩
section
variable {l:List D} (hl:l.length≤1000000)
include hl
def Xa {x:D}(K:xN oN x){i:Nat}(g:K6 l i (mN x)){t:G1}{a b e:Int}(j:l[i+(mN x).length]? = some (tk 3 t a b e))(A:cl t=true)(d c O V W:Int)(z:0≤d)(m:d≤32) :U (fun n=>cD n (.Z 5 l) (i:Int) d c O V W (0:Int)) fun r=>∃ y,OI 8 x y∧r=(true,[y,.Z 5 l,iD ((i+(mN x).length:Nat):Int),iD d,iD c,iD O,iD V,iD W,iD 0]):=by
 obtain⟨nm,ty,q,f,sg,es,fs,rfl,g1,hm,J,H,G,F,E,C⟩:=nN K;have M:mN (I 1 nm ty sg es fs [] [] [] [] [])=(bif ty==dC then [(1,oW),(1,mQ)] else [(1,ty)])++nR nm ty sg es fs:=Wf ..;have w:ty=RU∨ty=oW∨ty=dC:=by
  simp only [oN,B7,C7,List.not_mem_nil,or_false] at hm;rcases hm with h|h|h
  ·exact .inl h.1
  ·exact .inr (.inl h.1)
  ·exact .inr (.inr h.1)
 rw [M] at g j ⊢;rcases w with rfl|rfl|rfl
 ·have g:K6 l i ((1,RU)::nR nm RU sg es fs):=g;have v:((bif RU==dC then [(1,oW),(1,mQ)] else [(1,RU)])++nR nm RU sg es fs:List Tk).length=1+(nR nm RU sg es fs).length:=by
   show (_::nR nm RU sg es fs:List Tk).length=_;rw [A0];omega
  rw [v] at j ⊢;obtain⟨a1,k,e1,h1⟩:=K1 g;have N:=QP hl (Ko (.inr (.inr (.inr rfl)))) g1 hm J H G F E C (M0 g) (SA j (by omega)) A a1 k e1 d c O V W z m;refine I5 (fun n=>gD n ..) (M3 (O3 d c O V W h1) (M3 (M6 d c O V W hl h1 rfl) (J5 (H6 N ?_))));rintro _ ds ⟨u,s,p,o,h0⟩;cases h0;refine⟨rfl,J5 (H8 ⟨_,aY2 a1 k e1 p o,?_⟩)⟩;rw [show i+(1+(nR nm RU sg es fs).length)=i+1+(nR nm RU sg es fs).length from by omega];rfl
 ·have g:K6 l i ((1,oW)::nR nm oW sg es fs):=g;have v:((bif oW==dC then [(1,oW),(1,mQ)] else [(1,oW)])++nR nm oW sg es fs:List Tk).length=1+(nR nm oW sg es fs).length:=by
   show (_::nR nm oW sg es fs:List Tk).length=_;rw [A0];omega
  rw [v] at j ⊢;obtain⟨a1,k,e1,h1⟩:=K1 g;obtain⟨S,R,a2,Q,P,B,L⟩:=aD7 g1 (M0 g);have N:=QP hl (Ko (.inr (.inr (.inr rfl)))) g1 hm J H G F E C (M0 g) (SA j (by omega)) A a1 k e1 d c O V W z m;refine I5 (fun n=>gD n l i d c O V W 0) (M3 (O3 d c O V W h1) (M3 (I7 d c O V W h1 rfl) (L3 (M3 (M8 d c O V W hl [oW] (by simp) (S7 h1 rfl)) (M3 (I7 d c O V W B (QO L)) (L3 (H6 N ?_)))))));rintro _ ds ⟨u,s,p,o,h0⟩;cases h0;refine⟨rfl,J5 (H8 ⟨_,aY2 a1 k e1 p o,?_⟩)⟩;rw [show i+(1+(nR nm oW sg es fs).length)=i+1+(nR nm oW sg es fs).length from by omega];rfl
 ·have g:K6 l i ((1,oW)::(1,mQ)::nR nm dC sg es fs):=g;have v:((bif dC==dC then [(1,oW),(1,mQ)] else [(1,dC)])++nR nm dC sg es fs:List Tk).length=2+(nR nm dC sg es fs).length:=by
   show (_::_::nR nm dC sg es fs:List Tk).length=_;rw [A0,A0];omega
  rw [v] at j ⊢;obtain⟨a1,k,e1,h1⟩:=K1 g;obtain⟨a2,Q,P,B⟩:=K1 (M0 g);have N:=QP hl (Ko (.inr (.inr (.inr rfl)))) g1 hm J H G F E C (M0 (M0 g)) (SA j (by omega)) A a1 k e1 d c O V W z m;refine I5 (fun n=>gD n l i d c O V W 0) (M3 (O3 d c O V W h1) (M3 (I7 d c O V W h1 rfl) (L3 (M3 (M8 d c O V W hl [oW] (by simp) (S7 h1 rfl)) (M3 (M6 d c O V W hl B rfl) (J5 (H6 N ?_)))))));rintro _ ds ⟨u,s,p,o,h0⟩;cases h0;refine⟨rfl,J5 (H8 ⟨_,aY2 a1 k e1 p o,?_⟩)⟩;rw [show i+(2+(nR nm dC sg es fs).length)=i+1+1+(nR nm dC sg es fs).length from by omega];rfl
def Oc (l:List D)(nm:G1)(m0 m1 a d c O V W:Int)(zs:List D)(z:D):Prop:=∀ (i:Nat) (acc xs:List D),(∀ y∈z::zs,xP y)→K6 l i (lW uI (z::zs)++[(3,[41])])→(z::zs).length+acc.length≤100→Rl (OI 8) xs acc→
  U (fun n=>T5 n (.Z 5 l) (i:Int) d c O V W (0:Int) (.str []) (0:Int) (0:Int) (0:Int) (.str nm) m0 m1 a (.Z 14 []) (.Z 14 []) (.Z 14 []) (.Z 14 acc) (.Z 14 []) (.Z 14 [])) fun r=>∃ ys,Rl (OI 8) (xs++z::zs) ys∧r=(false,[.Z 5 l,iD ((i+(lW uI (z::zs)).length:Nat):Int),iD d,iD c,iD O,iD V,iD W,iD 0,.str [],iD 0,iD 0,iD 0,.str nm,iD m0,iD m1,iD a,.Z 14 [],.Z 14 [],.Z 14 [],.Z 14 ys,.Z 14 [],.Z 14 []])
def Sg (nm:G1)(m0 m1 E d c O V W:Int)(M:0≤d)(v:d≤32)(zs:List D)(z:D)(P:∀ j f,zs=j::f→Oc l nm m0 m1 E d c O V W f j):Oc l nm m0 m1 E d c O V W zs z:=by
 intro i acc xs F o H G;obtain⟨n1,e,S,u,J⟩:=F z (B8 ..);subst S;have B:uI (I 2 n1 sR false [e] [] [] [] [] [] [])=[(1,sR),(1,n1),(3,[61])]++wE 4 e:=rfl;have p:(uI (I 2 n1 sR false [e] [] [] [] [] [] [])).length=3+(wE 4 e).length:=by rw [B];simp only [G0]
 have m:∃ rest,lW uI (I 2 n1 sR false [e] [] [] [] [] [] []::zs)++[(3,[41])]=[(1,sR),(1,n1),(3,[61])]++(wE 4 e++rest)∧rest=(match zs with|[]=>[(3,[41])]|j::f=>(3,[44])::(lW uI (j::f)++[(3,[41])])):=by
  cases zs with
  |nil=>exact⟨_,by show uI _++[(3,[41])]=_;rw [B,C1],rfl⟩
  |cons j f=>exact⟨_,by show (uI _++((3,[44])::lW uI (j::f)))++[(3,[41])]=_;rw [B,C1,C1];rfl,rfl⟩
 obtain⟨rest,h0,g⟩:=m;rw [h0] at o;have o:K6 l i ((1,sR)::([(1,n1),(3,[61])]++(wE 4 e++rest))):=o;rw [← C1] at o;obtain⟨a1,q,e1,h1⟩:=K1 o;obtain⟨Q,k⟩:=L6.1 (M0 o);have N:([(1,n1),(3,[61])]++wE 4 e:List Tk).length=2+(wE 4 e).length:=by simp only [G0]
 rw [N] at k;have w:∃ t a b C,l[i+1+(2+(wE 4 e).length)]? = some (tk 3 t a b C)∧cl t=true:=by
  subst g
  cases zs with
  |nil=>obtain⟨a,b,C,h⟩:=K1 k;exact⟨_,_,_,_,h,rfl⟩
  |cons j f=>obtain⟨a,b,C,h⟩:=K1 k;exact⟨_,_,_,_,h,rfl⟩
 obtain⟨t7,a7,b7,e7,R,gc⟩:=w;have A:=Cj hl u J Q R gc (ty:=sR) a1 q e1 d c O V W M v;refine I5 (fun n=>fA n ..) (J5 (M3 (O3 d c O V W h1) (M3 (M8 d c O V W hl [sR] (by simp) (S7 h1 rfl)) (H6 A ?_))));rintro _ ds ⟨y,s,h0⟩;cases h0;have L:OI 8 (I 2 n1 sR false [e] [] [] [] [] [] []) (AJ 2 a1 q e1 n1 sR false [y] [] [] [] [] [] []):=BN (kY.one J s) kY.nil (by simp) (by simp) (by simp) (by simp) (by simp) Rl.nil Rl.nil Rl.nil Rl.nil Rl.nil;refine⟨rfl,J5 (I4 (B2 (by simp only [L9,A0] at H ⊢;omega)) ?_)⟩
 cases zs with
 |nil=>subst g;obtain⟨a5,X,T,x⟩:=K1 k;refine M3 (I7 d c O V W x rfl) (J5 (H8 ⟨acc++[AJ 2 a1 q e1 n1 sR false [y] [] [] [] [] [] []],G.snoc L,?_⟩));rw [show i+(lW uI [I 2 n1 sR false [e] [] [] [] [] [] []]).length=i+1+(2+(wE 4 e).length) from by show i+(uI _).length=_;rw [p];omega];rfl
 |cons j f=>subst g;obtain⟨a5,X,T,x⟩:=K1 k;have k:=M0 k;have K:=P j f rfl (i+1+(2+(wE 4 e).length)+1) (acc++[AJ 2 a1 q e1 n1 sR false [y] [] [] [] [] [] []]) (xs++[I 2 n1 sR false [e] [] [] [] [] [] []]) (fun y s=>F y (C0 _ s)) k (by simp only [G0] at H ⊢;omega) (G.snoc L);refine M3 (M6 d c O V W hl x rfl) (L3 ?_);refine K.mono fun r ⟨ys,g1,g2⟩=>⟨ys,by rw [C1] at g1;exact g1,?_⟩;rw [g2,show i+(lW uI (I 2 n1 sR false [e] [] [] [] [] [] []::j::f)).length=i+1+(2+(wE 4 e).length)+1+(lW uI (j::f)).length from by show i+(uI _++((3,[44])::lW uI (j::f))).length=_;rw [A7,p,A0];omega]
def aG0 (nm:G1)(m0 m1 e d c O V W:Int)(g:0≤d)(a:d≤32):∀ (zs:List D) (z:D),Oc l nm m0 m1 e d c O V W zs z:=by
 intro zs
 induction zs with
 |nil=>exact fun z=>Sg hl nm m0 m1 e d c O V W g a [] z fun _ _ h=>(by cases h)
 |cons f b ih=>exact fun z=>Sg hl nm m0 m1 e d c O V W g a (f::b) z fun j i h=>(by cases h;exact ih f)
def Od (l:List D)(nm:G1)(m0 m1 a d c O V W:Int)(ps:List D)(zs:List D)(z:D):Prop:=∀ (i:Nat) (acc xs:List D),(∀ y∈z::zs,xN oN y)→K6 l i (lW mN (z::zs)++[(3,[41])])→(z::zs).length+acc.length≤100→Rl (OI 8) xs acc→
  U (fun n=>O6 n true l (i:Int) d c O V W 0 acc [] 0 0 0 nm m0 m1 a [] [] [] ps []) fun r=>∃ ys,Rl (OI 8) (xs++z::zs) ys∧r=(false,[.Z 5 l,iD ((i+(lW mN (z::zs)).length:Nat):Int),iD d,iD c,iD O,iD V,iD W,iD 0,.str [],iD 0,iD 0,iD 0,.str nm,iD m0,iD m1,iD a,.Z 14 [],.Z 14 [],.Z 14 [],.Z 14 ps,.Z 14 ys,.Z 14 []])
def Jc (nm:G1)(m0 m1 F d c O V W:Int)(ps:List D)(T:0≤d)(A:d≤32)(zs:List D)(z:D)(X:∀ g e,zs=g::e→Od l nm m0 m1 F d c O V W ps e g):Od l nm m0 m1 F d c O V W ps zs z:=by
 intro i acc xs L M P N;have x:=L z (B8 ..);have k:∃ rest,lW mN (z::zs)++[(3,[41])]=mN z++rest∧rest=(match zs with|[]=>[(3,[41])]|g::e=>(3,[44])::(lW mN (g::e)++[(3,[41])])):=by
  cases zs with
  |nil=>exact⟨_,rfl,rfl⟩
  |cons g e=>exact⟨_,by show (mN _++((3,[44])::lW mN (g::e)))++[(3,[41])]=_;rw [C1];rfl,rfl⟩
 obtain⟨rest,h0,f⟩:=k;rw [h0] at M;obtain⟨hE,m⟩:=L6.1 M;have B:∃ t a b E,l[i+(mN z).length]? = some (tk 3 t a b E)∧cl t=true:=by
  subst f
  cases zs with
  |nil=>obtain⟨a,b,E,h⟩:=K1 m;exact⟨_,_,_,_,h,rfl⟩
  |cons g e=>obtain⟨a,b,E,h⟩:=K1 m;exact⟨_,_,_,_,h,rfl⟩
 obtain⟨t7,a7,b7,e7,g7,gc⟩:=B;refine (J5 (H6 (Xa hl x hE g7 gc d c O V W T A) ?_));rintro _ ds ⟨y,w,h0⟩;cases h0;have Q:=w;obtain⟨H,J,I,G,q,o,p,es,fs,bs,its,els,S,R,u,s,v,j,els',ps',qs',_,rfl,_⟩:=w;refine⟨rfl,J5 (I4 (B2 (by simp only [L9,A0] at P ⊢;omega)) ?_)⟩
 cases zs with
 |nil=>subst f;obtain⟨a5,b5,e5,C⟩:=K1 m;refine M3 (I7 d c O V W C rfl) (J5 (H8 ⟨_,N.snoc Q,?_⟩));rfl
 |cons g e=>subst f;obtain⟨a5,b5,e5,C⟩:=K1 m;have m:=M0 m;have K:=X g e rfl (i+(mN z).length+1) (acc++[AJ H J I G q o p u s v j els' ps' qs']) (xs++[z]) (fun y w=>L y (C0 _ w)) m (by simp only [G0] at P ⊢;omega) (N.snoc Q);refine M3 (M6 d c O V W hl C rfl) ?_;refine L3 (I5 (fun n=>bI n ..) (J5 (I4 (E6 (by show ((acc++[AJ H J I G q o p u s v j els' ps' qs']).length:Int)>0;rw [A7,C9];omega)) ?_)));refine K.mono fun r ⟨ys,g1,g2⟩=>⟨ys,by rw [C1] at g1;exact g1,?_⟩;rw [g2,show i+(lW mN (z::g::e)).length=i+(mN z).length+1+(lW mN (g::e)).length from by show i+(mN _++((3,[44])::lW mN (g::e))).length=_;rw [A7,A0];omega]
def Xb (nm:G1)(m0 m1 e d c O V W:Int)(ps:List D)(g:0≤d)(a:d≤32):∀ (zs:List D) (z:D),Od l nm m0 m1 e d c O V W ps zs z:=by
 intro zs
 induction zs with
 |nil=>exact fun z=>Jc hl nm m0 m1 e d c O V W ps g a [] z fun _ _ h=>(by cases h)
 |cons f b ih=>exact fun z=>Jc hl nm m0 m1 e d c O V W ps g a (f::b) z fun j i h=>(by cases h;exact ih f)
theorem aG2 {z:D}{zs:List D}(j:xN oN z){i:Nat}(d:K6 l i (lW mN (z::zs)++[(3,[41])])):∃ k t a b e,l[i]? = some (tk k t a b e)∧(t==[41]&&k !=2)=false:=by
 obtain⟨nm,ty,q,f,sg,es,fs,rfl,g1,hm,_⟩:=nN j;have c:K6 l i (mN (I 1 nm ty sg es fs [] [] [] [] [])):=by
  cases zs with
  |nil=>exact (L6.1 d).1
  |cons m g=>exact (L6.1 (L6.1 d).1).1
 have c:K6 l i ((bif ty==dC then [(1,oW),(1,mQ)] else [(1,ty)])++nR nm ty sg es fs):=c;simp only [oN,B7,C7,List.not_mem_nil,or_false] at hm;rcases hm with ⟨rfl,_⟩|⟨rfl,_⟩|⟨rfl,_⟩
 ·obtain⟨a,b,e,h⟩:=K1 (show K6 l i ((1,RU)::_) from c);exact⟨_,_,_,_,_,h,rfl⟩
 ·obtain⟨a,b,e,h⟩:=K1 (show K6 l i ((1,oW)::_) from c);exact⟨_,_,_,_,_,h,rfl⟩
 ·obtain⟨a,b,e,h⟩:=K1 (show K6 l i ((1,oW)::_) from c);exact⟨_,_,_,_,_,h,rfl⟩
def Si (nm:G1)(m0 m1 f d c O V W:Int)(ps:List D)(q:0≤d)(m:d≤32){qs:List D}(p:qs.length≤10)(o:∀ y∈qs,xN oN y){i:Nat}(j:K6 l i (lW mN qs++[(3,[41])])) :U (fun n=>T6 n (.Z 5 l) (i:Int) d c O V W (0:Int) (.str []) (0:Int) (0:Int) (0:Int) (.str nm) m0 m1 f (.Z 14 []) (.Z 14 []) (.Z 14 []) (.Z 14 ps) (.Z 14 []) (.Z 14 [])) fun r=>∃ ys,Rl (OI 8) qs ys∧r=(false,[.Z 5 l,iD ((i+(lW mN qs).length:Nat):Int),iD d,iD c,iD O,iD V,iD W,iD 0,.str [],iD 0,iD 0,iD 0,.str nm,iD m0,iD m1,iD f,.Z 14 [],.Z 14 [],.Z 14 [],.Z 14 ps,.Z 14 ys,.Z 14 []]):=by
 cases qs with
 |nil=>obtain⟨a,b,e,h⟩:=K1 (show K6 l i [(3,[41])] from j);refine I5 (fun n=>bI n ..) (J5 (L3 (M3 (bG d c O V W [41] h) ?_)));exact (L3 (H8 ⟨[],Rl.nil,rfl⟩))
 |cons z zs=>obtain⟨k,t,a,b,e,h,g⟩:=aG2 hl (o z (B8 ..)) j;have K:=Xb hl nm m0 m1 f d c O V W ps q m zs z i [] [] o j (by simp only [A0,A8] at p ⊢;omega) Rl.nil;refine I5 (fun n=>bI n ..) (J5 (L3 (H6 (bG d c O V W [41] h) ?_)));intro _ ds h0;rw [g] at h0;cases h0;exact⟨rfl,J5 K⟩
def qM (x:D):Nat:=sQ (qI 4) (x.at_ 3).l
def Lw {nm:G1}(B:qL nm=true){x:D}(h:Zh nm x){i:Nat}(f:K6 l i (wM x))(c O V W:Int)(I:0≤c)(m:c+qM x≤4000) :U (fun n=>Q9 n (.Z 5 l) (i:Int) (0:Int) c O V W (0:Int)) fun r=>∃ y,OM x y∧r=(true,[y,.Z 5 l,iD ((i+(wM x).length:Nat):Int),iD 0,iD (c+(qM x:Int)),iD O,iD V,iD W,iD 0]):=by
 obtain⟨ps,qs,its,rfl,E,l2,l3,N,L,P⟩:=h;have g:nm.length≤200:=by simp only [qL,A9,decide_eq_true_eq] at B;omega
 have eQ:qM (M nm ps qs its)=sQ (qI 4) its:=rfl;rw [eQ] at m ⊢;have f:K6 l i ((1,yU)::(1,nm)::((bif ps.isEmpty then [] else [(3,[35]),(3,[40])]++(lW uI ps++[(3,[41])]))++([(3,[40])]++(lW mN qs++([(3,[41]),(3,[59])]++(its.flatMap (wI 4)++[(1,rV)])))))):=f;have eL:(wM (M nm ps qs its)).length=2+((bif ps.isEmpty then [] else [(3,[35]),(3,[40])]++(lW uI ps++[(3,[41])]):List Tk).length+(1+((lW mN qs).length+(2+((its.flatMap (wI 4)).length+1))))):=by show ([(1,yU),(1,nm)]++((bif ps.isEmpty then [] else [(3,[35]),(3,[40])]++(lW uI ps++[(3,[41])]))++([(3,[40])]++(lW mN qs++([(3,[41]),(3,[59])]++(its.flatMap (wI 4)++[(1,rV)]))))):List Tk).length=_;simp only [G0]
 rw [eL];obtain⟨a1,t,e1,h1⟩:=K1 f;obtain⟨a2,b2,e2,h2⟩:=K1 (M0 f);obtain⟨A,q⟩:=L6.1 (M0 (M0 f));generalize e:(bif ps.isEmpty then [] else [(3,[35]),(3,[40])]++(lW uI ps++[(3,[41])]):List Tk)=v at A q ⊢;have q:=fM q;obtain⟨a3,b3,e3,u⟩:=K1 q;obtain⟨R,o⟩:=L6.1 (M0 q);have o:K6 l (i+1+1+v.length+1+(lW mN qs).length) ((3,[41])::(3,[59])::(its.flatMap (wI 4)++[(1,rV)])):=o;obtain⟨a4,b4,e4,C⟩:=K1 o;obtain⟨a5,b5,e5,h5⟩:=K1 (M0 o);have Q:=M0 (M0 o);have p:K6 l (i+1+1+v.length+1) (lW mN qs++[(3,[41])]):=L6.2 ⟨R,⟨_,_,_,C⟩,trivial⟩;have F:CG l (i+1+1+v.length+1+(lW mN qs).length) [[41],[59]]:=by
  intro j H;have:j=0∨j=1:=by simp at H;omega
  rcases this with rfl|rfl
  ·exact⟨3,_,_,_,C,rfl⟩
  ·exact⟨3,_,_,_,h5,rfl⟩
 have J:∀ ps',Rl (OI 8) ps ps'→U (fun n=>cQ n l ((i+1+1+v.length:Nat):Int) 0 c O V W 0 [] 0 0 0 [] [] [] nm a1 t e1 ps' [] []) fun r=>∃ y,OM (M nm ps qs its) y∧r=(true,[y,.Z 5 l,iD ((i+(2+(v.length+(1+((lW mN qs).length+(2+((its.flatMap (wI 4)).length+1)))))):Nat):Int),iD 0,iD (c+(sQ (qI 4) its:Int)),iD O,iD V,iD W,iD 0]):=by intro ps' b;refine (M3 (M8 0 c O V W hl [[40]] (by decide) (S7 u rfl)) (L4 (Si hl nm a1 t e1 0 c O V W ps' (by omega) (by omega) (by omega) L p) (fun ds h=>by obtain⟨_,_,h⟩:=h;cases h) fun ds h=>?_));obtain⟨qs',w,h⟩:=h;cases h;refine J5 (M3 (M8 0 c O V W hl [[41],[59]] (by decide) F) ?_);refine H6 (Bb hl (aV5 hl 4) (.inr rfl) (by omega) P Q 0 c O V W (by omega) (by show (0:Int)+((19:Nat):Int)≤40;omega) I m) ?_;rintro _ ds ⟨a,k,h0⟩;cases h0;refine⟨rfl,J5 (H8 ⟨AM nm a1 t e1 ps' qs' a,⟨nm,a1,t,e1,ps,qs,its,ps',qs',a,rfl,rfl,g,by omega,by omega,by omega,b,w,k⟩,?_⟩)⟩;rw [show i+(2+(v.length+(1+((lW mN qs).length+(2+((its.flatMap (wI 4)).length+1))))))=i+1+1+v.length+1+(lW mN qs).length+1+1+((its.flatMap (wI 4)).length+1) from by omega];rfl
 refine I5 (fun n=>qG n l i 0 c O V W 0) (M3 (O3 0 c O V W h1) (M3 (M8 0 c O V W hl [yU] (by simp) (S7 h1 rfl)) (M3 (fJ 0 c O V W hl h2 B) ?_)))
 cases ps with
 |nil=>subst e;have u:l[i+1+1]? = _:=u;refine M3 (I7 0 c O V W u rfl) ?_;exact L3 (J [] Rl.nil)
 |cons z zs=>
  have e:[(3,[35]),(3,[40])]++(lW uI (z::zs)++[(3,[41])])=v:=e;have d:K6 l (i+1+1) ((3,[35])::(3,[40])::(lW uI (z::zs)++[(3,[41])])):=by rw [← e] at A;exact A
  have G:v.length=2+((lW uI (z::zs)).length+1):=by rw [← e];simp only [G0]
  obtain⟨a6,b6,e6,X⟩:=K1 d;obtain⟨a7,b7,e7,T⟩:=K1 (M0 d);have s:=M0 (M0 d);obtain⟨a8,b8,e8,S⟩:=K1 (L6.1 s).2;have K:=aG0 hl nm a1 t e1 0 c O V W (by omega) (by omega) zs z (i+1+1+1+1) [] [] N s (by simp only [A0,A8] at E ⊢;omega) Rl.nil;refine M3 (M6 0 c O V W hl X rfl) (J5 (M3 (M8 0 c O V W hl [[40]] (by decide) (S7 T rfl)) (L4 K (fun ds h=>by obtain⟨_,_,h⟩:=h;cases h) fun ds h=>?_)));obtain⟨ps',b,h⟩:=h;cases h;refine J5 (M3 (M8 0 c O V W hl [[41]] (by decide) (S7 S rfl)) ?_);have J:=J ps' b;rw [show i+1+1+v.length=i+1+1+1+1+(lW uI (z::zs)).length+1 from by omega] at J;exact J
end
end
def aX1 (nm:G1)(acc:List D):Prop:=∀ (r:Nat) (h:r<acc.length),∃ a i j l ps qs its,acc[r]=AM a i j l ps qs its∧(a==nm)=false
def Pn {acc:List D}{nm:G1}(p:acc.length≤1000)(h:aX1 nm acc)(i j k:Int)(ps qs its:List D) :U (fun n=>Z7 n (.Z 7 acc) (.str nm) i j k (.Z 14 ps) (.Z 14 qs) (.Z 14 its)) fun r=>r=(true,[.bool false,.Z 7 acc,.str nm,iD i,iD j,iD k,.Z 14 ps,.Z 14 qs,.Z 14 its]):=by
 have L:∀ (m r:Nat),acc.length-r=m→r≤acc.length→U (fun n=>T9 n (acc.length:Int) (r:Int) (.Z 7 acc) (.str nm) i j k (.Z 14 ps) (.Z 14 qs) (.Z 14 its)) fun q=>q=(false,[iD (acc.length:Int),iD (acc.length:Int),.Z 7 acc,.str nm,iD i,iD j,iD k,.Z 14 ps,.Z 14 qs,.Z 14 its]):=by
  intro m
  induction m with
  |zero=>(intro r hm o;have:r=acc.length:=by omega);subst this;exact I5 (fun n=>lC n ..) (N8 aY0 (H8 rfl))
  |succ m ih=>(intro r hm o;have a:r<acc.length:=by omega);obtain⟨c,l,g,f,ps',qs',b,e,d⟩:=h r a;refine I5 (fun n=>lC n ..) (I4 aX8 (I4 (P1 a) ?_));rw [bS a,e];refine J5 (M3 (I5 (fun n=>KD n c l g f ps' qs' b nm i j k ps qs its) (H8 rfl)) (N8 d ?_));rw [P4];exact ih (r+1) (by omega) (by omega)
 have I:U (fun n=>Z9 n (.Z 7 acc) (.str nm) i j k (.Z 14 ps) (.Z 14 qs) (.Z 14 its)) fun r=>r=(true,[iD (-1),.Z 7 acc,.str nm,iD i,iD j,iD k,.Z 14 ps,.Z 14 qs,.Z 14 its]):=by refine I5 (fun n=>uJ n acc nm i j k ps qs its) (L4 (L acc.length 0 (by omega) (by omega)) (fun ds h=>by cases h) fun ds h=>?_);cases h;exact J5 (H8 rfl)
 refine I5 (fun n=>sK n acc nm i j k ps qs its) (M3 I (H8 rfl))
def aW7 (nms:List G1)(ms:List D):Prop:=nms.length=ms.length∧(∀ (k:Nat) (h:k<ms.length) (h':k<nms.length),Zh nms[k] ms[k]∧qL nms[k]=true)∧∀ (j k:Nat) (b:j<nms.length) (a:k<nms.length),j<k→(nms[j]==nms[k])=false
def aO4 {nms:List G1}{ms:List D}(h:aW7 nms ms):sQ qM ms≤(ms.flatMap wM).length:=by refine LY fun x a=>?_;obtain⟨k,b,rfl⟩:=List.getElem_of_mem a;obtain⟨⟨ps,qs,its,e,_,_,_,_,_,c⟩,_⟩:=h.2.1 k b (by rw [h.1];exact b);rw [e];have h1:sQ (qI 4) its≤(its.flatMap (wI 4)).length:=LY fun x a=>Yw 4 x (c x a);show sQ (qI 4) its≤(mW _ ps qs its).length;unfold mW;simp only [A7];omega
section
section
variable {L l:List D} {m:Int} (C:Cx L l m)
include C
def Es (t:U (fun n=>Q9 n (.Z 5 L) (0:Int) (0:Int) (0:Int) (0:Int) (0:Int) (0:Int) (0:Int)) fun r=>∃ (y:D) (d c:Int),r=(true,[y,.Z 5 L,iD (L.length:Int),iD d,iD c,iD 0,iD 0,iD 0,iD 0])) :U (fun n=>Q9 n (.Z 5 l) (0:Int) (0:Int) (0:Int) (0:Int) (0:Int) (0:Int) (0:Int)) fun r=>∃ (y:D) (d c:Int),aU8 y∧r=(true,[y,.Z 5 l,iD m,iD d,iD c,iD ((K3 l).at_ 2).i,iD ((K3 l).at_ 3).i,iD ((K3 l).at_ 4).i,iD 6]):=by
 have hm:=C.hm;have h1:=C.h1;obtain⟨x,⟨y,d,c,h⟩,N,s⟩:=t;subst h;refine ((Ta C (n:=N) 0 0 0 0 0 0 0).1 (by omega) _ (s N (B9 _)) rfl).mono ?_;rintro A (⟨f,⟨g,⟨j,k,o,c',e,b,a,p,rfl,B⟩,rfl⟩,e1,_⟩|⟨f,⟨g,⟨j,k,o,c',e,b,a,p,rfl,v,u,q⟩,rfl⟩,w⟩)
 ·have e1:[y,.Z 5 L,iD (L.length:Int),iD d,iD c,iD 0,iD 0,iD 0,iD 0]=[j,.Z 5 L,iD k,iD o,iD c',iD e,iD b,iD a,iD p]:=congrArg Prod.snd e1;have E:(L.length:Int)=k:=congrArg (fun z=>(Y z 2).i) e1;omega
 ·obtain⟨rfl,h|⟨rfl,rfl,rfl,rfl⟩⟩:=u
  ·exact absurd h q
  ·exact⟨j,o,c',v,w⟩
def Lb (f:U (fun n=>Q9 n (.Z 5 L) (0:Int) (0:Int) (0:Int) (0:Int) (0:Int) (0:Int) (0:Int)) fun r=>∃ (y:D) (d c:Int),r=(true,[y,.Z 5 L,iD (L.length:Int),iD d,iD c,iD 0,iD 0,iD 0,iD 0])) :U (fun n=>jV n (.Z 5 l)) fun r=>r=(true,[.agg [iD ((K3 l).at_ 2).i,iD ((K3 l).at_ 3).i,iD ((K3 l).at_ 4).i],iD 6,.Z 7 []]):=by
 have e:=C.len;have h1:=C.h1;refine I5 (fun n=>BV n l) (L4 (Q:=fun r=>∃ (i d c:Int) (xs:List D),r=(false,[iD 0,iD 0,iD 0,.Z 5 l,iD i,iD d,iD c,iD ((K3 l).at_ 2).i,iD ((K3 l).at_ 3).i,iD ((K3 l).at_ 4).i,iD 6,.Z 7 xs])) ?_ (fun ds h=>by obtain⟨_,_,_,_,h⟩:=h;cases h) fun ds h=>?_)
 ·refine I5 (fun n=>qE n ..) (J5 (I4 aX8 (L3 (H6 (Es C f) ?_))));rintro _ ds ⟨y,d,c,⟨t,a,b,g,ps,qs,its,rfl⟩,h0⟩;cases h0;exact⟨rfl,J5 (M3 (Pn (acc:=[]) (nm:=t) (by decide) (fun r h=>absurd h (by simp)) a b g ps qs its) (L3 (J5 (I5 (fun n=>qE n ..) (L3 (L3 (H8 ⟨_,_,_,_,rfl⟩)))))))⟩
 ·obtain⟨i,d,c,xs,h⟩:=h;cases h;exact J5 (J5 (H8 rfl))
end
def Fp:U (fun n=>jV n (.Z 5 [])) fun r=>r=(true,[.agg [iD 0,iD 0,iD 0],iD 0,.Z 7 []]):=by
 refine I5 (fun n=>BV n []) (L4 (Q:=fun r=>r=(false,[iD 0,iD 0,iD 0,.Z 5 [],iD 0,iD 0,iD 0,iD 0,iD 0,iD 0,iD 0,.Z 7 []])) ?_ (fun ds h=>by cases h) fun ds h=>?_)
 ·exact I5 (fun n=>qE n ..) (J5 (L3 (H8 rfl)))
 ·cases h;exact J5 (L3 (H8 rfl))
end
section
def Ds {b:List D}{a0:Int}(hm:Mk b a0):U (fun n=>fG n (.Z 1 b) a0) fun r=>∃ x f,r=(true,[x,.Z 1 b,iD f])∧isLeft x∧Mk b f∧a0≤f∧((wE 4 x).length:Int)≤13*(f-a0)+1:=by
 refine I5 (fun n=>SX n ..) ?_;(refine H6 (aY1 (by assumption)) ?_;rintro _ _ ⟨v,a,h,j,p,hm,B,A⟩;cases h;(try simp only [Y,D.i] at B A);refine⟨rfl,?_⟩);refine J5 (I4 (L0 (E6 j) (E6 p)) ?_);have F:v=0∨v=1∨v=2:=by omega
 have fin:∀ (k:Int),(v=0∧k=2∨v=1∧k=8∨v=2∧k=9)→U (fun n=>AE.J3 (W2 n (.Z 1 b) a) fun o=>bif Q5 W2.I6 o then (AE.J3 (J7 n (2:Int) v (.Z 1 (Y o 1).l) (.int .i64 (Y o 2).i)) fun m=>bif Q5 J7.I6 m then (some (true,[(.agg [k,(0:Int),(0:Int),(0:Int),(.str (Y o 0).s),(.Z 6 (Y m 2).l)]),(.Z 1 (Y m 0).l),(.int .i64 (Y m 1).i)])) else none) else none) fun r=>∃ x f,r=(true,[x,.Z 1 b,iD f])∧isLeft x∧Mk b f∧a0≤f∧((wE 4 x).length:Int)≤13*(f-a0)+1:=by
  intro k C;refine H6 (kV hm) ?_;rintro _ _ ⟨s,a,h,q,hm,z⟩;cases h;(try simp only [Y,D.i] at z);refine⟨rfl,?_⟩;refine J5 (H6 (dM 1 (by decide) (c:=v) j (by omega) hm) ?_);rintro _ _ ⟨xs,a,h,hl,g,hm,y,u⟩;cases h;(try simp only [Y,D.i] at y u);refine⟨rfl,?_⟩;refine J5 (H8 ⟨E k s xs,a,rfl,⟨k,s,xs,rfl,q,?_,g⟩,hm,by omega,?_⟩);rcases C with ⟨e1,e⟩|⟨e1,e⟩|⟨e1,e⟩
  ·exact .inl ⟨e,by rw [hl,e1];rfl⟩
  ·exact .inr (.inl ⟨e,by rw [hl,e1];rfl⟩)
  ·exact .inr (.inr ⟨e,by rw [hl,e1];rfl⟩)
  ·rcases C with ⟨e1,e⟩|⟨e1,e⟩|⟨e1,e⟩
   ·subst e;have:xs=[]:=E5.1 (by omega);subst this;rw [uE (.inr rfl)];omega
   ·subst e;have:=SJ (w:=wE 3) (k:=8) (t:=s) (ar:=xs) (by decide) (.inr (.inr (.inr (.inr (.inr (.inr (.inr (.inl ⟨rfl,q,by omega⟩))))))));rw [IM,← NK (w:=wE 4) (v:=wE 3) fun x h=>(RO (by decide) (g x h)).trans (RO (by decide) (g x h)).symm] at *;omega
   ·subst e;have:=SJ (w:=wE 3) (k:=9) (t:=s) (ar:=xs) (by decide) (.inr (.inr (.inr (.inr (.inr (.inr (.inr (.inr (.inl ⟨rfl,q,by omega⟩)))))))));rw [IM,← NK (w:=wE 4) (v:=wE 3) fun x h=>(RO (by decide) (g x h)).trans (RO (by decide) (g x h)).symm] at *;omega
 rcases F with rfl|rfl|rfl
 ·exact J5 (fin 2 (.inl ⟨rfl,rfl⟩))
 ·exact J5 (fin 8 (.inr (.inl ⟨rfl,rfl⟩)))
 ·exact J5 (fin 9 (.inr (.inr ⟨rfl,rfl⟩)))
def aQ2 {n:Nat}{t:G1}{es bs zs:List D}:(wS (n+1) (S 1 t es bs zs)).length=sL (wS n) bs+2:=by show ([(1,aM)]++(bs.flatMap (wS n)++[(1,iU)]):List Tk).length=_;simp only [G0,yA];omega
def aQ3 {n:Nat}{k:Int}{t:G1}{l e:D}{bs zs:List D}(c:k=2∨k=3):(wS (n+1) (S k t [l,e] bs zs)).length=(wE 4 l).length+(wE 4 e).length+2:=by
 rcases c with rfl|rfl
 ·show (wE 4 l++([(3,[61])]++(wE 4 e++[(3,[59])])):List Tk).length=_;simp only [G0];omega
 ·show (wE 4 l++([(3,[60,61])]++(wE 4 e++[(3,[59])])):List Tk).length=_;simp only [G0];omega
def aQ4 {n:Nat}{t:G1}{es zs:List D}{b c:D}(hl:es.length=1):(wS (n+1) (S 4 t es [b,c] zs)).length≤sL (wE 4) es+(wS n b).length+(bif (c.at_ 0).i==8 then 0 else 1+(wS n c).length)+3:=by
 match es,hl with
 |[e],_=>show ([(1,zD)]++(pW e++(wS n b++(bif (c.at_ 0).i==8 then [] else [(1,iM)]++wS n c))):List Tk).length≤_;cases (c.at_ 0).i==8<;>simp only [cond_true,cond_false,sL,pW,G0]<;>omega
def Zd {n:Nat}{t:G1}{es bs zs:List D}(hl:es.length=1):(wS (n+1) (S 5 t es bs zs)).length=sL (wE 4) es+sL (lE (wS n)) zs+4:=by
 match es,hl with
 |[e],_=>show ([(1,sV)]++(pW e++(zs.flatMap (lE (wS n))++[(1,gS)])):List Tk).length=_;simp only [sL,pW,yA,G0];omega
def Io {t:G1}{es:List D}(hl:es.length=3):(dX t es).length=sL (wE 4) es+9:=by
 match es,hl with
 |[a,b,c],_=>show ([(1,yZ),(3,[40]),(1,t),(3,[61])]++(wE 4 a++([(3,[59])]++(wE 4 b++([(3,[59]),(1,t),(3,[61])]++(wE 4 c++[(3,[41])]))))):List Tk).length=_;simp only [sL,G0];omega
def aQ5 {n:Nat}{t:G1}{es zs:List D}{b:D}(hl:es.length=3):(wS (n+1) (S 6 t es [b] zs)).length=sL (wE 4) es+(wS n b).length+9:=by show (dX t es++wS n b).length=_;rw [A7,Io hl];omega
def aQ6 {n:Nat}{t:G1}{es bs zs:List D}(hl:es.length=1):(wS (n+1) (S 7 t es bs zs)).length=sL (wE 4) es+(bif t.isEmpty then 0 else 2)+4:=by
 match es,hl with
 |[e],_=>show ((bif t.isEmpty then [] else [(1,t),(3,[58])])++([(1,rR)]++(pW e++[(3,[59])])):List Tk).length=_;cases t.isEmpty<;>simp only [cond_true,cond_false,sL,pW,G0]<;>omega
def Ok {w:D→List Tk}{es:List D}{k:Int}{t:G1}{fs bs zs:List D}:(lE w (arm es (S k t fs bs zs))).length=(bif es.isEmpty then 1 else 0)+(lW (wE 4) es).length+1+(w (S k t fs bs zs)).length:=by show ((bif es.isEmpty then [(1,AQ)] else [])++(lW (wE 4) es++([(3,[58])]++w (S k t fs bs zs))):List Tk).length=_;cases es.isEmpty<;>simp only [cond_true,cond_false,G0]<;>omega
section
variable {d:Nat} {deep:Int} {b:List D} {a a0 v:Int}
def Kf (d:Nat)(deep:Int):Prop:=∀ b a,Mk b a→U (fun n=>O4 n (i64.wrap (deep-1):Int) (.Z 1 b) a) (fun r=>∃ x c,r=(true,[x,.Z 1 b,iD c])∧uN (d) x∧Mk b c∧a≤c∧((wS (d) x).length:Int)≤13*(c-a)+4)
def Nc (z:Kf d deep):∀ (c:Nat) (bs:List D) (a:Int),c≤3→bs.length+c≤3→(∀ x∈bs,uN d x)→Mk b a→U (fun n=>cF n deep (c:Int) (.Z 1 b) a (0:Int) (.str []) (1:Int) (.str []) (.Z 6 []) (.Z 5 []) (.Z 6 []) (.Z 6 []) (.Z 5 bs) (.Z 6 [])) fun r=>∃ (q:Int) (e:List D) (f:Int),r=(false,[iD deep,iD q,.Z 1 b,iD f,iD 0,.str [],iD 1,.str [],.Z 6 [],.Z 5 [],.Z 6 [],.Z 6 [],.Z 5 e,.Z 6 []])∧e.length≤3∧(∀ x∈e,uN d x)∧Mk b f∧a≤f∧(sL (wS d) e:Int)≤sL (wS d) bs+13*(f-a)+4*c:=by
 intro c
 induction c with
 |zero=>intro bs a w hl l hm;exact I5 (fun n=>sH n ..) (L3 (H8 ⟨_,bs,a,rfl,by omega,l,hm,by omega,by omega⟩))
 |succ c ih=>
  intro bs a w hl l hm;have o:i64.wrap (((c+1:Nat):Int)-1)=(c:Int):=by rw [Q3];omega
  refine I5 (fun n=>sH n ..) (I4 aX8 (H6 (z b a hm) ?_));rintro _ _ ⟨x,f,h,j,hm,u,s⟩;cases h;have i:=j
  cases d with
  |zero=>exact j.elim
  |succ d=>
   obtain⟨k,t,es,e,zs,rfl,_⟩:=j;rw [o];refine⟨rfl,J5 (I4 (B2 (by simp only [L9];omega)) ((ih (bs++[S k t es e zs]) f (by omega) (by simp;omega) (fun y g=>?_) hm).mono fun r p=>?_))⟩
   ·rcases D3.1 g with g|g
    ·exact l y g
    ·rw [C3.1 g];exact i
   obtain⟨q,m,a2,g1,g2,C,B,E,A⟩:=p;rw [qJ] at A;exact⟨q,m,a2,g1,g2,C,B,by omega,by omega⟩
def Ue (R:Kf d deep)(es:List D):∀ (c:Nat) (zs:List D) (a:Int),c≤3→zs.length+c≤3→(∀ x∈zs,aI6 d x)→Mk b a→U (fun n=>cG n deep (c:Int) (.Z 1 b) a (0:Int) (.str []) (5:Int) (.str []) (.Z 6 []) (.Z 5 []) (.Z 6 []) (.Z 6 es) (.Z 5 []) (.Z 6 zs)) fun r=>∃ (q:Int) (f:List D) (g:Int),r=(false,[iD deep,iD q,.Z 1 b,iD g,iD 0,.str [],iD 5,.str [],.Z 6 [],.Z 5 [],.Z 6 [],.Z 6 es,.Z 5 [],.Z 6 f])∧f.length=zs.length+c∧(∀ x∈f,aI6 d x)∧Mk b g∧a≤g∧(sL (lE (wS d)) f:Int)≤sL (lE (wS d)) zs+13*(g-a)+6*c:=by
 intro c
 induction c with
 |zero=>intro zs a Q hl B hm;exact I5 (fun n=>sI n ..) (L3 (H8 ⟨_,zs,a,rfl,rfl,B,hm,by omega,by omega⟩))
 |succ c ih=>
  intro zs a Q hl B hm;have J:i64.wrap (((c+1:Nat):Int)-1)=(c:Int):=by rw [Q3];omega
  refine I5 (fun n=>sI n ..) (I4 aX8 ?_);rw [J];(refine H6 (aY1 (by assumption)) ?_;rintro _ _ ⟨v,a,h,L,K,hm,z,w⟩;cases h;(try simp only [Y,D.i] at z w);refine⟨rfl,?_⟩);refine J5 ?_;have E:i64.wrap (1+v)=1+v:=Q3;refine H6 (dM 0 (by decide) (c:=i64.wrap (1+v)) (by rw [E];omega) (by rw [E];omega) hm) ?_;rintro _ _ ⟨xs,a,h,m,o,hm,u,l⟩;cases h;(try simp only [Y,D.i] at u l);refine⟨rfl,?_⟩;rw [E] at m l;refine J5 (H6 (R b a hm) ?_);rintro _ _ ⟨x,g,h,s,hm,O,N⟩;cases h;have p:=s
  cases d with
  |zero=>exact s.elim
  |succ d=>
   obtain⟨k,t,C,F,f,rfl,_⟩:=s;refine⟨rfl,J5 (I4 (B2 (by simp only [L9];omega)) ((ih (zs++[arm xs (S k t C F f)]) g (by omega) (by simp;omega) (fun y j=>?_) hm).mono fun r M=>?_))⟩
   ·rcases D3.1 j with j|j
    ·exact B y j
    ·rw [C3.1 j];exact⟨xs,_,rfl,by omega,fun e P=>iL (by decide) (o e P),p⟩
   ·obtain⟨q,G,a2,h1,W,V,T,X,H⟩:=M;have I:=yB (wE 4) xs (by omega);have A:xs.isEmpty=false:=by
     cases xs with
     |nil=>simp at m;omega
     |cons=>rfl
    rw [qJ,Ok,A] at H;simp only [cond_false] at H;exact⟨q,G,a2,h1,by rw [W];simp;omega,V,T,by omega,by omega⟩
def Kg (k:Int)(y:k=2∨k=3)(hm:Mk b a)(F:a0≤a) :U (fun n=>AE.J3 (fG n (.Z 1 b) a) fun g=>bif Q5 fG.I6 g then (AE.J3 (T7 n (3:Int) (.Z 1 (Y g 1).l) (.int .i64 (Y g 2).i)) fun f=>bif Q5 T7.I6 f then
   (some (true,[(.agg [iD k,(.str ([]:G1)),(.Z 6 ([(K4 J0 (Y g 0)),(K4 J0 (Y f 0))]:List D)),(.Z 5 ([]:List D)),(.Z 6 ([]:List D))]),(.Z 1 (Y f 1).l),iD (Y f 2).i])) else none) else none) (fun r=>∃ x j,r=(true,[x,.Z 1 b,iD j])∧uN (d+1) x∧Mk b j∧a0≤j∧((wS (d+1) x).length:Int)≤13*(j-a0)+4):=by
 refine H6 (Ds hm) ?_;rintro _ _ ⟨l,a,h,hl,hm,s,q⟩;cases h;(try simp only [Y,D.i] at s q);have c:=hl;obtain⟨C,t1,w,rfl,_⟩:=hl;refine⟨rfl,J5 (H6 (VP 2 (by decide) hm) ?_)⟩;rintro _ _ ⟨e,a,h,z,hm,p,o⟩;cases h;(try simp only [Y,D.i] at p o);have t:=z;obtain⟨B,A,u,rfl,_⟩:=z;refine⟨rfl,J5 (H8 ⟨S k [] [E C t1 w,E B A u] [] [],a,rfl,⟨k,[],_,[],[],rfl,fun x m=>?_,fun _ h=>(by cases h),fun _ h=>(by cases h),.inr (.inl ⟨y,rfl,⟨_,_,rfl,c⟩,rfl,rfl⟩)⟩,hm,by omega,by rw [aQ3 y];omega⟩)⟩;rcases B7.1 m with rfl|m
 ·exact iL (by decide) (vV c)
 ·rw [C3.1 m];exact iL (by decide) t
def yJ (hS:2≤deep→Kf d deep)(hd:2≤deep→1≤d)(hm:Mk b a){k:Int}(h0:0≤k)(h1:k≤10)(h2:3<k→2≤deep)(ha:a0≤a)(ha1:k=0∨a0+1≤a) :U (fun n=>mP n k [iD v,.Z 1 b,iD a] deep) (fun r=>∃ x g,r=(true,[x,.Z 1 b,iD g])∧uN (d+1) x∧Mk b g∧a0≤g∧((wS (d+1) x).length:Int)≤13*(g-a0)+4):=by
 have P:U (fun n=>W7 n true [iD v,.Z 1 b,iD a] k deep) (fun r=>∃ x g,r=(true,[x,.Z 1 b,iD g])∧uN (d+1) x∧Mk b g∧a0≤g∧((wS (d+1) x).length:Int)≤13*(g-a0)+4):=(J5 (Kg 2 (.inl rfl) hm ha));have F:a0+1≤a→2≤deep→U (fun n=>cH n true [iD v,.Z 1 b,iD a] deep k) (fun r=>∃ x g,r=(true,[x,.Z 1 b,iD g])∧uN (d+1) x∧Mk b g∧a0≤g∧((wS (d+1) x).length:Int)≤13*(g-a0)+4):=by intro hac h;refine (J5 (H6 (aY1 (k:=4) hm) ?_));rintro _ _ ⟨v,a,h,N,j,hm,s,p⟩;cases h;(try simp only [Y,D.i] at s p);obtain⟨c,rfl⟩:∃ c:Nat,v=(c:Int):=⟨v.toNat,by omega⟩;refine⟨rfl,J5 (L4 (Nc (hS (by assumption)) c [] a (by omega) (by simp;omega) (fun _ h=>by cases h) hm) (fun ds h=>by obtain⟨_,_,_,h,_⟩:=h;cases h) fun ds h=>?_)⟩;obtain⟨q,bs,a,h,hl,hb,hm,E,o⟩:=h;cases h;exact J5 (H8 ⟨S 1 [] [] bs [],a,rfl,⟨1,[],[],bs,[],rfl,fun _ h=>(by cases h),hb,fun _ h=>(by cases h),.inl ⟨rfl,rfl,rfl,hl,rfl⟩⟩,hm,by omega,by rw [aQ2];simp only [sL] at o;omega⟩)
 have zD:a0+1≤a→2≤deep→U (fun n=>eV n true [iD v,.Z 1 b,iD a] deep k) (fun r=>∃ x g,r=(true,[x,.Z 1 b,iD g])∧uN (d+1) x∧Mk b g∧a0≤g∧((wS (d+1) x).length:Int)≤13*(g-a0)+4):=by
  intro hac f;have hd1:=hd f;refine (J5 (H6 (dM 1 (by decide) (c:=1) (by decide) (by decide) hm) ?_));rintro _ _ ⟨xs,a,h,hl,Q,hm,s,p⟩;cases h;(try simp only [Y,D.i] at s p);refine⟨rfl,J5 (H6 (hS f b a hm) ?_)⟩;rintro _ _ ⟨s1,a,h,hs1,hm,E,o⟩;cases h;(try simp only [Y,D.i] at E o);have R:=hs1;obtain⟨m,rfl⟩:∃ m,d=m+1:=⟨d-1,by omega⟩;obtain⟨X,t1,G,H,I,rfl,_⟩:=hs1;refine⟨rfl,J5 ?_⟩;have fin:∀ (c:D) (a:Int),(c=vB∨pE (m+1) (S X t1 G H I)=false)→uN (m+1) c→Mk b a→a0≤a→((sL (wE 4) xs+(wS (m+1) (S X t1 G H I)).length+(bif (c.at_ 0).i==8 then 0 else 1+(wS (m+1) c).length)+3:Nat):Int)≤13*(a-a0)+4→∃ x g,(true,[S 4 [] xs [S X t1 G H I,c] [],D.Z 1 b,D.int .i64 a])=(true,[x,.Z 1 b,iD g])∧uN (m+1+1) x∧Mk b g∧a0≤g∧((wS (m+1+1) x).length:Int)≤13*(g-a0)+4:=by
   intro c a hc hw hm hy1 hy2;have hy3:=aQ4 (n:=m+1) (t:=[]) (es:=xs) (zs:=[]) (b:=S X t1 G H I) (c:=c) hl;refine⟨_,a,rfl,⟨4,[],xs,[S X t1 G H I,c],[],rfl,fun e O=>iL (by decide) (Q e O),fun y J=>?_,fun _ h=>(by cases h),.inr (.inr (.inl ⟨rfl,rfl,hl,⟨_,_,rfl,hc⟩,rfl⟩))⟩,hm,hy1,by omega⟩;rcases B7.1 J with rfl|J
   ·exact R
   ·rw [C3.1 J];exact hw
  refine H6 (aY1 (k:=2) hm) ?_;rintro _ _ ⟨v2,a,h,N,j,hm,hq5,W⟩;cases h;(try simp only [Y,D.i] at hq5 W);have nul:∀ w,(bif (vB.at_ 0).i==8 then 0 else 1+w:Nat)=0:=fun _=>rfl;refine⟨rfl,J5 (K0 (fun j=>?_) fun _=>H8 (fin vB a (.inl rfl) (RP m) hm (by omega) (by rw [nul];omega)))⟩;have j:v2=1:=by simpa [Y,D.i] using j
  refine H6 (Wu (m+1) _ R) ?_;intro _ ds h;cases h;refine⟨rfl,J5 (K0 (fun ho=>?_) fun _=>H8 (fin vB a (.inl rfl) (RP m) hm (by omega) (by rw [nul];omega)))⟩;have ho:(!(pE (m+1) (S X t1 G H I)))=true:=ho;refine H6 (hS f b a hm) ?_;rintro _ _ ⟨s2,a,h,C,hm,V,T⟩;cases h;(try simp only [Y,D.i] at V T);have B:=C;obtain⟨M,K,u,z,A,rfl,_⟩:=C;refine⟨rfl,J5 (H8 (fin (S M K u z A) a (.inr (by simpa using ho)) B hm (by omega) ?_))⟩;have hb1:(bif (((S M K u z A).at_ 0).i==8) then 0 else 1+(wS (m+1) (S M K u z A)).length:Nat)≤1+(wS (m+1) (S M K u z A)).length:=by cases ((S M K u z A).at_ 0).i==8<;>simp
  omega
 have hm':=hm;have hk:k=0∨k=1∨k=2∨k=3∨k=4∨k=5∨k=6∨k=7∨k=8∨k=9∨k=10:=by omega
 refine O9 (fun n=>mP.eq_1 n ..) ?_;rcases hk with rfl|rfl|rfl|rfl|rfl|rfl|rfl|rfl|rfl|rfl|rfl
 ·exact J5 P
 ·exact L3 P
 ·exact L3 (L3 (J5 (Kg 3 (.inr rfl) hm ha)))
 ·refine L3 (L3 (L3 (J5 (H6 (aY1 (k:=2) hm) ?_))));rintro _ _ ⟨w,a,h,N,j,hm,s,p⟩;cases h;(try simp only [Y,D.i] at s p);have ha1:a0+1≤a:=by omega
  have fin:∀ t:G1,(t=[]∨t=[112,49])→U (fun n=>AE.J3 (J7 n (3:Int) (1:Int) (.Z 1 b) a) fun r3=>bif Q5 J7.I6 r3 then (some (true,[(.agg [iD 7,(.str t),(.Z 6 (Y r3 2).l),(.Z 5 ([]:List D)),(.Z 6 ([]:List D))]),(.Z 1 (Y r3 0).l),iD (Y r3 1).i])) else none) (fun r=>∃ x g,r=(true,[x,.Z 1 b,iD g])∧uN (d+1) x∧Mk b g∧a0≤g∧((wS (d+1) x).length:Int)≤13*(g-a0)+4):=by (intro t ht;refine H6 (dM 2 (by decide) (c:=1) (by decide) (by decide) hm) ?_;rintro _ _ ⟨xs,a,h,hl,Q,hm,E,o⟩;cases h;(try simp only [Y,D.i] at E o);have hb1:(bif t.isEmpty then 0 else 2:Nat)≤2:=by cases t.isEmpty<;>simp);exact⟨rfl,J5 (H8 ⟨S 7 t xs [] [],a,rfl,⟨7,t,xs,[],[],rfl,fun e O=>iL (by decide) (Q e O),fun _ h=>(by cases h),fun _ h=>(by cases h),.inr (.inr (.inr (.inr (.inr (.inl ⟨rfl,ht,hl,rfl,rfl⟩)))))⟩,hm,by omega,by rw [aQ6 hl];omega⟩)⟩
  have hw:w=0∨w=1:=by omega
  rcases hw with rfl|rfl
  ·exact⟨rfl,J5 (J5 (J5 (fin [] (.inl rfl))))⟩
  ·exact⟨rfl,J5 (J5 (J5 (fin [112,49] (.inr rfl))))⟩
 ·exact L3 (L3 (L3 (L3 (J5 (F (by omega) (h2 (by decide)))))))
 ·exact L3 (L3 (L3 (L3 (L3 (F (by omega) (h2 (by decide)))))))
 ·exact L3 (L3 (L3 (L3 (L3 (L3 (J5 (zD (by omega) (h2 (by decide)))))))))
 ·exact L3 (L3 (L3 (L3 (L3 (L3 (L3 (zD (by omega) (h2 (by decide)))))))))
 ·refine L3 (L3 (L3 (L3 (L3 (L3 (L3 (L3 (J5 ?_))))))));have f:=h2 (by decide);refine H6 (dM 1 (by decide) (c:=1) (by decide) (by decide) hm) ?_;rintro _ _ ⟨xs,a,h,hl,Q,hm,s,p⟩;cases h;(try simp only [Y,D.i] at s p);refine⟨rfl,J5 (H6 (aY1 (k:=3) hm) ?_)⟩;rintro _ _ ⟨w,a,h,N,j,hm,E,o⟩;cases h;(try simp only [Y,D.i] at E o);obtain⟨c,rfl⟩:∃ c:Nat,w=(c:Int):=⟨w.toNat,by omega⟩;have hw:i64.wrap (1+(c:Int))=((c+1:Nat):Int):=by rw [Q3];omega
  have L:=Ue (hS f) (b:=b) xs (c+1) [] a (by omega) (by simp;omega) (fun _ h=>by cases h) hm;rw [← hw] at L;refine⟨rfl,J5 (L4 L (fun ds h=>by obtain⟨_,_,_,h,_⟩:=h;cases h) fun ds h=>?_)⟩;obtain⟨q,zs,a,h,hla,hb,hm,hq5,W⟩:=h;cases h;simp only [sL] at W;refine J5 (H6 (aY1 (k:=2) hm) ?_);rintro _ _ ⟨w,a,h,N,j,hm,V,T⟩;cases h;(try simp only [Y,D.i] at V T);have la:zs.length=c+1:=by rw [hla];simp
  refine⟨rfl,J5 (K0 (fun j=>?_) fun _=>H8 ⟨S 5 [] xs [] zs,a,rfl,⟨5,[],xs,[],zs,rfl,fun e O=>iL (by decide) (Q e O),fun _ h=>(by cases h),hb,.inr (.inr (.inr (.inl ⟨rfl,rfl,hl,rfl,by omega,by omega⟩)))⟩,hm,by omega,by rw [Zd hl];omega⟩)⟩;have j:w=1:=by simpa [Y,D.i] using j
  refine H6 (hS f b a hm) ?_;rintro _ _ ⟨s2,a,h,C,hm,hq9,hq10⟩;cases h;(try simp only [Y,D.i] at hq9 hq10);have B:=C;have hd1:=hd f;obtain⟨m,rfl⟩:∃ m,d=m+1:=⟨d-1,by omega⟩;obtain⟨M,K,u,z,A,rfl,_⟩:=C;refine⟨rfl,J5 (I4 (B2 (by show zs.length+1≤L9;simp only [L9];omega)) (H8 ⟨S 5 [] xs [] (zs++[arm [] (S M K u z A)]),a,rfl,⟨5,[],xs,[],_,rfl,fun e O=>iL (by decide) (Q e O),fun _ h=>(by cases h),fun y J=>?_,.inr (.inr (.inr (.inl ⟨rfl,rfl,hl,rfl,by simp,by simp;omega⟩)))⟩,hm,by omega,?_⟩))⟩
  ·rcases D3.1 J with J|J
   ·exact hb y J
   ·rw [C3.1 J];exact⟨[],_,rfl,by decide,fun _ h=>(by cases h),B⟩
  ·rw [Zd hl,qJ,Ok];show ((_+(_+(1+0+1+_))+4:Nat):Int)≤_;omega
 ·refine L3 (L3 (L3 (L3 (L3 (L3 (L3 (L3 (L3 (J5 ?_)))))))));have f:=h2 (by decide);refine H6 (dM 1 (by decide) (c:=3) (by decide) (by decide) hm) ?_;rintro _ _ ⟨xs,a,h,hl,Q,hm,s,p⟩;cases h;(try simp only [Y,D.i] at s p);refine⟨rfl,J5 (H6 (hS f b a hm) ?_)⟩;rintro _ _ ⟨s2,a,h,C,hm,E,o⟩;cases h;(try simp only [Y,D.i] at E o);have B:=C;have hd1:=hd f;obtain⟨m,rfl⟩:∃ m,d=m+1:=⟨d-1,by omega⟩;obtain⟨M,K,u,z,A,rfl,_⟩:=C;refine⟨rfl,J5 (H8 ⟨S 6 [105] xs [S M K u z A] [],a,rfl,⟨6,[105],xs,_,[],rfl,fun e O=>iL (by decide) (Q e O),fun y J=>?_,fun _ h=>(by cases h),.inr (.inr (.inr (.inr (.inl ⟨rfl,rfl,hl,rfl,rfl⟩))))⟩,hm,by omega,by rw [aQ5 hl];omega⟩)⟩;rw [C3.1 J];exact B
 ·refine L3 (L3 (L3 (L3 (L3 (L3 (L3 (L3 (L3 (L3 ?_)))))))));exact H8 ⟨vB,a,rfl,RP d,hm,ha,by show ((1:Nat):Int)≤_;omega⟩
end
def yH:∀ (d:Nat) (deep:Int),d≤10→-1000≤deep→deep≤(d:Int)+1→∀ b a,Mk b a→U (fun n=>O4 n deep (.Z 1 b) a) fun r=>∃ x g,r=(true,[x,.Z 1 b,iD g])∧uN (d+1) x∧Mk b g∧a≤g∧((wS (d+1) x).length:Int)≤13*(g-a)+4:=by
 intro d
 induction d with
 |zero=>intro deep m h0 h1 b a hm;refine I5 (fun n=>vG n ..) ?_;(refine H6 (aY1 (by assumption)) ?_;rintro _ _ ⟨v,a,h,f,j,hm,e,c⟩;cases h;(try simp only [Y,D.i] at e c);refine⟨rfl,?_⟩);refine J5 (I4 aX8 ?_);have e1:0≤v.tmod 4:=Int.tmod_nonneg 4 f;have o:v.tmod 4<4:=Int.tmod_lt_of_pos v (by decide);exact yJ (fun h=>by omega) (fun h=>by omega) hm e1 (by show v.tmod 4≤10;omega) (fun h=>by have h:3<v.tmod 4:=h;omega) e (by rcases c with rfl|h;exact .inl rfl;exact .inr h)
 |succ d ih=>
  intro deep m h0 h1 b a hm;have l:2≤deep→Kf (d+1) deep:=by intro h b a hm;rw [Q3];exact ih (deep-1) (by omega) (by omega) (by omega) b a hm
  refine I5 (fun n=>vG n deep b a) ?_;(refine H6 (aY1 (by assumption)) ?_;rintro _ _ ⟨v,a,h,f,j,hm,e,c⟩;cases h;(try simp only [Y,D.i] at e c);refine⟨rfl,?_⟩);refine J5 (K0 (fun _=>?_) fun k=>?_)
  ·have e1:0≤v.tmod 4:=Int.tmod_nonneg 4 f;have o:v.tmod 4<4:=Int.tmod_lt_of_pos v (by decide);exact yJ l (fun _=>by omega) hm e1 (by show v.tmod 4≤10;omega) (fun h=>by have h:3<v.tmod 4:=h;omega) e (by rcases c with rfl|h;exact .inl rfl;exact .inr h)
  ·have k:=E9 k;exact yJ l (fun _=>by omega) hm f (by show v≤10;omega) (fun _=>by omega) e c
end
end Go.Proofs.YtalibicpmfbieaaGreatDoor
