import Derived.Test.YtalibicpmfbieaaGreatDoorM6
import Derived.Test.YtalibicpmfbieaaGreatDoorM4
import Derived.Test.YtalibicpmfbieaaGreatDoorM1
namespace Go.Proofs.YtalibicpmfbieaaGreatDoor
open Go.AE
open IntKind (i64 u64)
set_option linter.all false
section
def WE {es:List D}(h:es.length=0∨es.length=2):(qV es).length≤sL (wE 4) es+(bif es.isEmpty then 0 else 3):=by
 match es,h with
 |[],_=>exact C4 _
 |[x,y],_=>show ([(3,[91])]++(wE 4 x++([(3,[58])]++(wE 4 y++[(3,[93])]))):List Tk).length≤_;simp only [sL,List.isEmpty_cons,cond_false,G0];omega
def Uk (ty:G1):Nat:=bif ty==dC then 2 else 1
def aD8 {nm ty:G1}{sg:Bool}{es fs:List D}(h:es.length=0∨es.length=2∨es.length=4)(c:fs.length≤1):(nW nm ty sg es fs).length≤Uk ty+(bif sg&&!(ty==kP) then 1 else 0)+1+(sL (wE 4) es+(bif es.isEmpty then 0 else 6))+(sL (wE 4) fs+fs.length):=by
 have h0:((bif ty==dC then [(1,oW),(1,mQ)] else [(1,ty)]):List Tk).length=Uk ty:=by unfold Uk;cases ty==dC<;>rfl
 have h1:((bif sg&&!(ty==kP) then [(1,pI)] else []):List Tk).length=(bif sg&&!(ty==kP) then 1 else 0):=by cases sg&&!(ty==kP)<;>rfl
 have g:((bif fs.isEmpty then [] else [(3,[61])]++wE 4 (x0 fs)):List Tk).length≤sL (wE 4) fs+fs.length:=by
  match fs,c with
  |[],_=>exact C4 _
  |[e],_=>show ([(3,[61])]++wE 4 e:List Tk).length≤_;simp only [sL,G0];omega
 have f:(qV (es.take 2)).length+(qV (es.drop 2)).length≤sL (wE 4) es+(bif es.isEmpty then 0 else 6):=by
  match es,h with
  |[],_=>exact C4 _
  |[x,y],_=>have:=WE (es:=[x,y]) (.inr rfl);show (qV [x,y]).length+0≤_;simp only [List.isEmpty_cons,cond_false] at this ⊢;omega
  |[x,y,z,w],_=>have g1:=WE (es:=[x,y]) (.inr rfl);have g2:=WE (es:=[z,w]) (.inr rfl);show (qV [x,y]).length+(qV [z,w]).length≤_;simp only [sL,List.isEmpty_cons,cond_false] at g1 g2 ⊢;omega
 simp only [nW,A7,h0,h1,A0,A8];omega
def aO3 {k:Int}{nm ty:G1}{sg:Bool}{es fs bs its els ps qs:List D}:mN (I k nm ty sg es fs bs its els ps qs)=nW nm ty sg es fs:=rfl
section
variable {b:List D} {a a0:Int}
def NP (hm:Mk b a){T:NT}{q:Nat}{f:Bool}(g:Bool)(p:List D)(ty:G1)(o j:List D)(H:(ty,q,f)∈T)(w:ty≠kP)(E:(Y p 0).s∈dP)(u:(Y j 2).l.length≤q) (k:(Y j 2).l.length=0∨(Y j 2).l.length=2∨(Y j 2).l.length=4) (F:g=true→f=true∧(Y j 2).l.length≤2) (G:∀ e∈(Y j 2).l,gQ 4 e) (I:a0≤a) (t:((Uk ty+(bif (Y o 0).i==1 then 1 else 0)+1+(sL (wE 4) (Y j 2).l+(bif (Y j 2).l.isEmpty then 0 else 6))+(bif g then 3 else 0):Nat):Int)≤13*(a-a0)+(1+Uk ty:Nat)) :U (fun n=>cR n g b a p ty o j) (fun r=>∃ x y,r=(true,[x,.Z 1 b,iD y])∧xN T x∧Mk b y∧a0≤y∧(((mN x).length:Nat):Int)≤13*(y-a0)+(1+Uk ty:Nat)):=by
 refine O9 (fun n=>cR.eq_1 n ..) ?_
 cases g with
 |false=>refine L3 (H8 ⟨_,a,rfl,⟨_,_,q,f,_,_,[],rfl,E,H,fun h=>absurd h w,u,k,.inl rfl,G,N4⟩,hm,I,?_⟩);have A:=aD8 (nm:=(Y p 0).s) (ty:=ty) (sg:=(Y o 0).i==1) (es:=(Y j 2).l) (fs:=[]) k (by decide);have m:(ty==kP)=false:=F4.2 w;simp only [m,Bool.not_false,Bool.and_true,sL,A8,cond_false] at A t;show (((nW (Y p 0).s ty ((Y o 0).i==1) (Y j 2).l []).length:Nat):Int)≤_;omega
 |true=>refine J5 ?_;(refine H6 (dM 1 (by decide) (c:=1) (by decide) (by decide) (by assumption)) ?_;rintro _ _ ⟨xs,a,h,hl,z,hm,C,B⟩;cases h;(try simp only [Y,D.i] at C B);refine⟨rfl,?_⟩;replace z:∀ e∈xs,gQ 4 e:=fun e h=>iL (by decide) (z e h));refine J5 (H8 ⟨_,a,rfl,⟨_,_,q,f,_,_,xs,rfl,E,H,fun h=>absurd h w,u,k,.inr ⟨(F rfl).1,hl,(F rfl).2⟩,G,z⟩,hm,by omega,?_⟩);have hl:xs.length=1:=hl;have A:=aD8 (nm:=(Y p 0).s) (ty:=ty) (sg:=(Y o 0).i==1) (es:=(Y j 2).l) (fs:=xs) k (by omega);have m:(ty==kP)=false:=F4.2 w;simp only [m,Bool.not_false,Bool.and_true,cond_true] at A t;show (((nW (Y p 0).s ty ((Y o 0).i==1) (Y j 2).l xs).length:Nat):Int)≤_;omega
def vI (ty:G1){c:Int}{T:NT}(I:c=1∨c=2)(hm:Mk b a0)(V:aN5 T c ty=true):U (fun n=>bW n (.str ty) c (.Z 1 b) a0) (fun r=>∃ x K,r=(true,[x,.Z 1 b,iD K])∧xN T x∧Mk b K∧a0≤K∧(((mN x).length:Nat):Int)≤13*(K-a0)+(1+Uk ty:Nat)):=by
 obtain⟨⟨g,q,f⟩,G,hb⟩:=List.any_eq_true.1 V;simp only [A9] at hb;obtain⟨⟨u,F⟩,E⟩:=hb;have u:g=ty:=eq_of_beq u;subst u;refine I5 (fun n=>KG n ..) ?_;have z:i64.wrap (c+1)=c+1:=Q3;rw [z];refine H6 (R6 (by omega) (by omega) hm) ?_;rintro _ _ ⟨v,a,h,hv0,hv1,hm,S,R⟩;cases h;(try simp only [Y,D.i] at S R);refine⟨rfl,?_⟩;refine J5 (K0 (fun j=>?_) fun j=>?_)
 ·(refine H6 (kV (by assumption)) ?_;rintro _ _ ⟨s,a,h,A,hm,o⟩;cases h;(try simp only [Y,D.i] at o);refine⟨rfl,?_⟩);refine J5 (H8 ⟨_,a,rfl,⟨_,_,q,f,_,[],[],rfl,A,G,fun _=>rfl,C4 _,.inl rfl,.inl rfl,N4,N4⟩,hm,by omega,?_⟩);have z:=aD8 (nm:=s) (ty:=g) (sg:=true) (es:=[]) (fs:=[]) (.inl rfl) (by decide);have W:(g==kP)=true:=j;simp only [W,Bool.not_true,Bool.and_false,sL,A8,List.isEmpty_nil,cond_true,cond_false] at z;show (((nW s g true [] []).length:Nat):Int)≤_;omega
 ·have H:g≠kP:=fun e=>by
   have j:(g==kP)=false:=j;rw [e] at j;simp at j
  have hq:(q:Int)=2*c:=by rw [show (g==kP)=false from j] at F;exact E7 F
  have hf:c=2→(g==mQ)=true∨(g==dC)=true→f=true:=by intro h1 J;rw [show (g==mQ||g==dC)=true from by rcases J with J|J<;>simp [J],E6 h1] at E;simpa using E
  (refine H6 (kV (by assumption)) ?_;rintro _ _ ⟨s,a,h,A,hm,o⟩;cases h;(try simp only [Y,D.i] at o);refine⟨rfl,?_⟩);refine J5 (H6 (aY1 (k:=3) hm) ?_);rintro _ _ ⟨w,a,h,_,_,hm,Q,P⟩;cases h;(try simp only [Y,D.i] at Q P);refine⟨rfl,?_⟩;refine J5 ?_;have z:i64.wrap (2*v)=2*v:=Q3;refine H6 (dM 1 (by decide) (c:=i64.wrap (2*v)) (by omega) (by omega) hm) ?_;rintro _ _ ⟨xs,a,h,hl,y,hm,O,C⟩;cases h;(try simp only [Y,D.i] at O C);refine⟨rfl,?_⟩;rw [z] at hl C;have m:xs.length≤q:=by omega
  have l:xs.length=0∨xs.length=2∨xs.length=4:=by omega
  have y:∀ e∈xs,gQ 4 e:=fun e h=>iL (by decide) (y e h);have hg0:(bif w==1 then 1 else 0:Nat)≤1∧((bif w==1 then 1 else 0:Nat)=0∨w=1):=by
   cases I:w==1
   ·exact⟨by decide,.inl rfl⟩
   ·exact⟨by decide,.inr (eq_of_beq I)⟩
  have hg1:(bif xs.isEmpty then 0 else 6:Nat)≤6∧((bif xs.isEmpty then 0 else 6:Nat)=0∨1≤v):=by
   cases xs with
   |nil=>exact⟨by decide,.inl rfl⟩
   |cons x xs=>exact⟨by show 6≤6;decide,.inr (by simp only [A0] at hl;omega)⟩
  have p:((Uk g+(bif w==1 then 1 else 0)+1+(sL (wE 4) xs+(bif xs.isEmpty then 0 else 6))+0:Nat):Int)≤13*(a-a0)+(1+Uk g:Nat):=by omega
  refine J5 (K0 (fun L=>?_) fun _=>K0 (fun L=>?_) fun _=>NP hm false _ g _ _ G H A m l (fun h=>by cases h) y (by omega) (by exact p))
  all_goals
   refine K0 (fun t=>K0 (fun X=>?_) fun _=>NP hm false _ g _ _ G H A m l (fun h=>by cases h) y (by omega) (by exact p)) fun _=>NP hm false _ g _ _ G H A m l (fun h=>by cases h) y (by omega) (by exact p);have t:c=2:=eq_of_beq t;have X:i64.wrap (2*v)<4:=E7 X;rw [z] at X;refine H6 (aY1 (k:=3) hm) ?_;rintro _ _ ⟨B,a,h,_,_,hm,N,M⟩;cases h;(try simp only [Y,D.i] at N M);exact⟨rfl,J5 (NP hm _ _ g _ _ G H A m l (fun _=>⟨hf t (by first|exact .inl L|exact .inr L),by show xs.length≤2;omega⟩) y (by omega) (by
    have hg2:(bif B==2 then 3 else 0:Nat)≤3∧((bif B==2 then 3 else 0:Nat)=0∨B=2):=by
     cases I:B==2
     ·exact⟨by decide,.inl rfl⟩
     ·exact⟨by decide,.inr (eq_of_beq I)⟩
    show ((Uk g+(bif w==1 then 1 else 0)+1+(sL (wE 4) xs+(bif xs.isEmpty then 0 else 6))+(bif B==2 then 3 else 0):Nat):Int)≤_;omega))⟩
def Dt (hm:Mk b a)(g:Bool)(x:D)(ds:List D)(h:xN oN x)(C:g=true→(x.at_ 2).s=dC∧(x.at_ 5).l.length≤1)(E:a0≤a)(j:(((mN x).length+(bif g then 2 else 0):Nat):Int)≤13*(a-a0)+2):U (fun n=>mO n g b a (x::ds)) (fun r=>∃ x m,r=(true,[x,.Z 1 b,iD m])∧xN oN x∧Mk b m∧a0≤m∧(((mN x).length:Nat):Int)≤13*(m-a0)+2):=by
 refine O9 (fun n=>mO.eq_1 n ..) ?_;obtain⟨nm,ty,q,f,sg,es,fs,rfl,h1,k,A,w,z,G,y,F⟩:=h
 cases g with
 |false=>exact L3 (H8 ⟨_,a,rfl,⟨nm,ty,q,f,sg,es,fs,rfl,h1,k,A,w,z,G,y,F⟩,hm,E,by simp only [cond_false,Nat.add_zero] at j;exact j⟩)
 |true=>
  have p:ty=dC:=(C rfl).1;subst p;have B:q=2∧f=true:=by
   simp only [oN,B7,C7,List.not_mem_nil,or_false] at k;rcases k with ⟨h,_⟩|⟨h,_⟩|⟨_,h,h'⟩
   ·exact absurd h (by decide)
   ·exact absurd h (by decide)
   ·exact⟨h,h'⟩
  obtain⟨rfl,rfl⟩:=B;refine J5 ?_;(refine H6 (dM 1 (by decide) (c:=1) (by decide) (by decide) (by assumption)) ?_;rintro _ _ ⟨xs,a,h,hl,o,hm,u,t⟩;cases h;(try simp only [Y,D.i] at u t);refine⟨rfl,?_⟩;replace o:∀ e∈xs,gQ 4 e:=fun e h=>iL (by decide) (o e h));refine J5 (H8 ⟨_,a,rfl,⟨nm,dC,2,true,sg,es,xs,rfl,h1,k,A,w,z,.inr ⟨rfl,hl,w⟩,y,o⟩,hm,by omega,?_⟩);have hl:xs.length=1:=hl;have e1:(nW nm dC sg es xs).length≤(nW nm dC sg es fs).length+(sL (wE 4) xs+1):=by
   match xs,hl with
   |[e],_=>(have:((bif ([e]:List D).isEmpty then [] else [(3,[61])]++wE 4 (x0 [e])):List Tk).length≤sL (wE 4) [e]+1:=by show ([(3,[61])]++wE 4 e:List Tk).length≤_;simp only [sL,G0];omega);simp only [nW,A7];omega
  rw [aO3] at j;simp only [cond_true] at j;show (((nW nm dC sg es xs).length:Nat):Int)≤_;omega
def aQ7 {T:NT}{x:D}(h:xN T x):(x.at_ 5).l.length≤1:=by
 obtain⟨nm,ty,q,f,sg,es,fs,rfl,_,_,_,_,_,c,_⟩:=h;show fs.length≤1;rcases c with rfl|⟨_,h,_⟩
 ·exact C4 _
 ·omega
def ZC (hm:Mk b a0):U (fun n=>iZ n (.Z 1 b) a0) (fun r=>∃ x g,r=(true,[x,.Z 1 b,iD g])∧xN oN x∧Mk b g∧a0≤g∧(((mN x).length:Nat):Int)≤13*(g-a0)+2):=by
 refine I5 (fun n=>IC n ..) (H6 (aY1 (k:=3) hm) ?_);rintro _ _ ⟨v,a,h,y,w,hm,p,o⟩;cases h;(try simp only [Y,D.i] at p o);refine⟨rfl,?_⟩;have z:v=0∨v=1∨v=2:=by omega
 refine J5 ?_;rcases z with rfl|rfl|rfl
 all_goals
  refine J5 (J5 (H6 (vI (T:=oN) _ (.inl rfl) hm rfl) ?_));rintro _ _ ⟨x,a,h,q,hm,m,c⟩;cases h;(try simp only [Y,D.i] at m c);refine⟨rfl,?_⟩;first|(replace c:((mN _).length:Int)≤_+((2:Nat):Int):=c)|(replace c:((mN _).length:Int)≤_+((3:Nat):Int):=c)
  have e:=q;obtain⟨u,s,t,E,C,rfl⟩:=vH q;refine J5 (K0 (fun A=>?_) fun _=>Dt hm _ _ _ e (fun h=>by cases h) (by omega) (by show ((_+0:Nat):Int)≤_;omega));refine H6 (aY1 (k:=3) hm) ?_;rintro _ _ ⟨f,a,h,_,_,hm,l,j⟩;cases h;(try simp only [Y,D.i] at l j);have B:(bif f==2 then 2 else 0:Nat)≤2∧((bif f==2 then 2 else 0:Nat)=0∨f=2):=by
   cases hc:f==2
   ·exact⟨by decide,.inl rfl⟩
   ·exact⟨by decide,.inr (eq_of_beq hc)⟩
  exact⟨rfl,J5 (Dt hm _ _ _ e (fun _=>⟨eq_of_beq A,aQ7 e⟩) (by omega) (by show ((_+(bif f==2 then 2 else 0):Nat):Int)≤_;omega))⟩
def Nd:∀ (c:Nat) (zs:List D) (a:Int),zs.length+c≤2→(∀ x∈zs,xC x)→Mk b a→U (fun n=>bL n (c:Int) (.Z 1 b) a (.Z 2 zs)) fun r=>∃ (q:Int) (f:List D) (g:Int),r=(false,[iD q,.Z 1 b,iD g,.Z 2 f])∧f.length≤zs.length+c∧(∀ x∈f,xC x)∧Mk b g∧a≤g∧(sL cW f:Int)≤sL cW zs+13*(g-a)+4*c:=by
 intro c
 induction c with
 |zero=>intro zs a hl k hm;exact I5 (fun n=>qP n ..) (L3 (H8 ⟨_,zs,a,rfl,by omega,k,hm,by omega,by omega⟩))
 |succ c ih=>
  intro zs a hl k hm;have C:i64.wrap (((c+1:Nat):Int)-1)=(c:Int):=by rw [Q3];omega
  refine I5 (fun n=>qP n ..) (I4 aX8 ?_);rw [C];(refine H6 (kV (by assumption)) ?_;rintro _ _ ⟨s,a,h,F,hm,p⟩;cases h;(try simp only [Y,D.i] at p);refine⟨rfl,?_⟩);refine J5 ?_;(refine H6 (aY1 (by assumption)) ?_;rintro _ _ ⟨v,a,h,l,E,hm,u,t⟩;cases h;(try simp only [Y,D.i] at u t);refine⟨rfl,?_⟩);refine J5 (H6 (dM 1 (by decide) (c:=v) l (by omega) hm) ?_);rintro _ _ ⟨xs,a,h,H,z,hm,o,m⟩;cases h;(try simp only [Y,D.i] at o m);refine⟨rfl,?_⟩;refine J5 (I4 (B2 (by simp only [L9];omega)) ((ih _ a (by simp;omega) (II k ⟨_,xs,rfl,F,by omega,fun e h=>iL (by decide) (z e h)⟩) hm).mono fun r G=>?_));obtain⟨q,f,g,h1,K,J,I,L,y⟩:=G;have B:=Co (wE 4) xs;have A:(cW (D.agg [.str s,.Z 6 xs])).length=(lW (wE 4) xs).length+4:=by show ([(3,[46]),(1,s),(3,[40])]++(lW (wE 4) xs++[(3,[41])]):List Tk).length=_;simp only [G0];omega
  have j:xs.length≤1→(lW (wE 4) xs).length≤sL (wE 4) xs:=by
   intro w
   match xs,w with
   |[],_=>exact C4 _
   |[e],_=>simp [lW,sL]
  have j:=j (by omega);rw [qJ] at y;replace y:(sL cW f:Int)≤((sL cW zs+(cW (D.agg [.str s,.Z 6 xs])).length:Nat):Int)+13*(g-a)+4*c:=y;exact⟨q,f,g,h1,by simp at K;omega,J,I,by omega,by omega⟩
def EH (hm:Mk b a):U (fun n=>cM n (.Z 1 b) a) fun r=>∃ zs e,r=(true,[.Z 1 b,iD e,.Z 2 zs])∧zs.length≤2∧(∀ x∈zs,xC x)∧Mk b e∧a≤e∧((bif zs.isEmpty then 0 else (rA zs).length+1:Nat):Int)≤13*(e-a)∧((rA zs).length:Int)≤13*(e-a)+2:=by
 refine I5 (fun n=>FJ n b a) ?_;(refine H6 (aY1 (by assumption)) ?_;rintro _ _ ⟨v,a,h,m,l,hm,k,j⟩;cases h;(try simp only [Y,D.i] at k j);refine⟨rfl,?_⟩);obtain⟨c,rfl⟩:∃ c:Nat,v=(c:Int):=⟨v.toNat,by omega⟩;refine J5 (L4 (Nd c [] a (by simp;omega) N4 hm) (fun ds h=>by obtain⟨_,_,_,h,_⟩:=h;cases h) fun ds h=>?_);obtain⟨q,zs,a,h,h1,s,hm,o,g⟩:=h;cases h;simp only [sL,A8,C5] at g h1;have f:=Co cW zs;have p:(rA zs).length=(lW cW zs).length+2:=by simp only [rA,G0];omega
 refine J5 (H8 ⟨zs,a,rfl,by omega,s,hm,by omega,?_,?_⟩)
 ·cases zs with
  |nil=>show ((0:Nat):Int)≤_;omega
  |cons z zs=>have f:=yB cW (z::zs) (by simp);show (((rA (z::zs)).length+1:Nat):Int)≤_;simp only [A0] at h1 f;omega
 ·cases zs with
  |nil=>rw [p];show ((0+2:Nat):Int)≤_;omega
  |cons z zs=>have f:=yB cW (z::zs) (by simp);simp only [A0] at h1 f;omega
def Nf (sg:Bool)(es:List D):∀ (c:Nat) (zs:List D) (a:Int),zs.length+c≤2→(∀ x∈zs,xN DI x)→Mk b a→U (fun n=>cE n (c:Int) (.Z 1 b) a (0:Int) (.str []) (.str []) (.bool false) (7:Int) (.str [102]) (.str []) (.bool sg) (.Z 6 []) (.Z 6 []) (.Z 5 []) (.Z 11 []) (.Z 11 []) (.Z 2 []) (.Z 2 []) (.Z 6 es) (.Z 6 []) (.Z 5 []) (.Z 11 zs) (.Z 11 []) (.Z 2 []) (.Z 2 [])) fun r=>∃ (q:Int) (e:List D) (p:Int),r=(false,[iD q,.Z 1 b,iD p,iD 0,.str [],.str [],.bool false,iD 7,.str [102],.str [],.bool sg,.Z 6 [],.Z 6 [],.Z 5 [],.Z 11 [],.Z 11 [],.Z 2 [],.Z 2 [],.Z 6 es,.Z 6 [],.Z 5 [],.Z 11 e,.Z 11 [],.Z 2 [],.Z 2 []])∧e.length=zs.length+c∧(∀ x∈e,xN DI x)∧Mk b p∧a≤p∧(sL IT e:Int)≤sL IT zs+13*(p-a)+3*c:=by
 intro c
 induction c with
 |zero=>intro zs a hl s hm;exact I5 (fun n=>sG n ..) (L3 (H8 ⟨_,zs,a,rfl,rfl,s,hm,by omega,by omega⟩))
 |succ c ih=>
  intro zs a hl s hm;have B:i64.wrap (((c+1:Nat):Int)-1)=(c:Int):=by rw [Q3];omega
  refine I5 (fun n=>sG n ..) (I4 aX8 ?_);rw [B];refine H6 (aY1 (k:=3) hm) ?_;rintro _ _ ⟨v,a,h,E,C,hm,y,w⟩;cases h;(try simp only [Y,D.i] at y w);refine⟨rfl,?_⟩;have F:v=0∨v=1∨v=2:=by omega
  refine J5 ?_;rcases F with rfl|rfl|rfl
  all_goals
   (refine J5 (J5 (H6 (vI (T:=DI) _ (.inl rfl) hm rfl) ?_));rintro _ _ ⟨x,a,h,A,hm,u,f⟩;cases h;(try simp only [Y,D.i] at u f);refine⟨rfl,?_⟩;first|(replace f:((mN _).length:Int)≤_+((2:Nat):Int):=f)|(replace f:((mN _).length:Int)≤_+((3:Nat):Int):=f));have t:=A
   (obtain⟨l,g,j,o,m,rfl⟩:=vH A;refine J5 (I4 (B2 (by simp only [L9];omega)) ?_);refine (ih _ a (by simp;omega) (II s t) hm).mono fun r G=>?_;obtain⟨q,e,p,h1,K,J,H,M,z⟩:=G;rw [qJ] at z;have L:(IT (I 1 l g j o m [] [] [] [] [])).length=(mN (I 1 l g j o m [] [] [] [] [])).length+1:=by show (nW l g j o m++[(3,[59])]:List Tk).length=_;rw [A7];rfl);replace z:(sL IT e:Int)≤((sL IT zs+(IT (I 1 l g j o m [] [] [] [] [])).length:Nat):Int)+13*(p-a)+3*c:=z;exact⟨q,e,p,h1,by rw [K,A7,C9];omega,J,H,by omega,by omega⟩
def Zk (d:Nat)(deep:Int):Prop:=∀ (b:List D) (a c:Int),0≤c→c≤3→Mk b a→U (fun n=>X3 n (i64.wrap (deep-1):Int) c (.Z 1 b) a)
 fun r=>∃ zs e,r=(true,[.Z 1 b,iD e,.Z 11 zs])∧zs.length≤c.toNat∧(∀ x∈zs,xI d x)∧Mk b e∧a≤e∧(sL (wI d) zs:Int)≤13*(e-a)+3*c
end
def aA6 {w:D→List Tk}{t:G1}{its:List D}:([gB t its].flatMap (JC w)).length=sL w its+4:=by show (([(1,aM),(3,[58]),(1,t)]++(its.flatMap w++[(1,iU)]))++[]:List Tk).length=_;simp only [G0,yA];omega
def Zc {n:Nat}{nm ty:G1}{sg:Bool}{es fs bs its els ps qs:List D}:(wI (n+1) (I 1 nm ty sg es fs bs its els ps qs)).length=(mN (I 1 nm ty sg es fs bs its els ps qs)).length+1:=by show (nW nm ty sg es fs++[(3,[59])]:List Tk).length=_;rw [A7];rfl
def aP4 {n:Nat}{nm ty:G1}{sg:Bool}{e:D}{fs bs its els ps qs:List D}:(wI (n+1) (I 2 nm ty sg [e] fs bs its els ps qs)).length=(wE 4 e).length+4:=by show ([(1,ty),(1,nm),(3,[61])]++(wE 4 e++[(3,[59])]):List Tk).length=_;simp only [G0];omega
def aP5 {n:Nat}{nm ty:G1}{sg:Bool}{l e:D}{fs bs its els ps qs:List D}:(wI (n+1) (I 4 nm ty sg [l,e] fs bs its els ps qs)).length=(wE 4 l).length+(wE 4 e).length+3:=by show ([(1,tO)]++(wE 4 l++([(3,[61])]++(wE 4 e++[(3,[59])]))):List Tk).length=_;simp only [G0];omega
def aP6 {n:Nat}{nm ty:G1}{sg:Bool}{s:D}{es fs its els ps qs:List D}:(wI (n+1) (I 5 nm ty sg es fs [s] its els ps qs)).length=(wS 4 s).length+3:=by show ([(1,qK),(3,[64]),(3,[42])]++wS 4 s:List Tk).length=_;simp only [G0];omega
def aP7 {n:Nat}{nm ty:G1}{sg:Bool}{s:D}{es fs its els ps qs:List D}:(wI (n+1) (I 6 nm ty sg es fs [s] its els ps qs)).length=(wS 4 s).length+6:=by show ([(1,qK),(3,[64]),(3,[40]),(1,KE),(1,nm),(3,[41])]++wS 4 s:List Tk).length=_;simp only [G0];omega
def aP8 {n:Nat}{nm ty:G1}{sg:Bool}{s:D}{es fs its els ps qs:List D}(h:es.length=0∨es.length=2):(wI (n+1) (I 7 nm ty sg es fs [s] its els ps qs)).length≤(bif sg then 1 else 0)+(sL (wE 4) es+(bif es.isEmpty then 0 else 3))+sL IT its+(wS 4 s).length+4:=by
 have h1:=WE h;have h0:((bif sg then [(1,pI)] else []):List Tk).length=(bif sg then 1 else 0):=by cases sg<;>rfl
 show ([(1,FA)]++((bif sg then [(1,pI)] else [])++(qV es++([(1,nm),(3,[59])]++(its.flatMap IT++(wS 4 s++[(1,pS)]))))):List Tk).length≤_;simp only [A7,h0,A0,A8,yA];omega
def aP9 {n:Nat}{nm ty:G1}{sg:Bool}{es fs bs its els ps qs:List D}:(wI (n+1) (I 8 nm ty sg es fs bs its els ps qs)).length≤(bif ps.isEmpty then 0 else (rA ps).length)+(bif ps.isEmpty then 0 else 1)+(rA qs).length+3:=by show ([(1,ty)]++((bif ps.isEmpty then [] else [(3,[35])]++rA ps)++([(1,nm)]++(rA qs++[(3,[59])]))):List Tk).length≤_;cases ps.isEmpty<;>simp only [cond_true,cond_false,G0]<;>omega
def aQ0 {n:Nat}{nm ty t:G1}{sg:Bool}{es fs bs its els ps qs:List D}(h:es.length=3):(wI (n+1) (I 9 nm ty sg es fs bs [gB t its] els ps qs)).length=sL (wE 4) es+sL (wI n) its+13:=by show (dX nm es++[gB t its].flatMap (JC (wI n)):List Tk).length=_;rw [A7,Io h,aA6];omega
def Tv {n:Nat}{nm ty t:G1}{sg:Bool}{e:D}{fs bs its els ps qs:List D}:(wI (n+1) (I 10 nm ty sg [e] fs bs [gB t its] els ps qs)).length≤(wE 4 e).length+sL (wI n) its+(bif els.isEmpty then 0 else 1+(els.flatMap (JC (wI n))).length)+7:=by show ([(1,zD)]++(pW e++([gB t its].flatMap (JC (wI n))++(bif els.isEmpty then [] else [(1,iM)]++els.flatMap (JC (wI n))))):List Tk).length≤_;have:=aA6 (w:=wI n) (t:=t) (its:=its);cases els.isEmpty<;>simp only [cond_true,cond_false,pW,this,G0]<;>omega
section
variable {d:Nat} {deep:Int} {b:List D} {a a0 v:Int}
def yG (hS:2≤deep→Zk (d+1) deep)(hm:Mk b a){k:Int}(h0:0≤k)(h1:k≤11)(h2:8<k→2≤deep)(ha:a0≤a)(ha1:k=0∨a0+1≤a) :U (fun n=>T8 n k [iD v,.Z 1 b,iD a] deep) (fun r=>∃ x N,r=(true,[x,.Z 1 b,iD N])∧xI (d+2) x∧Mk b N∧a0≤N∧(((wI (d+2) x).length:Nat):Int)≤13*(N-a0)+3):=by
 have hk:k=0∨k=1∨k=2∨k=3∨k=4∨k=5∨k=6∨k=7∨k=8∨k=9∨k=10∨k=11:=by omega
 have zD:∀ k:Int,a0+1≤a→2≤deep→(k==0)=false→(k==1)=false→(k==2)=false→(k==3)=false→(k==4)=false→(k==5)=false→(k==6)=false→(k==7)=false→(k==8)=false→(k==9)=false→U (fun n=>T8 n k [iD v,.Z 1 b,iD a] deep) (fun r=>∃ x N,r=(true,[x,.Z 1 b,iD N])∧xI (d+2) x∧Mk b N∧a0≤N∧(((wI (d+2) x).length:Nat):Int)≤13*(N-a0)+3):=by
  intro k hac y e0 e1 e2 e3 e4 e5 e6 e7 e8 e9;have hS:=hS y;refine (N8 e0 (N8 e1 (N8 e2 (N8 e3 (N8 e4 (N8 e5 (N8 e6 (N8 e7 (N8 e8 (N8 e9 ?_))))))))));(refine H6 (dM 1 (by decide) (c:=1) (by decide) (by decide) (by assumption)) ?_;rintro _ _ ⟨xs,a,h,hl,j,hm,g,f⟩;cases h;(try simp only [Y,D.i] at g f);refine⟨rfl,?_⟩;replace j:∀ e∈xs,gQ 4 e:=fun e h=>iL (by decide) (j e h));obtain⟨e,rfl⟩:∃ e,xs=[e]:=by
   match xs,hl with
   |[e],_=>exact⟨e,rfl⟩
  have he:=j e (C3.2 rfl);have f:((wE 4 e).length:Int)≤_:=Int.le_trans (by simp [sL]) f;refine J5 (H6 (aY1 (k:=3) hm) ?_);rintro _ _ ⟨c,a,h,hc0,hc1,hm,z,hqf⟩;cases h;(try simp only [Y,D.i] at z hqf);refine⟨rfl,?_⟩;refine J5 (H6 (hS b a c hc0 (by omega) hm) ?_);rintro _ _ ⟨zs,a,h,K,hz,hm,hqk,hql⟩;cases h;(try simp only [Y,D.i] at hqk hql);refine⟨rfl,?_⟩;refine J5 (H6 (aY1 (k:=2) hm) ?_);rintro _ _ ⟨w,a,h,V,hw1,hm,hqg,hqh⟩;cases h;(try simp only [Y,D.i] at hqg hqh);refine⟨rfl,?_⟩;refine J5 (K0 (fun W=>?_) fun _=>H8 ⟨_,a,rfl,(.inr (.inr (.inr (.inr (.inr (.inr (.inr (.inr (.inr (⟨e,zs,[],rfl,he,by omega,hz,.inl rfl⟩)))))))))),hm,by omega,by have J:=Tv (n:=d+1) (nm:=[]) (ty:=[]) (t:=[116]) (sg:=false) (e:=e) (fs:=[]) (bs:=[]) (its:=zs) (els:=[]) (ps:=[]) (qs:=[]);simp only [List.isEmpty_nil,cond_true] at J;exact Int.le_trans (Int.ofNat_le.2 J) (by omega)⟩);have W:w=1:=by simpa [Y,D.i] using W
  refine H6 (aY1 (k:=3) hm) ?_;rintro _ _ ⟨c2,a,h,hc20,hc21,hm,hqi,hqj⟩;cases h;(try simp only [Y,D.i] at hqi hqj);refine⟨rfl,?_⟩;refine J5 (H6 (hS b a c2 hc20 (by omega) hm) ?_);rintro _ _ ⟨ys,a,h,hy1,hy,hm,hqm,hqn⟩;cases h;(try simp only [Y,D.i] at hqm hqn);refine⟨rfl,?_⟩;refine J5 (H8 ⟨_,a,rfl,(.inr (.inr (.inr (.inr (.inr (.inr (.inr (.inr (.inr (⟨e,zs,_,rfl,he,by omega,hz,.inr ⟨ys,rfl,by omega,hy⟩⟩)))))))))),hm,by omega,?_⟩);have J:=Tv (n:=d+1) (nm:=[]) (ty:=[]) (t:=[116]) (sg:=false) (e:=e) (fs:=[]) (bs:=[]) (its:=zs) (els:=[gB [101] ys]) (ps:=[]) (qs:=[]);rw [aA6] at J;simp only [List.isEmpty_cons,cond_false] at J;exact Int.le_trans (Int.ofNat_le.2 J) (by omega)
 rcases hk with rfl|rfl|rfl|rfl|rfl|rfl|rfl|rfl|rfl|rfl|rfl|rfl
 ·refine (J5 (H6 (vI (T:=wO) _ (.inl rfl) hm rfl) ?_));rintro _ _ ⟨x,a,h,j,hm,g,f⟩;cases h;(try simp only [Y,D.i] at g f);first|(replace f:((mN _).length:Int)≤_+((2:Nat):Int):=f)|(replace f:((mN _).length:Int)≤_+((3:Nat):Int):=f)
  have o:=j;obtain⟨R,P,Q,m,fs1,rfl⟩:=vH j;exact⟨rfl,J5 (H8 ⟨_,a,rfl,.inl (.inl o),hm,by omega,by show (((wI (d+1+1) (I 1 R P Q m fs1 [] [] [] [] [])).length:Nat):Int)≤_;rw [Zc];omega⟩)⟩
 ·refine (L3 (J5 (H6 (aY1 (k:=3) hm) ?_)));rintro _ _ ⟨w,a,h,hv0,W,hm,hqa,X⟩;cases h;(try simp only [Y,D.i] at hqa X);refine⟨rfl,?_⟩;have hv:w=0∨w=1∨w=2:=by omega
  refine J5 ?_;rcases hv with rfl|rfl|rfl
  all_goals
   (refine J5 (J5 (H6 (vI (T:=KH) _ (.inr rfl) hm rfl) ?_));rintro _ _ ⟨x,a,h,j,hm,g,f⟩;cases h;(try simp only [Y,D.i] at g f);first|(replace f:((mN _).length:Int)≤_+((2:Nat):Int):=f)|(replace f:((mN _).length:Int)≤_+((3:Nat):Int):=f));have o:=j
   obtain⟨R,P,Q,m,fs1,rfl⟩:=vH j;exact⟨rfl,J5 (H8 ⟨_,a,rfl,.inl (.inr o),hm,by omega,by
   show (((wI (d+1+1) (I 1 R P Q m fs1 [] [] [] [] [])).length:Nat):Int)≤_;rw [Zc];omega⟩)⟩
 ·refine (L3 (L3 (J5 ?_)));(refine H6 (kV (by assumption)) ?_;rintro _ _ ⟨s,a,h,hs,hm,z⟩;cases h;(try simp only [Y,D.i] at z);refine⟨rfl,?_⟩);refine J5 ?_;(refine H6 (dM 1 (by decide) (c:=1) (by decide) (by decide) (by assumption)) ?_;rintro _ _ ⟨xs,a,h,hl,j,hm,g,f⟩;cases h;(try simp only [Y,D.i] at g f);refine⟨rfl,?_⟩;replace j:∀ e∈xs,gQ 4 e:=fun e h=>iL (by decide) (j e h));obtain⟨e,rfl⟩:∃ e,xs=[e]:=by
   match xs,hl with
   |[e],_=>exact⟨e,rfl⟩
  have f:((wE 4 e).length:Int)≤_:=Int.le_trans (by simp [sL]) f;exact J5 (H8 ⟨_,a,rfl,(.inr (.inl ⟨s,e,rfl,hs,j e (C3.2 rfl)⟩)),hm,by omega,by show (((wI (d+1+1) (I 2 s sD false [e] [] [] [] [] [] [])).length:Nat):Int)≤_;rw [aP4];omega⟩)
 ·refine (L3 (L3 (L3 (J5 ?_))));(refine H6 (kV (by assumption)) ?_;rintro _ _ ⟨s,a,h,hs,hm,z⟩;cases h;(try simp only [Y,D.i] at z);refine⟨rfl,?_⟩);exact J5 (H8 ⟨_,a,rfl,(.inr (.inr (.inl ⟨s,rfl,hs⟩))),hm,by omega,by show ((3:Nat):Int)≤_;omega⟩)
 ·refine (L3 (L3 (L3 (L3 (J5 (H6 (Ds hm) ?_))))));rintro _ _ ⟨l,a,h,hl,hm,hqa,X⟩;cases h;(try simp only [Y,D.i] at hqa X);have hl0:=hl;obtain⟨H,t1,ar1,rfl,_⟩:=hl;refine⟨rfl,J5 (H6 (VP 3 (by decide) hm) ?_)⟩;rintro _ _ ⟨e,a,h,he,hm,g,f⟩;cases h;(try simp only [Y,D.i] at g f);have he0:=he;obtain⟨k2,t2,ar2,rfl,_⟩:=he;exact⟨rfl,J5 (H8 ⟨_,a,rfl,(.inr (.inr (.inr (.inl ⟨_,_,rfl,hl0,he0⟩)))),hm,by omega,by show (((wI (d+1+1) (I 4 [] [] false [E H t1 ar1,E k2 t2 ar2] [] [] [] [] [] [])).length:Nat):Int)≤_;rw [aP5];omega⟩)⟩
 ·refine (L3 (L3 (L3 (L3 (L3 (J5 (H6 (yH 3 3 (by decide) (by decide) (by decide) b a hm) ?_)))))));rintro _ _ ⟨x,a,h,j,hm,g,f⟩;cases h;(try simp only [Y,D.i] at g f);have o:=j;obtain⟨H,t1,m,p,u,rfl,_⟩:=j;have f:((wS 4 (S H t1 m p u)).length:Int)≤_:=f;exact⟨rfl,J5 (H8 ⟨_,a,rfl,(.inr (.inr (.inr (.inr (.inl ⟨_,rfl,o⟩))))),hm,by omega,by show (((wI (d+1+1) (I 5 [] [] false [] [] [S H t1 m p u] [] [] [] [])).length:Nat):Int)≤_;rw [aP6];omega⟩)⟩
 ·refine (L3 (L3 (L3 (L3 (L3 (L3 (J5 (H6 (yH 3 4 (by decide) (by decide) (by decide) b a hm) ?_))))))));rintro _ _ ⟨x,a,h,j,hm,g,f⟩;cases h;(try simp only [Y,D.i] at g f);have o:=j;obtain⟨H,t1,m,p,u,rfl,_⟩:=j;have f:((wS 4 (S H t1 m p u)).length:Int)≤_:=f;exact⟨rfl,J5 (H8 ⟨_,a,rfl,(.inr (.inr (.inr (.inr (.inr (.inl ⟨_,rfl,o⟩)))))),hm,by omega,by show (((wI (d+1+1) (I 6 AN [] false [] [] [S H t1 m p u] [] [] [] [])).length:Nat):Int)≤_;rw [aP7];omega⟩)⟩
 ·refine (L3 (L3 (L3 (L3 (L3 (L3 (L3 (J5 (H6 (aY1 (k:=2) hm) ?_)))))))));rintro _ _ ⟨O,a,h,_,_,hm,F,C⟩;cases h;(try simp only [Y,D.i] at F C);refine⟨rfl,?_⟩;refine J5 (H6 (aY1 (k:=2) hm) ?_);rintro _ _ ⟨w3,a,h,h30,h31,hm,B,A⟩;cases h;(try simp only [Y,D.i] at B A);refine⟨rfl,?_⟩;refine J5 ?_;have J:i64.wrap (2*w3)=2*w3:=Q3;refine H6 (dM 1 (by decide) (c:=i64.wrap (2*w3)) (by omega) (by omega) hm) ?_;rintro _ _ ⟨xs,a,h,hl,j,hm,hq6,M⟩;cases h;(try simp only [Y,D.i] at hq6 M);refine⟨rfl,?_⟩;rw [J] at hl M;have hl:xs.length=0∨xs.length=2:=by omega
  have j:∀ e∈xs,gQ 4 e:=fun e h=>iL (by decide) (j e h);refine J5 (H6 (aY1 (k:=2) hm) ?_);rintro _ _ ⟨w,a,h,V,hw1,hm,hq8,hq9⟩;cases h;(try simp only [Y,D.i] at hq8 hq9);obtain⟨c,rfl⟩:∃ c:Nat,w=(c:Int):=⟨w.toNat,by omega⟩;have J:i64.wrap (1+(c:Int))=((c+1:Nat):Int):=by rw [Q3];omega
  have L:=Nf (b:=b) (O==1) xs (c+1) [] a (by simp;omega) N4 hm;rw [← J] at L;refine⟨rfl,J5 (L4 L (fun ds h=>by obtain⟨_,_,_,h,_⟩:=h;cases h) fun ds h=>?_)⟩;obtain⟨q,zs,a,h,K,hz,hm,hq10,hq11⟩:=h;cases h;simp only [sL] at hq11;refine J5 (H6 (yH 3 3 (by decide) (by decide) (by decide) b a hm) ?_);rintro _ _ ⟨x,a,h,hx',hm,hq12,G⟩;cases h;(try simp only [Y,D.i] at hq12 G);have o:=hx';obtain⟨H,t1,m,p,u,rfl,_⟩:=hx';have G:((wS 4 (S H t1 m p u)).length:Int)≤_:=G;refine⟨rfl,J5 (H8 ⟨_,a,rfl,(.inr (.inr (.inr (.inr (.inr (.inr (.inl ⟨O==1,xs,zs,_,rfl,hl,j,by simp at K;omega,by simp at K;omega,hz,o⟩))))))),hm,by omega,?_⟩)⟩;have hk7:=aP8 (n:=d+1) (nm:=[102]) (ty:=[]) (sg:=O==1) (s:=S H t1 m p u) (es:=xs) (fs:=[]) (its:=zs) (els:=[]) (ps:=[]) (qs:=[]) hl;have hg0:(bif O==1 then 1 else 0:Nat)≤1∧((bif O==1 then 1 else 0:Nat)=0∨O=1):=by
   cases hc:O==1
   ·exact⟨by decide,.inl rfl⟩
   ·exact⟨by decide,.inr (eq_of_beq hc)⟩
  have hg1:(bif xs.isEmpty then 0 else 3:Nat)≤3∧((bif xs.isEmpty then 0 else 3:Nat)=0∨xs.length=2):=by
   cases xs with
   |nil=>exact⟨by decide,.inl rfl⟩
   |cons x xs=>exact⟨by show 3≤3;decide,.inr (by rcases hl with h|h;simp at h;exact h)⟩
  exact Int.le_trans (Int.ofNat_le.2 hk7) (by omega)
 ·refine (L3 (L3 (L3 (L3 (L3 (L3 (L3 (L3 (J5 (H6 (aY1 (k:=9) hm) ?_))))))))));rintro _ _ ⟨w,a,h,V,hw1,hm,F,C⟩;cases h;(try simp only [Y,D.i] at F C);refine⟨rfl,?_⟩;refine J5 (H6 (Kd (v:=w) V (by omega)) ?_);rintro _ _ h;cases h;refine⟨rfl,?_⟩;refine J5 (I4 (E6 (by show 1+1≤Z5;simp only [Z5];omega)) ?_);refine H6 (EH hm) ?_;rintro _ _ ⟨ps,a,h,hp1,hp,hm,B,A,hq6⟩;cases h;(try simp only [Y,D.i] at B A hq6);refine⟨rfl,?_⟩;refine J5 (H6 (EH hm) ?_);rintro _ _ ⟨qs,a,h,hq1,hq,hm,M,hq8,hq9⟩;cases h;(try simp only [Y,D.i] at hq1 M hq8 hq9);refine⟨rfl,?_⟩;exact J5 (H8 ⟨_,a,rfl,(.inr (.inr (.inr (.inr (.inr (.inr (.inr (.inl ⟨UInt8.ofNat w.toNat,ps,qs,rfl,by rw [UInt8.toNat_ofNat_of_lt' (by show w.toNat<256;omega)];omega,hp1,hq1,hp,hq⟩)))))))),hm,by omega,by (have hk8:=aP9 (n:=d+1) (nm:=[117,48+UInt8.ofNat w.toNat]) (ty:=wL) (sg:=false) (es:=[]) (fs:=[]) (bs:=[]) (its:=[]) (els:=[]) (ps:=ps) (qs:=qs);have hg1:(bif ps.isEmpty then 0 else (rA ps).length:Nat)+(bif ps.isEmpty then 0 else 1:Nat)=(bif ps.isEmpty then 0 else (rA ps).length+1:Nat):=by cases ps.isEmpty<;>rfl);exact Int.le_trans (Int.ofNat_le.2 hk8) (by omega)⟩)
 ·have y:=h2 (by decide);refine (L3 (L3 (L3 (L3 (L3 (L3 (L3 (L3 (L3 (J5 ?_))))))))));(refine H6 (dM 1 (by decide) (c:=3) (by decide) (by decide) (by assumption)) ?_;rintro _ _ ⟨xs,a,h,hl,j,hm,g,f⟩;cases h;(try simp only [Y,D.i] at g f);refine⟨rfl,?_⟩;replace j:∀ e∈xs,gQ 4 e:=fun e h=>iL (by decide) (j e h));refine J5 (H6 (aY1 (k:=3) hm) ?_);rintro _ _ ⟨c,a,h,hc0,hc1,hm,F,C⟩;cases h;(try simp only [Y,D.i] at F C);refine⟨rfl,?_⟩;refine J5 (H6 (hS y b a c hc0 (by omega) hm) ?_);rintro _ _ ⟨zs,a,h,K,hz,hm,B,A⟩;cases h;(try simp only [Y,D.i] at B A);refine⟨rfl,?_⟩;exact J5 (H8 ⟨_,a,rfl,(.inr (.inr (.inr (.inr (.inr (.inr (.inr (.inr (.inl ⟨xs,zs,rfl,hl,j,by omega,hz⟩))))))))),hm,by omega,by show (((wI (d+1+1) (I 9 [105] [] false xs [] [] [gB [103] zs] [] [] [])).length:Nat):Int)≤_;rw [aQ0 hl];omega⟩)
 ·exact zD 10 (by omega) (h2 (by decide)) rfl rfl rfl rfl rfl rfl rfl rfl rfl rfl
 ·exact zD 11 (by omega) (h2 (by decide)) rfl rfl rfl rfl rfl rfl rfl rfl rfl rfl
end
def Ng {d:Nat}{deep:Int}(L:∀ b a,Mk b a→U (fun n=>dE n deep (.Z 1 b) a) (fun r=>∃ x f,r=(true,[x,.Z 1 b,iD f])∧xI d x∧Mk b f∧a≤f∧(((wI d x).length:Nat):Int)≤13*(f-a)+3)){m:Nat}(J:m≤100){b:List D} :∀ (c j:Nat) (zs:List D) (a:Int),j+c=m→zs.length=j→(∀ x∈zs,xI d x)→Mk b a→U (fun n=>bN n deep (m:Int) (j:Int) (.Z 1 b) a (.Z 11 zs)) fun r=>∃ (q:Int) (e:List D) (f:Int),r=(false,[iD deep,iD (m:Int),iD q,.Z 1 b,iD f,.Z 11 e])∧e.length=m∧(∀ x∈e,xI d x)∧Mk b f∧a≤f∧(sL (wI d) e:Int)≤sL (wI d) zs+13*(f-a)+3*c:=by
 intro c
 induction c with
 |zero=>intro j zs a K hl u hm;exact I5 (fun n=>qT n ..) (N8 aY0 (H8 ⟨_,zs,a,rfl,by omega,u,hm,by omega,by omega⟩))
 |succ c ih=>
  intro j zs a K hl u hm;refine I5 (fun n=>qT n ..) (I4 aX8 ?_);rw [P4];refine H6 (L b a hm) ?_;rintro _ _ ⟨x,a,h,y,hm,A,z⟩;cases h;(try simp only [Y,D.i] at A z);refine⟨rfl,?_⟩
  cases d with
  |zero=>exact y.elim
  |succ d=>have w:=y;obtain⟨G,t,l,o,E,C,F,g,k,s,p,rfl⟩:=Xn y;refine J5 (I4 (B2 (by simp only [L9];omega)) ?_);refine (ih (j+1) _ a (by omega) (by simp;omega) (II u w) hm).mono fun r H=>?_;obtain⟨q,e,f,h1,O,N,M,P,B⟩:=H;rw [qJ] at B;replace B:(sL (wI (d+1)) e:Int)≤((sL (wI (d+1)) zs+(wI (d+1) (I G t l o E C F g k s p)).length:Nat):Int)+13*(f-a)+3*c:=B;exact⟨q,e,f,h1,O,N,M,by omega,by omega⟩
def EI {d:Nat}{deep:Int}(f:∀ b a,Mk b a→U (fun n=>dE n deep (.Z 1 b) a) (fun r=>∃ x e,r=(true,[x,.Z 1 b,iD e])∧xI d x∧Mk b e∧a≤e∧(((wI d x).length:Nat):Int)≤13*(e-a)+3)){b:List D}{a c:Int}(h0:0≤c)(h1:c≤100)(hm:Mk b a) :U (fun n=>X3 n deep c (.Z 1 b) a) fun r=>∃ zs e,r=(true,[.Z 1 b,iD e,.Z 11 zs])∧zs.length≤c.toNat∧(∀ x∈zs,xI d x)∧Mk b e∧a≤e∧(sL (wI d) zs:Int)≤13*(e-a)+3*c:=by obtain⟨m,rfl⟩:∃ m:Nat,c=(m:Int):=⟨c.toNat,by omega⟩;refine I5 (fun n=>FM n ..) (L4 (Ng f (m:=m) (by omega) m 0 [] a (by omega) rfl N4 hm) (fun ds h=>by obtain⟨_,_,_,h,_⟩:=h;cases h) fun ds h=>?_);obtain⟨q,zs,a,h,h1,j,hm,i,g⟩:=h;cases h;exact J5 (H8 ⟨zs,a,rfl,by omega,j,hm,i,by simp only [sL] at g;omega⟩)
def ZB:∀ (d:Nat) (deep:Int),d≤10→-1000≤deep→deep≤(d:Int)+1→∀ b a,Mk b a→U (fun n=>dE n deep (.Z 1 b) a) (fun r=>∃ x j,r=(true,[x,.Z 1 b,iD j])∧xI (d+2) x∧Mk b j∧a≤j∧(((wI (d+2) x).length:Nat):Int)≤13*(j-a)+3):=by
 intro d
 induction d with
 |zero=>intro deep q h0 h1 b a hm;refine I5 (fun n=>vF n ..) (H6 (aY1 (k:=12) hm) ?_);rintro _ _ ⟨v,a,h,g,l,hm,f,e⟩;cases h;(try simp only [Y,D.i] at f e);refine⟨rfl,?_⟩;refine J5 (I4 aX8 ?_);have e1:0≤v.tmod 9:=Int.tmod_nonneg 9 g;have t:v.tmod 9<9:=Int.tmod_lt_of_pos v (by decide);exact yG (fun h=>by omega) hm e1 (by show v.tmod 9≤11;omega) (fun h=>by have h:8<v.tmod 9:=h;omega) f (by rcases e with rfl|h;exact .inl rfl;exact .inr h)
 |succ d ih=>
  intro deep q h0 h1 b a hm;have p:2≤deep→Zk (d+1+1) deep:=by intro h b a c m s hm;rw [Q3];exact EI (fun b a hm=>ih (deep-1) (by omega) (by omega) (by omega) b a hm) m (by omega) hm
  refine I5 (fun n=>vF n deep b a) (H6 (aY1 (k:=12) hm) ?_);rintro _ _ ⟨v,a,h,g,l,hm,f,e⟩;cases h;(try simp only [Y,D.i] at f e);refine⟨rfl,?_⟩;refine J5 (K0 (fun _=>?_) fun o=>?_)
  ·have e1:0≤v.tmod 9:=Int.tmod_nonneg 9 g;have t:v.tmod 9<9:=Int.tmod_lt_of_pos v (by decide);exact yG p hm e1 (by show v.tmod 9≤11;omega) (fun h=>by have h:8<v.tmod 9:=h;omega) f (by rcases e with rfl|h;exact .inl rfl;exact .inr h)
  ·have o:=E9 o;exact yG p hm g (by show v≤11;omega) (fun _=>by omega) f e
section
variable {b b0:List D} {i0:Int} {ms its0:List D} {nm:G1}
def Gv:∀ (c:Nat) (zs:List D) (a:Int),zs.length+c≤2→(∀ x∈zs,xP x)→Mk b a→U (fun n=>fR n (.Z 1 b0) i0 (c:Int) (.Z 1 b) a (.Z 4 ms) (.str nm) (.Z 11 zs) (.Z 11 []) (.Z 11 [])) fun r=>∃ (q:Int) (f:List D) (g:Int),r=(false,[.Z 1 b0,iD i0,iD q,.Z 1 b,iD g,.Z 4 ms,.str nm,.Z 11 f,.Z 11 [],.Z 11 []])∧f.length≤zs.length+c∧(∀ x∈f,xP x)∧Mk b g∧a≤g∧(sL uI f:Int)≤sL uI zs+13*(g-a)+4*c:=by
 intro c
 induction c with
 |zero=>intro zs a hl k hm;exact I5 (fun n=>wH n ..) (L3 (H8 ⟨_,zs,a,rfl,by omega,k,hm,by omega,by omega⟩))
 |succ c ih=>
  intro zs a hl k hm;have t:i64.wrap (((c+1:Nat):Int)-1)=(c:Int):=by rw [Q3];omega
  refine I5 (fun n=>wH n ..) (I4 aX8 ?_);rw [t];(refine H6 (kV (by assumption)) ?_;rintro _ _ ⟨s,a,h,u,hm,m⟩;cases h;(try simp only [Y,D.i] at m);refine⟨rfl,?_⟩);refine J5 ?_;(refine H6 (dM 1 (by decide) (c:=1) (by decide) (by decide) (by assumption)) ?_;rintro _ _ ⟨xs,a,h,hl,l,hm,o,j⟩;cases h;(try simp only [Y,D.i] at o j);refine⟨rfl,?_⟩;replace l:∀ e∈xs,gQ 4 e:=fun e h=>iL (by decide) (l e h));obtain⟨e,rfl⟩:∃ e,xs=[e]:=by
   match xs,hl with
   |[e],_=>exact⟨e,rfl⟩
  refine J5 (I4 (B2 (by simp only [L9];omega)) ((ih _ a (by simp;omega) (II k ⟨_,e,rfl,u,l e (C3.2 rfl)⟩) hm).mono fun r w=>?_));obtain⟨q,f,g,h1,A,z,y,B,p⟩:=w;rw [qJ] at p;have t:(uI (I 2 s sR false [e] [] [] [] [] [] [])).length=(wE 4 e).length+3:=by show ([(1,sR),(1,s),(3,[61])]++wE 4 e:List Tk).length=_;simp only [G0];omega
  replace p:(sL uI f:Int)≤((sL uI zs+(uI (I 2 s sR false [e] [] [] [] [] [] [])).length:Nat):Int)+13*(g-a)+4*c:=p;simp only [sL] at j;exact⟨q,f,g,h1,by simp at A;omega,z,y,by omega,by omega⟩
def Nh (ps:List D):∀ (c:Nat) (zs:List D) (a:Int),zs.length+c≤3→(∀ x∈zs,xN oN x)→Mk b a→U (fun n=>fU n (.Z 1 b0) i0 (c:Int) (.Z 1 b) a (.Z 4 ms) (.str nm) (.Z 11 ps) (.Z 11 zs) (.Z 11 [])) fun r=>∃ (q:Int) (e:List D) (f:Int),r=(false,[.Z 1 b0,iD i0,iD q,.Z 1 b,iD f,.Z 4 ms,.str nm,.Z 11 ps,.Z 11 e,.Z 11 []])∧e.length≤zs.length+c∧(∀ x∈e,xN oN x)∧Mk b f∧a≤f∧(sL mN e:Int)≤sL mN zs+13*(f-a)+2*c:=by
 intro c
 induction c with
 |zero=>intro zs a hl l hm;exact I5 (fun n=>wJ n ..) (L3 (H8 ⟨_,zs,a,rfl,by omega,l,hm,by omega,by omega⟩))
 |succ c ih=>
  intro zs a hl l hm;have y:i64.wrap (((c+1:Nat):Int)-1)=(c:Int):=by rw [Q3];omega
  refine I5 (fun n=>wJ n ..) (I4 aX8 ?_);rw [y];refine H6 (ZC hm) ?_;rintro _ _ ⟨x,a,h,w,hm,p,o⟩;cases h;(try simp only [Y,D.i] at p o);refine⟨rfl,?_⟩;have m:=w;obtain⟨k,g,j,u,t,rfl⟩:=vH w;refine J5 (I4 (B2 (by simp only [L9];omega)) ?_);refine (ih _ a (by simp;omega) (II l m) hm).mono fun r z=>?_;obtain⟨q,e,f,h1,C,B,A,E,s⟩:=z;rw [qJ] at s;replace s:(sL mN e:Int)≤((sL mN zs+(mN (I 1 k g j u t [] [] [] [] [])).length:Nat):Int)+13*(f-a)+2*c:=s;exact⟨q,e,f,h1,by simp at C;omega,B,A,by omega,by omega⟩
end
def aT4 {nm:G1}{ps qs its:List D}:(wM (M nm ps qs its)).length≤(bif ps.isEmpty then 0 else (lW uI ps).length+3)+(lW mN qs).length+sL (wI 4) its+6:=by show ([(1,yU),(1,nm)]++((bif ps.isEmpty then [] else [(3,[35]),(3,[40])]++(lW uI ps++[(3,[41])]))++([(3,[40])]++(lW mN qs++([(3,[41]),(3,[59])]++(its.flatMap (wI 4)++[(1,rV)]))))):List Tk).length≤_;cases ps.isEmpty<;>simp only [cond_true,cond_false,G0,yA]<;>omega
def Uh {b0:List D}:∀ (c:Nat) (ms b:List D) (a:Int),ms.length+c≤3→Ul ms→Mk b a→U (fun n=>cN n (.Z 1 b0) (.int .i64 ((c:Int)-1)) (.Z 1 b) a (.Z 4 ms)) fun r=>∃ ds e,r=(false,ds)∧Y ds 4 = .Z 4 e∧Q5 cN.sk ds=true∧(ms≠[]∨c≠0→e≠[])∧e.length≤3∧Ul e∧(sL wM e:Int)≤sL wM ms+13*(300-a)+21*c:=by
 intro c;have stop:∀ (i:Int) (ms b:List D) (a:Int),ms.length≤3→Ul ms→Mk b a→(c=0∨ms≠[])→U (fun n=>cS n false ms b a b0 i) fun r=>∃ ds e,r=(false,ds)∧Y ds 4 = .Z 4 e∧Q5 cN.sk ds=true∧(ms≠[]∨c≠0→e≠[])∧e.length≤3∧Ul e∧(sL wM e:Int)≤sL wM ms+13*(300-a)+21*c:=fun i ms b a hl j hm f=>(L3 (H8 ⟨_,ms,rfl,rfl,rfl,fun h=>by rcases f with f|f;exact h.elim id (fun h=>absurd f h);exact f,hl,j,by have:=hm.2.1;have:=hm.2.2.2;omega⟩))
 induction c with
 |zero=>intro ms b a hl j hm;exact I5 (fun n=>wG n ..) (L3 (stop _ ms b a (by omega) j hm (.inl rfl)))
 |succ c ih=>
  intro ms b a hl j hm;have K:i64.wrap (((c+1:Nat):Int)-1-1)=(c:Int)-1:=by rw [Q3];omega
  have go:U (fun n=>cS n true ms b a b0 (((c+1:Nat):Int)-1)) fun r=>∃ ds e,r=(false,ds)∧Y ds 4 = .Z 4 e∧Q5 cN.sk ds=true∧(ms≠[]∨c+1≠0→e≠[])∧e.length≤3∧Ul e∧(sL wM e:Int)≤sL wM ms+13*(300-a)+21*((c+1:Nat):Int):=by
   refine (J5 (H6 (Kd (v:=(ms.length:Int)) (by omega) (by omega)) ?_));rintro _ _ h;cases h;refine⟨rfl,?_⟩;refine J5 (I4 (E6 (by show 1+1≤Z5;simp only [Z5];omega)) ?_);refine H6 (aY1 (k:=3) hm) ?_;rintro _ _ ⟨w,a,h,l,p,hm,H,G⟩;cases h;(try simp only [Y,D.i] at H G);refine⟨rfl,?_⟩;obtain⟨w,rfl⟩:∃ m:Nat,w=(m:Int):=⟨w.toNat,by omega⟩;refine J5 (L4 (Gv w [] a (by simp;omega) N4 hm) (fun ds h=>by obtain⟨_,_,_,h,_⟩:=h;cases h) fun ds h=>?_);obtain⟨q,ps,a,h,I,hp,hm,P,A⟩:=h;cases h;simp only [sL,A8,C5] at A I;have X:=Co uI ps;have W:(bif ps.isEmpty then 0 else (lW uI ps).length+3:Nat)≤(lW uI ps).length+3∧((bif ps.isEmpty then 0 else (lW uI ps).length+3:Nat)=0∨1≤ps.length):=by
    cases ps with
    |nil=>exact⟨C4 _,.inl rfl⟩
    |cons z zs=>exact⟨B9 _,.inr (by simp)⟩
   have V:=yB uI ps;refine J5 (H6 (aY1 (k:=4) hm) ?_);rintro _ _ ⟨w,a,h,l,p,hm,F,E⟩;cases h;(try simp only [Y,D.i] at F E);refine⟨rfl,?_⟩;obtain⟨w,rfl⟩:∃ m:Nat,w=(m:Int):=⟨w.toNat,by omega⟩;refine J5 (L4 (Nh ps w [] a (by simp;omega) N4 hm) (fun ds h=>by obtain⟨_,_,_,h,_⟩:=h;cases h) fun ds h=>?_);obtain⟨q,qs,a,h,s,y,hm,O,x⟩:=h;cases h;simp only [sL,A8,C5] at x s;have T:=Co mN qs;have S:=yB mN qs;refine J5 (H6 (aY1 (k:=6) hm) ?_);rintro _ _ ⟨w,a,h,l,p,hm,C,B⟩;cases h;(try simp only [Y,D.i] at C B);refine⟨rfl,?_⟩;refine J5 (H6 (EI (d:=4) (fun b a hm=>ZB 2 3 (by decide) (by decide) (by decide) b a hm) (c:=w) l (by omega) hm) ?_);rintro _ _ ⟨its,a,h,Q,R,hm,u,t⟩;cases h;(try simp only [Y,D.i] at u t);refine⟨rfl,?_⟩;refine J5 (I4 (B2 (by show ms.length+1≤L9;simp only [L9];omega)) ?_);have J:xM ms.length (M ([109]++[48+UInt8.ofNat ((ms.length:Nat):Int).toNat]) ps qs its):=⟨ps,qs,its,rfl,by omega,by omega,by omega,hp,y,R⟩;have hW:=aT4 (nm:=[109]++[48+UInt8.ofNat ((ms.length:Nat):Int).toNat]) (ps:=ps) (qs:=qs) (its:=its);have L:=ih (fun i ms b a hl j hm f=>(L3 (H8 ⟨_,ms,rfl,rfl,rfl,fun h=>by rcases f with f|f;exact h.elim id (fun h=>absurd f h);exact f,hl,j,by have:=hm.2.1;have:=hm.2.2.2;omega⟩))) (ms++[M ([109]++[48+UInt8.ofNat ((ms.length:Nat):Int).toNat]) ps qs its]) b a (by simp;omega) (Uc j J) hm;rw [← K] at L;refine L.mono fun r N=>?_;obtain⟨ds,e,h1,h2,h3,h4,h5,h6,h7⟩:=N;rw [qJ] at h7;exact⟨ds,e,h1,h2,h3,fun _=>h4 (.inl (by simp)),h5,h6,by omega⟩
  refine I5 (fun n=>wG n ..) (I4 aX8 (K0 (fun _=>go) fun o=>?_));have o:ms≠[]:=by rintro rfl;exact absurd o (by decide)
  refine (show ∀ g:Bool,U (fun n=>cS n g ms b a b0 (((c+1:Nat):Int)-1)) _ from fun g=>?_) _
  cases g with
  |true=>exact go
  |false=>exact stop _ ms b a (by omega) j hm (.inr o)
def Ug {b:List D}(l:Bytes b)(hl:b.length≤300):U (fun n=>kE n (.Z 1 b)) fun r=>∃ ms,r=(true,[.Z 4 ms])∧ms≠[]∧ms.length≤3∧Ul ms∧sL wM ms≤3963:=by refine I5 (fun n=>SU n b) (H6 (aY1 (k:=3) (a:=0) ⟨l,hl,by decide,by omega⟩) ?_);rintro _ _ ⟨v,a,h,j,g,hm,f,e⟩;cases h;(try simp only [Y,D.i] at f e);refine⟨rfl,?_⟩;obtain⟨c,rfl⟩:∃ c:Nat,v=((c+1:Nat):Int)-1:=⟨v.toNat,by omega⟩;refine J5 (L4 (Uh (c+1) [] b a (by simp;omega) Xo hm) (fun ds h=>by obtain⟨_,_,h,_⟩:=h;cases h) fun ds h=>?_);obtain⟨t,ms,h,h1,s,q,p,o,m⟩:=h;cases h;simp only [sL] at m;refine I4 s (H8 ⟨ms,?_,q (.inr (by simp)),p,o,by omega⟩);rw [h1];rfl
end
def Uq (ts:List D):Prop:=∀ y∈ts,∃ (k:Int) (t:G1) (a b c:Int),y = .agg [iD k,.str t,iD a,iD b,iD c]
def BW (R:Option (Int×Int×Int×Int))(out ts:List D):Bool×List D:=match R with
 |none=>(true,[.agg [iD 0,iD 0,iD 0],iD 0,.Z 5 (out++ts)])
 |some (a,b,c,e)=>(true,[.agg [iD a,iD b,iD c],iD e,.Z 5 []])
def aG1 (t:G1)(b a p2:Int)(c:Bool):D:= .agg [.str t,iD b,iD a,iD p2,.bool c]
def aW1 (L:Nat)(y:D):Prop:=∃ (t:G1) (b a p2:Int) (c:Bool),y=aG1 t b a p2 c∧t.length≤L
abbrev PR:=Option (Int×Int×Int×Int)×List D
def Uo (y:D)(p:PR):Prop:=Uq p.2∧p.2.length≤300∧(∀ a b c e,p.1=some (a,b,c,e)→e≠0)∧∀ out:List D,out.length+300≤12000→U (fun n=>nT n y (.Z 5 out)) fun r=>r=BW p.1 out p.2
inductive Zm:List D→List PR→Prop
 |nil:Zm [] []
 |cons {y p ys ps}:aW1 300 y→Uo y p→Zm ys ps→Zm (y::ys) (p::ps)
def cI (b:UInt8):Bool:=decide (0≤jD b [32,9,13,10] 0)
def jN {b:UInt8}(h:cI b=true):b=32∨b=9∨b=13∨b=10:=by
 have h:0≤jD b [32,9,13,10] 0:=E7 h;simp only [jD] at h
 cases h1:(32:UInt8)==b with
 |true=>exact .inl (by simpa using h1:(32:UInt8)=b).symm
 |false=>
  cases d:(9:UInt8)==b with
  |true=>exact .inr (.inl (by simpa using d:(9:UInt8)=b).symm)
  |false=>
   cases c:(13:UInt8)==b with
   |true=>exact .inr (.inr (.inl (by simpa using c:(13:UInt8)=b).symm))
   |false=>
    cases a:(10:UInt8)==b with
    |true=>exact .inr (.inr (.inr (by simpa using a:(10:UInt8)=b).symm))
    |false=>rw [h1,d,c,a] at h;exact absurd h (by decide)
def Fl (p:Int×Int)(b:UInt8):Int×Int:=bif ((b.toNat:Int)==10) then (p.1+1,1) else (p.1,p.2+1)
def mv (p:Int×Int)(s:G1):Int×Int:=s.foldl Fl p
def Room (p:Int×Int)(m:Nat):Prop:=1≤p.1∧1≤p.2∧p.1+m≤1000000∧p.2+m≤1000000
def Cn {p:Int×Int}{m:Nat}(h:Room p (m+1))(b:UInt8):Room (Fl p b) m:=by
 obtain⟨h1,d,c,a⟩:=h;unfold Fl;cases ((b.toNat:Int)==10)
 ·exact⟨h1,by show 1≤p.2+1;omega,by show p.1+(m:Int)≤1000000;omega,by show p.2+1+(m:Int)≤1000000;omega⟩
 ·exact⟨by show 1≤p.1+1;omega,by show (1:Int)≤1;omega,by show p.1+1+(m:Int)≤1000000;omega,by show 1+(m:Int)≤1000000;omega⟩
def YR:∀ {s:G1} {p:Int×Int} {m:Nat},Room p (m+s.length)→Room (mv p s) m
 |[],_,_,h=>h
 |b::s,p,m,h=>YR (s:=s) (Cn (m:=m+s.length) h b)
inductive aR7:Int×Int→G1→List D→Prop
 |nil {p s}:(∀ b∈s,cI b=true)→aR7 p s []
 |cons {p k bl w rest ts}:(∀ b∈bl,cI b=true)→w≠[]→aR7 (mv (mv p bl) w) rest ts→
   aR7 p (bl++(w++rest)) (.agg [iD k,.str w,iD 1,iD (mv p bl).1,iD (mv p bl).2]::ts)
def byte_back (b:UInt8):((b.toNat:Int)).toNat.toUInt8=b:=by rw [E1];exact UInt8.ofNat_toNat
def HE {s:G1}{j:Nat}(h:j<s.length):s[((j:Nat):Int).toNat]?.getD 0=s[j]:=by rw [E1,C2 h];rfl
def Ks (b:UInt8):U (fun n=>nE n (.int .u8 (b.toNat:Int))) fun r=>r=(true,[.bool (cI b)]):=by refine I5 (fun n=>QK n _) (H6 (tE _ _) ?_);rw [byte_back];intro _ _ h;cases h;exact⟨rfl,J5 (H8 rfl)⟩
def Rn (f:Int){p:Int×Int}{s:G1}(d:Room p s.length):U (fun n=>sB n (.agg [iD f,iD p.1,iD p.2]) (.str s)) fun r=>r=(true,[.agg [iD f,iD (mv p s).1,iD (mv p s).2]]):=by
 refine I5 (fun n=>Bh n ..) ?_;have v:s.length≤1000000:=by obtain⟨t,o,l,k⟩:=d;omega
 have loop:∀ (m j:Nat) (q:Int×Int),s.length-j=m→j≤s.length→Room q m→U (fun n=>iO n (.str s) (s.length:Int) (j:Int) f (.int .i64 q.1) (.int .i64 q.2) (0:Int) (0:Int) (0:Int)) fun r=>∃ c:Int,r=(false,[.str s,iD (s.length:Int),iD c,iD f,iD (mv q (s.drop j)).1,iD (mv q (s.drop j)).2,iD 0,iD 0,iD 0]):=by
  intro m
  induction m with
  |zero=>intro j q hm w d;refine I5 (fun n=>BJ n ..) (N8 aY0 (H8 ⟨(j:Int),?_⟩));rw [D4 (by omega)];rfl
  |succ m ih=>
   (intro j q hm w d;have b:j<s.length:=by omega);have u:i64.wrap ((j:Int)+1)=((j+1:Nat):Int):=P4;have g:=d;obtain⟨t,o,l,k⟩:=g;refine I5 (fun n=>BJ n ..) (I4 aX8 (I4 (P1 b) ?_));rw [HE b,u,drop_cons b,Q3 (x:=q.1+1) (by omega) (by omega),Q3 (x:=q.2+1) (by omega) (by omega)];have i:=ih (j+1) (Fl q s[j]) (by omega) b (Cn d _);refine K0 (fun h=>?_) fun h=>?_
   ·(have e:Fl q s[j]=(q.1+1,1):=by unfold Fl;rw [h];rfl);have a:=i;rw [e] at a;show U _ fun r=>∃ c:Int,r=(false,[.str s,iD (s.length:Int),iD c,iD f,iD (mv (Fl q s[j]) (s.drop (j+1))).1,iD (mv (Fl q s[j]) (s.drop (j+1))).2,iD 0,iD 0,iD 0]);rw [e];exact a
   ·(have e:Fl q s[j]=(q.1,q.2+1):=by unfold Fl;rw [h];rfl);have a:=i;rw [e] at a;show U _ fun r=>∃ c:Int,r=(false,[.str s,iD (s.length:Int),iD c,iD f,iD (mv (Fl q s[j]) (s.drop (j+1))).1,iD (mv (Fl q s[j]) (s.drop (j+1))).2,iD 0,iD 0,iD 0]);rw [e];exact a
 refine L4 (loop s.length 0 p rfl (C4 _) d) (fun ds h=>by obtain⟨_,h⟩:=h;cases h) fun ds h=>?_;obtain⟨c,h⟩:=h;cases h;exact J5 (H8 rfl)
def RF {s:G1}{k:Nat}(l:k≤s.length)(x:G1)(b a p2 f:Int){q:Int×Int}(e:Room q s.length) :U (fun n=>dO n (k:Int) (.str x) b a p2 (.bool false) f (.int .i64 q.1) (.int .i64 q.2) (.str s)) fun r=>
   r=(true,[.str x,iD b,iD a,iD p2,.bool false,iD f,iD (mv q (s.take k)).1,iD (mv q (s.take k)).2,.str (s.drop k)]):=by
 have g:(decide ((0:Int)≤(k:Int))&&decide ((k:Int)≤(s.length:Int))&&decide ((s.length:Int)≤(s.length:Int)))=true:=L0 (L0 aX8 aX8) (E6 (Int.le_refl _));refine I5 (fun n=>QJ n ..) (J5 ?_);simp only [E1,PC,List.drop_zero,Nat.sub_zero];refine I4 (L0 (L0 rfl aX8) aX8) (H6 (Rn f (p:=q) (s:=s.take k) ?_) ?_)
 ·obtain⟨d,c,j,i⟩:=e;refine⟨d,c,?_,?_⟩<;>simp only [D7]<;>omega
 ·intro _ _ h;cases h;exact⟨rfl,J5 (I4 g (H8 rfl))⟩
def ML (b:UInt8):Bool:=bif decide ((b.toNat:Int)≥97) then (bif decide ((b.toNat:Int)≤122) then true else (bif decide ((b.toNat:Int)≥65) then (bif decide ((b.toNat:Int)≤90) then true else ((b.toNat:Int)==95)) else ((b.toNat:Int)==95))) else (bif decide ((b.toNat:Int)≥65) then (bif decide ((b.toNat:Int)≤90) then true else ((b.toNat:Int)==95)) else ((b.toNat:Int)==95))
def JJ (b:UInt8):Bool:=bif decide ((b.toNat:Int)≥48) then decide ((b.toNat:Int)≤57) else false
def p2 (b:UInt8):Bool:=bif ML b then true else JJ b
def p3 (b:UInt8):Bool:=bif JJ b then true else ((b.toNat:Int)==95)
def p4 (b:UInt8):Bool:=bif JJ b then true else ML b
def HQ (b:UInt8):U (fun n=>gU n (.int .u8 (b.toNat:Int))) fun r=>r=(true,[.bool (ML b)]):=by refine I5 (fun n=>DT n _) ?_;unfold ML;refine K0 (fun h1=>K0 (fun d=>?_) fun d=>K0 (fun c=>K0 (fun a=>?_) fun a=>?_) fun c=>?_) fun h1=>K0 (fun c=>K0 (fun a=>?_) fun a=>?_) fun c=>?_;all_goals (refine H8 ?_;simp only [*,cond_true,cond_false])
def GV (b:UInt8):U (fun n=>gN n (.int .u8 (b.toNat:Int))) fun r=>r=(true,[.bool (JJ b)]):=by refine I5 (fun n=>HR n _) ?_;unfold JJ;refine K0 (fun h1=>?_) fun h1=>?_;all_goals (refine H8 ?_;simp only [*,cond_true,cond_false])
def aF6 (b:UInt8):U (fun n=>nG n (.int .u8 (b.toNat:Int))) fun r=>r=(true,[.bool (p2 b)]):=by
 refine I5 (fun n=>DY n _) (H6 (HQ b) ?_);unfold p2;intro _ _ h;cases h;refine⟨rfl,J5 (K0 (fun h=>H8 ?_) fun h=>H6 (GV b) ?_)⟩
 ·have h:ML b=true:=h;rw [h];rfl
 ·have h:ML b=false:=h;rw [h];intro _ _ h;cases h;exact⟨rfl,J5 (H8 rfl)⟩
def aF7 (b:UInt8):U (fun n=>jR n (.int .u8 (b.toNat:Int))) fun r=>r=(true,[.bool (p3 b)]):=by
 refine I5 (fun n=>yP n _) (H6 (GV b) ?_);unfold p3;intro _ _ h;cases h;refine⟨rfl,J5 (K0 (fun h=>H8 ?_) fun h=>H8 ?_)⟩
 ·have h:JJ b=true:=h;rw [h];rfl
 ·have h:JJ b=false:=h;rw [h];rfl
def aF8 (b:UInt8):U (fun n=>jS n (.int .u8 (b.toNat:Int))) fun r=>r=(true,[.bool (p4 b)]):=by
 refine I5 (fun n=>yQ n _) (H6 (GV b) ?_);unfold p4;intro _ _ h;cases h;refine⟨rfl,J5 (K0 (fun h=>H8 ?_) fun h=>H6 (HQ b) ?_)⟩
 ·have h:JJ b=true:=h;rw [h];rfl
 ·have h:JJ b=false:=h;rw [h];intro _ _ h;cases h;exact⟨rfl,J5 (H8 rfl)⟩
def aK (p:UInt8→Bool)(s:G1):Nat:=(s.takeWhile p).length
def uK (p:UInt8→Bool)(s:G1):aK p s≤s.length:=List.IsPrefix.length_le (List.takeWhile_prefix p)
def gW {p:UInt8→Bool}{b:UInt8}{s:G1}:aK p (b::s)=bif p b then aK p s+1 else 0:=by unfold aK;rw [List.takeWhile_cons];cases p b<;>simp
def Mm {s:G1}(e:s.length≤1048576):U (fun n=>dJ n (.str s)) fun r=>r=(true,[iD (aK p2 s:Int)]):=by
 refine I5 (fun n=>DV n s) ?_;have loop:∀ (m j:Nat),s.length-j=m→j≤s.length→U (fun n=>dY n (.str s) (j:Int)) fun r=>r=(false,[.str s,iD ((j+aK p2 (s.drop j):Nat):Int)]):=by
  intro m
  induction m with
  |zero=>intro j hm d;refine I5 (fun n=>nU n _ _) (N8 aY0 (H8 ?_));rw [D4 (by omega)];rfl
  |succ m ih=>
   (intro j hm d;have a:j<s.length:=by omega);have b:i64.wrap ((j:Int)+1)=((j+1:Nat):Int):=P4;refine I5 (fun n=>nU n _ _) (I4 aX8 (I4 (P1 a) ?_));rw [HE a,b,drop_cons a,gW];refine M3 (aF6 _) ?_
   cases hB:p2 s[j] with
   |true=>refine (ih (j+1) (by omega) a).mono fun r c=>?_;rw [c,show j+1+aK p2 (s.drop (j+1))=j+(aK p2 (s.drop (j+1))+1) by omega];rfl
   |false=>exact H8 rfl
 refine L4 (loop s.length 0 rfl (C4 _)) (fun ds h=>by cases h) fun ds h=>?_;cases h;exact J5 (H8 (by simp [Y,D.i]))
def Mo {s:G1}(e:s.length≤1048576):U (fun n=>lM n (.str s)) fun r=>r=(true,[iD (aK p3 s:Int)]):=by
 refine I5 (fun n=>DW n s) ?_;have loop:∀ (m j:Nat),s.length-j=m→j≤s.length→U (fun n=>dZ n (.str s) (j:Int)) fun r=>r=(false,[.str s,iD ((j+aK p3 (s.drop j):Nat):Int)]):=by
  intro m
  induction m with
  |zero=>intro j hm d;refine I5 (fun n=>nV n _ _) (N8 aY0 (H8 ?_));rw [D4 (by omega)];rfl
  |succ m ih=>
   (intro j hm d;have a:j<s.length:=by omega);have b:i64.wrap ((j:Int)+1)=((j+1:Nat):Int):=P4;refine I5 (fun n=>nV n _ _) (I4 aX8 (I4 (P1 a) ?_));rw [HE a,b,drop_cons a,gW];refine M3 (aF7 _) ?_
   cases hB:p3 s[j] with
   |true=>refine (ih (j+1) (by omega) a).mono fun r c=>?_;rw [c,show j+1+aK p3 (s.drop (j+1))=j+(aK p3 (s.drop (j+1))+1) by omega];rfl
   |false=>exact H8 rfl
 refine L4 (loop s.length 0 rfl (C4 _)) (fun ds h=>by cases h) fun ds h=>?_;cases h;exact J5 (H8 (by simp [Y,D.i]))
def Mq {s:G1}(e:s.length≤1048576):U (fun n=>lN n (.str s)) fun r=>r=(true,[iD (aK p4 s:Int)]):=by
 refine I5 (fun n=>DX n s) ?_;have loop:∀ (m j:Nat),s.length-j=m→j≤s.length→U (fun n=>eD n (.str s) (j:Int)) fun r=>r=(false,[.str s,iD ((j+aK p4 (s.drop j):Nat):Int)]):=by
  intro m
  induction m with
  |zero=>intro j hm d;refine I5 (fun n=>nX n _ _) (N8 aY0 (H8 ?_));rw [D4 (by omega)];rfl
  |succ m ih=>
   (intro j hm d;have a:j<s.length:=by omega);have b:i64.wrap ((j:Int)+1)=((j+1:Nat):Int):=P4;refine I5 (fun n=>nX n _ _) (I4 aX8 (I4 (P1 a) ?_));rw [HE a,b,drop_cons a,gW];refine M3 (aF8 _) ?_
   cases hB:p4 s[j] with
   |true=>refine (ih (j+1) (by omega) a).mono fun r c=>?_;rw [c,show j+1+aK p4 (s.drop (j+1))=j+(aK p4 (s.drop (j+1))+1) by omega];rfl
   |false=>exact H8 rfl
 refine L4 (loop s.length 0 rfl (C4 _)) (fun ds h=>by cases h) fun ds h=>?_;cases h;exact J5 (H8 (by simp [Y,D.i]))
def Jr {s:G1}(e:s.length≤1048576):U (fun n=>sC n (.str s)) fun r=>r=(true,[iD (aK cI s:Int)]):=by
 refine I5 (fun n=>Bi n s) ?_;have loop:∀ (m j:Nat),s.length-j=m→j≤s.length→U (fun n=>jT n (.str s) (j:Int)) fun r=>r=(false,[.str s,iD ((j+aK cI (s.drop j):Nat):Int)]):=by
  intro m
  induction m with
  |zero=>intro j hm d;refine I5 (fun n=>BK n _ _) (N8 aY0 (H8 ?_));rw [D4 (by omega)];rfl
  |succ m ih=>
   (intro j hm d;have a:j<s.length:=by omega);have b:i64.wrap ((j:Int)+1)=((j+1:Nat):Int):=P4;refine I5 (fun n=>BK n _ _) (I4 aX8 (I4 (P1 a) ?_));rw [HE a,b,drop_cons a,gW];refine M3 (Ks _) ?_
   cases hB:cI s[j] with
   |true=>refine (ih (j+1) (by omega) a).mono fun r c=>?_;rw [c,show j+1+aK cI (s.drop (j+1))=j+(aK cI (s.drop (j+1))+1) by omega];rfl
   |false=>exact H8 rfl
 refine L4 (loop s.length 0 rfl (C4 _)) (fun ds h=>by cases h) fun ds h=>?_;cases h;exact J5 (H8 (by simp [Y,D.i]))
def Xt (r:G1):Prop:=∀ b t,r=b::t→cI b=true
def Ql {p:UInt8→Bool}(hp:∀ b,cI b=true→p b=false){r:G1}(h:Xt r):aK p r=0:=by
 cases r with
 |nil=>rfl
 |cons b t=>rw [gW,hp b (h b t rfl)];rfl
def ZX (b:UInt8)(h:cI b=true):p2 b=false:=by rcases jN h with rfl|rfl|rfl|rfl<;>rfl
def ZY (b:UInt8)(h:cI b=true):p3 b=false:=by rcases jN h with rfl|rfl|rfl|rfl<;>rfl
def Aa (b:UInt8)(h:cI b=true):p4 b=false:=by rcases jN h with rfl|rfl|rfl|rfl<;>rfl
def tM {p:UInt8→Bool}:∀ {w r:G1},(∀ b∈w,p b=true)→aK p (w++r)=w.length+aK p r
 |[],r,_=>by simp
 |b::w,r,h=>by rw [List.cons_append,gW,h b (B8 ..),tM (w:=w) fun x a=>h x (C0 _ a)];simp only [cond_true,A0];omega
def KL {p:UInt8→Bool}:∀ {w r:G1},w.length≤aK p (w++r)→∀ b∈w,p b=true
 |[],_,_=>fun b a=>by simp at a
 |c::w,r,h=>by
  rw [List.cons_append,gW] at h
  cases hc:p c with
  |false=>rw [hc] at h;simp at h
  |true=>
   rw [hc] at h;intro b a;rcases B7.1 a with rfl|a
   ·exact hc
   ·exact KL (w:=w) (r:=r) (by simp only [cond_true,A0] at h;omega) b a
def xL (s:G1):Nat:=match s.drop (aK p3 s) with
 |[]=>aK p3 s
 |b::t=>bif ((b.toNat:Int)==39) then aK p3 s+(1+aK p4 t) else aK p3 s
def Lz {s:G1}(b:s.length≤1048576):U (fun n=>eK n (.str s)) fun r=>r=(true,[iD (xL s:Int)]):=by
 refine I5 (fun n=>DU n s) (H6 (Mo b) ?_);have c:=uK p3 s;unfold xL;generalize aK p3 s=k at c;intro _ _ h;cases h;refine⟨rfl,J5 (K0 (fun hl=>?_) fun hl=>?_)⟩
 ·have hl:k<s.length:=by have:=E7 hl;simp only [Y,D.i,List.getD_cons_zero] at this;omega
  have a:i64.wrap ((k:Int)+1)=((k+1:Nat):Int):=P4;rw [drop_cons hl];simp only [Y,D.i,List.getD_cons_zero,a,E1,PC,C2 hl,Option.getD_some];refine I4 (P1 hl) ?_
  cases hq:((s[k].toNat:Int)==39) with
  |false=>exact H8 rfl
  |true=>refine J5 (I4 (L0 (L0 aX8 aX8) (E6 (Int.le_refl _))) (H6 (Mq (by simp;omega)) ?_));have d:=uK p4 (s.drop (k+1));simp only [F9] at d;intro _ _ h;cases h;refine⟨rfl,J5 (H8 ?_)⟩;show (true,[D.int .i64 (i64.wrap ((k:Int)+i64.wrap (1+((aK p4 (s.drop (k+1)):Nat):Int))))])=(true,[D.int .i64 ((k+(1+aK p4 (s.drop (k+1))):Nat):Int)]);rw [Q3 (x:=1+((aK p4 (s.drop (k+1)):Nat):Int)) (by omega) (by omega),Q3];rfl
 ·have hl:¬ k<s.length:=by have:=E9 hl;simp only [Y,D.i,List.getD_cons_zero] at this;omega
  rw [D4 (by omega)];exact H8 rfl
def De {p:UInt8→Bool}:∀ {w r0 r:G1},aK p (w++r0)<w.length→aK p (w++r)=aK p (w++r0)
 |[],_,_,h=>by simp at h
 |c::w,r0,r,h=>by
  rw [List.cons_append,gW] at h;rw [List.cons_append,List.cons_append,gW,gW]
  cases hc:p c with
  |false=>rfl
  |true=>rw [hc] at h;have h:aK p (w++r0)+1<w.length+1:=h;rw [De (w:=w) (r0:=r0) (r:=r) (by omega)]
def Bz {w r0 r:G1}(h:xL (w++r0)=w.length)(c:Xt r):xL (w++r)=w.length:=by
 unfold xL at h;by_cases hw:w.length≤aK p3 (w++r0)
 ·have d:=KL hw;have a:aK p3 (w++r)=w.length:=by rw [tM d,Ql ZY c];omega
  unfold xL;rw [a,List.drop_left]
  cases r with
  |nil=>rfl
  |cons b t=>(have:((b.toNat:Int)==39)=false:=by rcases jN (c b t rfl) with rfl|rfl|rfl|rfl<;>rfl);simp only [this,cond_false]
 ·have a:=De (r:=r) (show aK p3 (w++r0)<w.length by omega);unfold xL;rw [a];generalize aK p3 (w++r0)=k at h hw;have e:k<w.length:=by omega
  have f:∀ x:G1,(w++x).drop k=w[k]::(w.drop (k+1)++x):=fun x=>by rw [List.drop_append_of_le_length (by omega),drop_cons e];rfl
  rw [f] at h ⊢
  cases hq:((w[k].toNat:Int)==39) with
  |false=>simp only [hq,cond_false] at h;omega
  |true=>simp only [hq,cond_true] at h ⊢;have hl:(w.drop (k+1)).length=w.length-(k+1):=F9 ..;have d:=KL (p:=p4) (w:=w.drop (k+1)) (r:=r0) (by omega);rw [tM d,Ql Aa c];omega
def PX {sub:G1}:∀ (s:G1) (j:Nat),0≤bZ sub s j→∀ c∈sub,c∈s
 |[],j,h=>by
  unfold bZ at h
  cases sub with
  |nil=>intro c a;simp at a
  |cons _ _=>simp at h
 |b::l,j,h=>by
  unfold bZ at h
  cases hp:sub.isPrefixOf (b::l) with
  |true=>intro c a;exact (List.isPrefixOf_iff_prefix.1 hp).subset a
  |false=>rw [hp] at h;intro c a;exact C0 _ (PX l (j+1) h c a)
def Bp:G1:=[32,60,60,60,32,62,62,62,32,60,60,32,62,62,32,60,61,32,62,61,32,61,61,32,33,61,32,38,38,32,124,124,32,126,38,32,126,124,32,126,94,32,94,126,32]
def iY (t:G1):Bool:=!decide (0≤bZ [32] t 0)&&decide (0≤bZ ([32]++t++[32]) Bp 0)
def ZV:∀ (s:G1) (j:Nat),(32:UInt8)∈s→0≤bZ [32] s j
 |[],_,h=>by simp at h
 |b::l,j,h=>by
  unfold bZ
  cases hp:[(32:UInt8)].isPrefixOf (b::l) with
  |true=>exact Int.natCast_nonneg _
  |false=>
   rcases B7.1 h with rfl|h
   ·simp at hp
   ·exact ZV l (j+1) h
def uZ {t:G1}{b:UInt8}(a:b∈t)(h:cI b=true):iY t=false:=by
 unfold iY;rcases jN h with rfl|rfl|rfl|rfl
 ·rw [E6 (ZV t 0 a)];rfl
 all_goals
  cases hd:decide (0≤bZ ([32]++t++[32]) Bp 0) with
  |false=>simp
  |true=>have:=PX Bp 0 (E7 hd) _ (B5 _ (B4 _ a));simp [Bp] at this
def BQ (b:UInt8):Bool:=decide (jD b [43,45,42,47,37,38,124,94,126,33,60,62,63,58,61,40,41,91,93,123,125,59,44,46,35,64] 0≥0)
def bQ (s:G1):Nat→Nat
 |0=>0
 |1=>0
 |j+2=>bif iY (s.take (j+2)) then j+2 else bQ s (j+1)
def lU (s:G1):Nat:=match bQ s (min 3 s.length) with
 |0=>bif BQ (s.headD 0) then 1 else 0
 |k+1=>k+1
def MA {s:G1}(e:s.length≤1048576):∀ (j:Nat),j≤s.length→U (fun n=>fZ n (.str s) (j:Int)) fun r=>(bQ s j≠0∧r=(true,[iD (bQ s j:Int)]))∨(bQ s j=0∧∃ b,r=(false,[.str s,iD b]))
 |0,_=>I5 (fun n=>nF n _ _) (L3 (H8 (.inr ⟨rfl,_,rfl⟩)))
 |1,_=>I5 (fun n=>nF n _ _) (L3 (H8 (.inr ⟨rfl,_,rfl⟩)))
 |j+2,f=>by
  have ih:=MA e (j+1) (by omega);have c:i64.wrap (((j+2:Nat):Int)-1)=((j+1:Nat):Int):=by rw [Q3];omega
  have a:(true&&decide ((0:Int)≤((j+2:Nat):Int))&&decide (((j+2:Nat):Int)≤(s.length:Int)))=true:=L0 (L0 rfl aX8) aX8;have d:(s.drop 0).take (((j+2:Nat):Int).toNat-0)=s.take (j+2):=by rw [List.drop_zero,E1,Nat.sub_zero]
  have hl:(s.take (j+2)).length≤1048576:=by rw [D7];omega
  refine I5 (fun n=>nF n _ _) (I4 aX8 ?_);rw [d,c];refine I4 a (M3 (fY (by omega) _) ?_);unfold bQ iY
  cases h1:decide (0≤bZ [32] (s.take (j+2)) 0) with
  |true=>exact L3 ih
  |false=>
   refine J5 (I4 a (I4 (E6 (by simp only [Z5];omega)) (I4 (E6 (by simp [Z5];omega)) (M3 (fY (by simp) _) ?_))))
   cases h2:decide (0≤bZ ([32]++s.take (j+2)++[32]) Bp 0) with
   |true=>exact I4 h2 (H8 (.inl ⟨by simp,rfl⟩))
   |false=>exact N8 h2 ih
def Xg {s:G1}(c:s.length≤1048576)(h0:0<s.length):U (fun n=>pZ n (.str s)) fun r=>r=(true,[iD (lU s:Int)]):=by
 refine I5 (fun n=>LN n s) ?_;have hm:min (3:Int) (s.length:Int)=((min 3 s.length:Nat):Int):=by omega
 rw [hm];unfold lU;refine L4 (MA c (min 3 s.length) (by omega)) (fun ds h=>?_) fun ds h=>?_
 ·rcases h with ⟨h1,a⟩|⟨_,_,h⟩
  ·cases hd:bQ s (min 3 s.length) with
   |zero=>exact absurd hd h1
   |succ k=>rw [hd] at a;exact a
  ·cases h
 ·rcases h with ⟨_,h⟩|⟨h1,_,h⟩
  ·cases h
  ·cases h;rw [h1]
   cases s with
   |nil=>simp at h0
   |cons b s=>
    refine J5 (I4 (L0 rfl (E6 (by show (0:Int)<((b::s).length:Int);omega))) (H6 (tE _ _) ?_));show ∀ x ds,_=(true,[D.int .i64 (jD ((b.toNat:Int)).toNat.toUInt8 _ 0)])→_;rw [byte_back];intro _ _ h;cases h;refine⟨rfl,J5 ?_⟩
    cases a:BQ b with
    |true=>exact I4 a (H8 (by simp [a]))
    |false=>exact N8 a (H8 (by simp [a]))
def yC (s:G1):∀ j,bQ s j≠1∧bQ s j≤j
 |0=>⟨by simp [bQ],by simp [bQ]⟩
 |1=>⟨by simp [bQ],by simp [bQ]⟩
 |j+2=>by
  have ih:=yC s (j+1);unfold bQ
  cases iY (s.take (j+2)) with
  |true=>exact⟨by simp,by simp⟩
  |false=>exact⟨ih.1,by have:=ih.2;show bQ s (j+1)≤j+2;omega⟩
def VI {a:UInt8}{r0 r:G1}(h:lU (a::r0)=1)(f:Xt r):lU (a::r)=1:=by
 have h1:BQ a=true:=by
  unfold lU at h;have:=yC (a::r0) (min 3 (a::r0).length)
  cases c:bQ (a::r0) (min 3 (a::r0).length) with
  |zero=>
   rw [c] at h
   cases ho:BQ a with
   |true=>rfl
   |false=>simp [ho] at h
  |succ k=>rw [c] at h this;have h:k+1=1:=h;exact absurd h this.1
 have c:bQ (a::r) (min 3 (a::r).length)=0:=by
  cases r with
  |nil=>rfl
  |cons x r=>
   have d:=f x r rfl;have e:iY [a,x]=false:=uZ (b:=x) (by simp) d
   cases r with
   |nil=>show (bif iY [a,x] then 2 else 0)=0;rw [e];rfl
   |cons y r=>(have g:iY [a,x,y]=false:=uZ (b:=x) (by simp) d;have:min 3 (a::x::y::r).length=3:=by simp only [A0];omega);rw [this];show (bif iY [a,x,y] then 3 else (bif iY [a,x] then 2 else 0))=0;rw [g,e];rfl
 unfold lU;rw [c];simp [h1]
def VJ {a b:UInt8}{r0 r:G1}(h:lU (a::b::r0)=2)(d:Xt r):lU (a::b::r)=2:=by
 have hl:iY [a,b]=true:=by
  cases ho:iY [a,b] with
  |true=>rfl
  |false=>
   exfalso;unfold lU at h
   cases r0 with
   |nil=>(have e:bQ [a,b] (min 3 [a,b].length)=0:=by show (bif iY [a,b] then 2 else 0)=0;rw [ho];rfl);rw [e] at h;have h:(bif BQ a then 1 else 0)=2:=h;revert h;cases BQ a<;>decide
   |cons c r0=>
    (have hm:min 3 (a::b::c::r0).length=3:=by simp only [A0];omega);have e:bQ (a::b::c::r0) 3=(bif iY [a,b,c] then 3 else (bif iY [a,b] then 2 else 0)):=rfl;rw [hm,e,ho] at h
    cases h3:iY [a,b,c] with
    |true=>rw [h3] at h;exact absurd (show 3=2 from h) (by decide)
    |false=>rw [h3] at h;have h:(bif BQ a then 1 else 0)=2:=h;revert h;cases BQ a<;>decide
 unfold lU
 cases r with
 |nil=>
  have e:bQ [a,b] (min 3 [a,b].length)=2:=by show (bif iY [a,b] then 2 else 0)=2;rw [hl];rfl
  rw [e]
 |cons x r=>
  have hm:min 3 (a::b::x::r).length=3:=by simp only [A0];omega
  have e:bQ (a::b::x::r) 3=(bif iY [a,b,x] then 3 else (bif iY [a,b] then 2 else 0)):=rfl;rw [hm,e,hl,uZ (t:=[a,b,x]) (b:=x) (by simp) (d x r rfl)];rfl
def MB {a b c:UInt8}{r0 r:G1}(h:lU (a::b::c::r0)=3):lU (a::b::c::r)=3:=by
 have hm:∀ t:G1,min 3 (a::b::c::t).length=3:=fun t=>by simp only [A0];omega
 have e:∀ t:G1,bQ (a::b::c::t) 3=(bif iY [a,b,c] then 3 else (bif iY [a,b] then 2 else 0)):=fun _=>rfl;unfold lU at h ⊢;rw [hm,e] at h ⊢;exact h
def Ba (c:UInt8):Bool:=bif ML c then true else ((c.toNat:Int)==36)
def Qt (c:UInt8):Bool:=bif JJ c then true else ((c.toNat:Int)==39)
def Bx (s:G1)(n:Nat):List D:=bif decide ((n:Int)>40) then [iD 0,iD 0,iD 9] else (bif s.take n==[36] then [iD 0,iD 0,iD 9] else [iD 1,iD (n:Int),iD 0])
def WL (c:UInt8)(t:G1):(true&&decide ((0:Int)<((c::t).length:Int)))=true:=L0 rfl (E6 (by simp only [A0];omega))
def VN {c:UInt8}{t:G1}(g:(c::t).length≤1048576)(e:Ba c=true):U (fun n=>iX n (.str (c::t))) fun r=>r=(true,Bx (c::t) (1+aK p2 t)):=by
 have j:=uK p2 t;have d:t.length≤1048576:=by simp only [A0] at g;omega
 have k:((c::t).drop 1).take (((c::t).length:Int).toNat-1)=t:=by show t.take _=t;rw [List.take_of_length_le (by simp only [A0];omega)]
 have name:U (fun n=>bif (true&&decide ((1:Int)≤((c::t).length:Int))&&decide (((c::t).length:Int)≤((c::t).length:Int))) then (bc dJ.I6 (dJ n (.str (((c::t).drop 1).take (((c::t).length:Int).toNat-1)))) fun a=>bif (decide ((i64.wrap ((1:Int)+(Y a 0).i))>(40:Int))) then (ok [(0:Int),(0:Int),(9:Int)]) else (gd (true&&decide ((0:Int)≤(i64.wrap ((1:Int)+(Y a 0).i)))&&decide ((i64.wrap ((1:Int)+(Y a 0).i))≤((c::t).length:Int))) (bif ((((c::t).drop 0).take ((i64.wrap ((1:Int)+(Y a 0).i)).toNat-0))==([36]:G1)) then (ok [(0:Int),(0:Int),(9:Int)]) else (ok [(1:Int),(.int .i64 (i64.wrap ((1:Int)+(Y a 0).i))),(0:Int)])))) else none) fun r=>r=(true,Bx (c::t) (1+aK p2 t)):=by
  rw [k];refine I4 (IG (by simp)) (H6 (Mm d) ?_);intro _ _ h;cases h;have f:i64.wrap ((1:Int)+((aK p2 t:Nat):Int))=((1+aK p2 t:Nat):Int):=by rw [Q3];omega
  simp only [Y,D.i,List.getD_cons_zero,f,E1,List.drop_zero,Nat.sub_zero];refine⟨trivial,J5 ?_⟩;unfold Bx
  cases h1:decide (((1+aK p2 t:Nat):Int)>40) with
  |true=>exact J5 (H8 rfl)
  |false=>
   refine L3 (I4 (L0 (L0 rfl aX8) (E6 (by simp only [A0];omega))) ?_)
   cases b:(c::t).take (1+aK p2 t)==[36] with
   |true=>exact J5 (H8 rfl)
   |false=>exact L3 (H8 rfl)
 refine I5 (fun n=>uY n (c::t)) (I4 (WL c t) (M3 (HQ c) (K0 (fun _=>name) fun h1=>K0 (fun _=>name) fun b=>?_)));exfalso;have h1:ML c=false:=h1;have b:((c.toNat:Int)==36)=false:=b;unfold Ba at e;rw [h1,b] at e;cases e
def Dp {c:UInt8}{t:G1}(q:(c::t).length≤1048576)(a:Ba c=false)(d:Qt c=true)(f:xL (c::t)≤(c::t).length){x:D}{e:Int}(hp:U (fun n=>fF n (.str ((c::t).take (xL (c::t))))) fun r=>r=(true,[x,iD e]))(p:∃ w ws m l,x = .agg [iD w,.Z 1 ws,.bool m,.bool l]) :U (fun n=>iX n (.str (c::t))) fun r=>r=(true,bif (e !=0) then [iD 0,iD 0,iD 7] else [iD 2,iD (xL (c::t):Int),iD 0]):=by
 obtain⟨w,ws,m,l,rfl⟩:=p;have num:U (fun n=>bc eK.I6 (eK n (.str (c::t))) fun b=>bif (true&&decide ((0:Int)≤(Y b 0).i)&&decide ((Y b 0).i≤((c::t).length:Int))) then (bc fF.I6 (fF n (.str (((c::t).drop 0).take ((Y b 0).i.toNat-0)))) fun o=>bif ((Y o 1).i !=(0:Int)) then (ok [(0:Int),(0:Int),(7:Int)]) else (ok [(2:Int),(.int .i64 (Y b 0).i),(0:Int)])) else none) fun r=>r=(true,bif (e !=0) then [iD 0,iD 0,iD 7] else [iD 2,iD (xL (c::t):Int),iD 0]):=by
  refine H6 (Lz q) ?_;generalize xL (c::t)=k at hp f;intro _ _ h;cases h;simp only [Y,D.i,List.getD_cons_zero,E1,List.drop_zero,Nat.sub_zero];refine⟨trivial,J5 (I4 (L0 (L0 rfl aX8) aX8) (M3 hp ?_))⟩
  cases he:e !=0 with
  |true=>exact I4 he (H8 rfl)
  |false=>exact N8 he (H8 rfl)
 unfold Ba at a;have h1:ML c=false:=by cases h:ML c with|false=>rfl|true=>rw [h] at a;cases a
 have s:((c.toNat:Int)==36)=false:=by rw [h1] at a;exact a
 refine I5 (fun n=>uY n (c::t)) (I4 (WL c t) (M3 (HQ c) (N8 h1 (N8 s (M3 (GV c) (K0 (fun _=>num) fun j=>K0 (fun _=>num) fun g=>?_))))));exfalso;have j:JJ c=false:=j;have g:((c.toNat:Int)==39)=false:=g;unfold Qt at d;rw [j,g] at d;cases d
def VO {c:UInt8}{t:G1}(e:(c::t).length≤1048576)(b:Ba c=false)(a:Qt c=false) :U (fun n=>iX n (.str (c::t))) fun r=>r=(true,bif ((lU (c::t):Int)==0) then [iD 0,iD 0,iD 7] else [iD 3,iD (lU (c::t):Int),iD 0]):=by
 unfold Ba at b;have h1:ML c=false:=by cases h:ML c with|false=>rfl|true=>rw [h] at b;cases b
 have g:((c.toNat:Int)==36)=false:=by rw [h1] at b;exact b
 unfold Qt at a;have d:JJ c=false:=by cases h:JJ c with|false=>rfl|true=>rw [h] at a;cases a
 have f:((c.toNat:Int)==39)=false:=by rw [d] at a;exact a
 refine I5 (fun n=>uY n ..) (I4 (WL c t) (M3 (HQ c) (N8 h1 (N8 g (M3 (GV c) (N8 d (N8 f (M3 (Xg e (by simp)) ?_))))))))
 cases h5:((lU (c::t):Int)==0) with
 |true=>exact I4 h5 (H8 rfl)
 |false=>exact N8 h5 (H8 rfl)
structure Wd (w:G1) (k:Int):Prop where
 ne:w≠[]
 nb:∀ b∈w,cI b=false
 go:∀ r,Xt r→(w++r).length≤1048576→U (fun n=>iX n (.str (w++r))) fun x=>x=(true,[iD k,iD (w.length:Int),iD 0])
def US {p:UInt8→Bool}(hp:∀ b,cI b=true→p b=false){b:UInt8}(h:p b=true):cI b=false:=by
 cases hb:cI b with
 |false=>rfl
 |true=>rw [hp b hb] at h;cases h
def yE (p:UInt8→Bool):∀ (t:G1),∀ b∈t.take (aK p t),p b=true
 |[]=>fun b a=>by simp at a
 |c::t=>by
  rw [gW]
  cases hc:p c with
  |false=>intro b a;simp at a
  |true=>
   intro b a;rcases B7.1 (show b∈c::t.take (aK p t) from a) with rfl|a
   ·exact hc
   ·exact yE p t b a
def Oy (b:UInt8)(h:cI b=true):Ba b=false:=by rcases jN h with rfl|rfl|rfl|rfl<;>rfl
def Ux (b:UInt8)(h:cI b=true):((b.toNat:Int)==39)=false:=by rcases jN h with rfl|rfl|rfl|rfl<;>rfl
def Kt (b:UInt8)(h:cI b=true):BQ b=false:=by rcases jN h with rfl|rfl|rfl|rfl<;>rfl
def Iv (s:G1):xL s≤s.length:=by
 unfold xL;have h1:=uK p3 s;generalize aK p3 s=k at h1
 cases hd:s.drop k with
 |nil=>exact h1
 |cons b t=>
  have hl:t.length+1=s.length-k:=by have:=congrArg List.length hd;simpa using this.symm
  have a:=uK p4 t
  cases hq:((b.toNat:Int)==39) with
  |false=>simp only [hq,cond_false];exact h1
  |true=>simp only [hq,cond_true];omega
def Wh (s:G1):∀ b∈s.take (xL s),cI b=false:=by
 have h0:∀ b∈s.take (aK p3 s),cI b=false:=fun b c=>US ZY (yE p3 s b c);unfold xL;have h1:=uK p3 s;generalize aK p3 s=k at h0 h1
 cases hd:s.drop k with
 |nil=>exact h0
 |cons b t=>
  cases hq:((b.toNat:Int)==39) with
  |false=>simp only [hq,cond_false];exact h0
  |true=>
   simp only [hq,cond_true];intro x a;rw [← List.take_append_drop k s,hd,List.take_append] at a;rcases D3.1 a with a|a
   ·rw [List.take_of_length_le (by simp;omega)] at a;exact h0 x a
   ·rw [D7,Nat.min_eq_left h1,show k+(1+aK p4 t)-k=aK p4 t+1 by omega,List.take_succ_cons] at a;rcases B7.1 a with rfl|a
    ·exact US (p:=fun b=>(b.toNat:Int)==39) Ux hq
    ·exact US Aa (yE p4 t x a)
def U.agree {t:Nat→Out}{a b:Bool×List D}(h:U t fun r=>r=a)(h':U t fun r=>r=b):a=b:=by obtain⟨r,⟨h1,c⟩,_⟩:=(h.same h').run;exact h1.symm.trans c
def Cy {a:UInt8}{r0:G1}(h:lU (a::r0)=1):BQ a=true:=by
 have h:=VI (r:=[]) h (fun _ _ h=>by cases h);have e:lU [a]=(bif BQ a then 1 else 0):=rfl;rw [e] at h
 cases ho:BQ a with
 |true=>rfl
 |false=>rw [ho] at h;cases h
def Cz {a b:UInt8}{r0:G1}(h:lU (a::b::r0)=2):iY [a,b]=true:=by
 have h:=VJ (r:=[]) h (fun _ _ h=>by cases h)
 cases hl:iY [a,b] with
 |true=>rfl
 |false=>
  exfalso;have e:bQ [a,b] (min 3 [a,b].length)=0:=by show (bif iY [a,b] then 2 else 0)=0;rw [hl];rfl
  unfold lU at h;rw [e] at h;have h:(bif BQ a then 1 else 0)=2:=h;revert h;cases BQ a<;>decide
def TE {a b c:UInt8}{r0:G1}(h:lU (a::b::c::r0)=3):iY [a,b,c]=true:=by
 have h:=MB (r:=[]) h
 cases hl:iY [a,b,c] with
 |true=>rfl
 |false=>
  exfalso;have e:bQ [a,b,c] (min 3 [a,b,c].length)=(bif iY [a,b] then 2 else 0):=by show (bif iY [a,b,c] then 3 else (bif iY [a,b] then 2 else 0))=_;rw [hl];rfl
  unfold lU at h;rw [e] at h
  cases h2:iY [a,b] with
  |true=>rw [h2] at h;exact absurd (show 2=3 from h) (by decide)
  |false=>rw [h2] at h;have h:(bif BQ a then 1 else 0)=3:=h;revert h;cases BQ a<;>decide
def Bn {w:G1}(h:iY w=true):∀ b∈w,cI b=false:=fun b a=>by
 cases hx:cI b with
 |false=>rfl
 |true=>rw [uZ a hx] at h;cases h
def Dq {c:UInt8}{t:G1}(y:(c::t).length≤1048576){k:Int}{m:Nat}(h:U (fun n=>iX n (.str (c::t))) fun r=>r=(true,[iD k,iD (m:Int),iD 0])) :1≤m∧m≤(c::t).length∧Wd ((c::t).take m) k:=by
 have hm:1≤m∧m≤(c::t).length:=by obtain⟨r,⟨h1,M,L,N,p,E,J⟩,_⟩:=(h.same (Xm y (by simp))).run;rw [h1] at p;simp only [C7,List.cons.injEq,D.int.injEq,true_and,and_true,Int.natCast_inj] at p;obtain⟨_,rfl,rfl⟩:=p;exact⟨J rfl,E⟩
 refine⟨hm.1,hm.2,?_⟩;obtain⟨I,H⟩:=hm
 cases hc:Ba c with
 |true=>
  have f:=U.agree h (VN y hc);unfold Bx at f;have B:=yE p2 t;have A:=uK p2 t;generalize aK p2 t=q at f B A
  cases h1:decide (((1+q:Nat):Int)>40) with
  |true=>rw [h1] at f;simp at f
  |false=>
   rw [h1] at f
   cases p:(c::t).take (1+q)==[36] with
   |true=>rw [p] at f;simp at f
   |false=>
    (rw [p] at f;simp only [cond_false,C7,List.cons.injEq,D.int.injEq,true_and,and_true,Int.natCast_inj] at f;obtain⟨rfl,rfl⟩:=f;have e:(c::t).take (1+q)=c::t.take q:=by rw [Nat.add_comm,List.take_succ_cons]);rw [e] at p ⊢;have hl:(t.take q).length=q:=by rw [D7];omega
    refine⟨by simp,fun b i=>?_,fun r j i=>?_⟩
    ·rcases B7.1 i with rfl|i
     ·exact US Oy hc
     ·exact US ZX (B b i)
    ·refine (VN (c:=c) (t:=t.take q++r) i hc).mono fun x u=>?_;rw [u,tM B,Ql ZX j,hl];unfold Bx;have K:(c::(t.take q++r)).take (1+(q+0))=c::t.take q:=by
      rw [Nat.add_zero,Nat.add_comm,List.take_succ_cons,List.take_append_of_le_length (by omega),List.take_of_length_le (by omega)]
     rw [K,p,Nat.add_zero,h1];simp only [cond_false,A0,hl,Nat.add_comm]
 |false=>
  obtain⟨w,v⟩:∃ w,(c::t).take m=c::w:=⟨t.take (m-1),by cases m with|zero=>omega|succ m=>rfl⟩;have g:(c::w).length=m:=by rw [← v,D7];omega
  have o:(c::w)++(c::t).drop m=c::t:=by rw [← v,List.take_append_drop]
  rw [v]
  cases hn:Qt c with
  |true=>
   have C:=Iv (c::t);obtain⟨r,j,hp⟩:=aL9 (Ck (s:=(c::t).take (xL (c::t))) (by rw [D7];omega));obtain⟨w',ws,G,F,e,rfl,_⟩:=j;have f:=U.agree h (Dp y hc hn C hp ⟨w',ws,G,F,rfl⟩)
   cases he:e !=0 with
   |true=>rw [he] at f;simp at f
   |false=>rw [he] at f;simp only [cond_false,C7,List.cons.injEq,D.int.injEq,true_and,and_true,Int.natCast_inj] at f;obtain⟨rfl,a⟩:=f;rw [← a,v] at hp;refine⟨by simp,fun b i=>Wh (c::t) b (by rw [← a,v];exact i),fun r j i=>?_⟩;have l:xL (c::w++r)=(c::w).length:=Bz (r0:=(c::t).drop m) (by rw [o,← a,g]) j;have l:xL (c::(w++r))=(c::w).length:=l;have z:(c::(w++r)).take (c::w).length=c::w:=List.take_left (l₁:=c::w);refine (Dp (c:=c) (t:=w++r) i hc hn (Iv _) (by rw [l,z];exact hp) ⟨w',ws,G,F,rfl⟩).mono fun x u=>?_;rw [u,he,l];rfl
  |false=>
   have f:=U.agree h (VO y hc hn)
   cases he:((lU (c::t):Int)==0) with
   |true=>rw [he] at f;simp at f
   |false=>
    rw [he] at f;simp only [cond_false,C7,List.cons.injEq,D.int.injEq,true_and,and_true,Int.natCast_inj] at f;obtain⟨rfl,a⟩:=f;have E:m≤3:=by
     have h1:=yC (c::t) (min 3 (c::t).length);rw [a];unfold lU
     cases hd:bQ (c::t) (min 3 (c::t).length) with
     |zero=>cases BQ ((c::t).headD 0)<;>simp
     |succ k=>rw [hd] at h1;simp only;omega
    rw [← o] at a;generalize (c::t).drop m=r0 at a;have key:(∀ b∈c::w,cI b=false)∧∀ r,Xt r→lU (c::(w++r))=m:=by
     cases w with
     |nil=>have:m=1:=g.symm;subst this;exact⟨fun b i=>by rw [C3.1 i];exact US Kt (Cy a.symm),fun r j=>VI a.symm j⟩
     |cons b w=>
      cases w with
      |nil=>have:m=2:=g.symm;subst this;exact⟨Bn (Cz a.symm),fun r j=>VJ a.symm j⟩
      |cons d w=>
       cases w with
       |nil=>have:m=3:=g.symm;subst this;exact⟨Bn (TE a.symm),fun r j=>MB a.symm⟩
       |cons _ _=>simp only [A0] at g;omega
    (refine⟨by simp,key.1,fun r j i=>?_⟩;refine (VO (c:=c) (t:=w++r) i hc hn).mono fun x u=>?_;rw [u,key.2 r j,g];have:((m:Int)==0)=false:=by simp;omega);rw [this];rfl
def Gp (k:Int)(w:G1)(a b c:Int):D:= .agg [iD k,.str w,iD a,iD b,iD c]
def TN (ts:List D):Prop:=∀ y∈ts,∃ (k:Int) (w:G1) (a b c:Int),y=Gp k w a b c∧Wd w k
def TN.append {a b:List D}(e:TN a)(d:TN b):TN (a++b):=fun y c=>(D3.1 c).elim (e y) (d y)
def TN.nil:TN []:=fun y a=>by simp at a
def Gu (a b c e:Int)(all:List D):Bool×List D:=(true,[.agg [iD a,iD b,iD c],iD e,.Z 5 all])
inductive Nn:Int×Int→G1→List D→Prop
 |nil {p}:Nn p [] []
 |cons {p k bl w rest ts}:(∀ b∈bl,cI b=true)→Wd w k→Xt rest→Nn (mv (mv p bl) w) rest ts→Nn p (bl++(w++rest)) (Gp k w 1 (mv p bl).1 (mv p bl).2::ts)
def Ti {w rest:G1}{k:Int}(h:Wd w k):aK cI (w++rest)=0:=by
 cases w with
 |nil=>exact absurd rfl h.ne
 |cons b w=>rw [List.cons_append,gW,h.nb b (B8 ..)];rfl
def words (ts:List D):List G1:=ts.map fun y=>(y.at_ 1).s
inductive Xq:Int×Int→G1→List D→Prop
 |nil {p bl}:(∀ b∈bl,cI b=true)→Xq p bl []
 |cons {p k bl w rest ts}:(∀ b∈bl,cI b=true)→Wd w k→Xt rest→Xq (mv (mv p bl) w) rest ts→Xq p (bl++(w++rest)) (Gp k w 1 (mv p bl).1 (mv p bl).2::ts)
def Th {bl:G1}(h:∀ b∈bl,cI b=true):aK cI bl=bl.length:=by have:=tM (r:=[]) h;rw [D5] at this;exact this
def Zx:∀ {q:Int×Int} {s:G1} {ts:List D},Xq q s ts→∀ (x:G1) (b a p2:Int) (out:List D),Room q s.length→out.length+ts.length≤12000→U (fun n=>eM n (0:Int) (.Z 5 out) (.Z 5 []) (0:Int) (0:Int) (0:Int) (.str s) (1:Int) (.int .i64 q.1) (.int .i64 q.2) (.str x) b a p2 (.bool false)) fun r=>r=BW none out ts:=by
 intro q s ts h
 induction h with
 |@nil q bl i=>intro x b a p2 out e hl;have g:=e;obtain⟨z,y,u,v⟩:=e;have f:=Th i;have d:=RF (s:=bl) (k:=bl.length) (B9 _) x b a p2 1 g;rw [List.take_length,List.drop_length] at d;refine I5 (fun n=>yR n ..) (H6 (Jr (by omega)) ?_);rw [f];intro _ _ h;cases h;refine⟨rfl,J5 (M3 d (J5 (H8 (by simp [BW]))))⟩
 |@cons q k bl w rest ts i l E _ ih=>
  intro x b a p2 out e hl;have c:(bl++(w++rest)).length=bl.length+(w.length+rest.length):=by simp only [A7]
  have g:=e;obtain⟨z,y,u,v⟩:=g;rw [c] at u;have B:1≤w.length:=List.length_pos_iff.2 l.ne;have f:aK cI (bl++(w++rest))=bl.length:=by rw [tM i,Ti l];omega
  have j:Room (mv q bl) (w++rest).length:=YR (s:=bl) (m:=(w++rest).length) (by rw [Nat.add_comm,← A7];exact e);have t:Room (mv (mv q bl) w) rest.length:=YR (s:=w) (m:=rest.length) (by rw [Nat.add_comm,← A7];exact j);have A:(w++rest==[])=false:=by
   cases hw:w with
   |nil=>exact absurd hw l.ne
   |cons _ _=>rfl
  have d:U (fun n=>dO n (bl.length:Int) (.str x) b a p2 (.bool false) (1:Int) (.int .i64 q.1) (.int .i64 q.2) (.str (bl++(w++rest)))) fun r=>r=(true,[.str x,iD b,iD a,iD p2,.bool false,iD 1,iD (mv q bl).1,iD (mv q bl).2,.str (w++rest)]):=by have h:=RF (s:=bl++(w++rest)) (k:=bl.length) (by rw [c];omega) x b a p2 1 e;rw [List.take_left,List.drop_left] at h;exact h
  have p:U (fun n=>dO n (w.length:Int) (.str x) b a p2 (.bool false) (1:Int) (.int .i64 (mv q bl).1) (.int .i64 (mv q bl).2) (.str (w++rest))) fun r=>r=(true,[.str x,iD b,iD a,iD p2,.bool false,iD 1,iD (mv (mv q bl) w).1,iD (mv (mv q bl) w).2,.str rest]):=by have h:=RF (s:=w++rest) (k:=w.length) (by rw [A7];omega) x b a p2 1 j;rw [List.take_left,List.drop_left] at h;exact h
  simp only [A0] at hl;refine I5 (fun n=>yR n ..) (H6 (Jr (by rw [c];omega)) ?_);rw [f];intro _ _ h;cases h;refine⟨rfl,J5 (M3 d (N8 A (M3 (l.go rest E (by rw [A7];omega)) (J5 (N8 ?_ (L3 (I4 (L0 (L0 rfl (E6 ?_)) (E6 ?_)) (I4 (B2 (by simp only [L9];omega)) (H6 p ?_)))))))))⟩
  ·(have:(out.length:Int)≠12000:=by omega);simpa using this
  ·show (0:Int)≤(w.length:Int);omega
  ·show (w.length:Int)≤((w++rest).length:Int);rw [A7];omega
  intro _ _ h;cases h;refine⟨rfl,J5 ?_⟩;have o:(((w++rest).drop 0).take (((w.length:Nat):Int).toNat-0))=w:=by rw [List.drop_zero,E1,Nat.sub_zero,List.take_left]
  have C:=ih x b a p2 (out++[Gp k w 1 (mv q bl).1 (mv q bl).2]) t (by simp only [A7,C9];omega);show U (fun n=>eM n (0:Int) (.Z 5 (out++[.agg [iD k,.str (((w++rest).drop 0).take (((w.length:Nat):Int).toNat-0)),iD 1,iD (mv q bl).1,iD (mv q bl).2]])) (.Z 5 []) (0:Int) (0:Int) (0:Int) (.str rest) (1:Int) (.int .i64 (mv (mv q bl) w).1) (.int .i64 (mv (mv q bl) w).2) (.str x) b a p2 (.bool false)) _;rw [o];refine C.mono fun r e=>?_;rw [e];simp [BW]
def Kn {s:G1}{ts:List D}(c:s.length≤900000)(a:ts.length≤12000)(b:Xq (1,1) s ts):U (fun n=>tF n (.Z 5 [.agg [.str s,iD 1,iD 1,iD 1,.bool false]])) fun r=>r=Gu 0 0 0 0 ts:=by
 have hp:U (fun n=>nT n (.agg [.str s,iD 1,iD 1,iD 1,.bool false]) (.Z 5 [])) fun r=>r=Gu 0 0 0 0 ts:=by
  refine I5 (fun n=>XM n ..) (L4 (Zx b s 1 1 1 [] ⟨Int.le_refl _,Int.le_refl _,by show (1:Int)+_≤_;omega,by show (1:Int)+_≤_;omega⟩ (by simpa using a)) (fun ds h=>?_) fun ds h=>?_)
  ·rw [h];simp [BW,Gu]
  ·cases h
 refine I5 (fun n=>Fi n _) ?_;have loop:U (fun n=>lL n (.Z 5 [.agg [.str s,iD 1,iD 1,iD 1,.bool false]]) (1:Int) (0:Int) (0:Int) (0:Int) (0:Int) (.Z 5 [])) fun r=>r=(false,[.Z 5 [.agg [.str s,iD 1,iD 1,iD 1,.bool false]],iD 1,iD 1,iD 0,iD 0,iD 0,.Z 5 ts]):=by refine I5 (fun n=>DS n ..) (J5 (J5 (J5 (M3 hp (L3 (I5 (fun n=>DS n ..) (L3 (H8 rfl))))))))
 refine L4 loop (fun ds h=>by cases h) fun ds h=>?_;cases h;exact J5 (H8 rfl)
end Go.Proofs.YtalibicpmfbieaaGreatDoor
