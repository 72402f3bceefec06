import Derived.Test.YtalibicpmfbieaaGreatDoorM4
import Derived.Test.YtalibicpmfbieaaGreatDoorM3
namespace Go.Proofs.YtalibicpmfbieaaGreatDoor
open Go.AE
open IntKind (i64 u64)
set_option linter.all false
section
def aJ2 (fs:List D):List Tk:=bif fs.isEmpty then [] else [(3,[61])]++wE 4 (x0 fs)
def nR (nm ty:G1)(sg:Bool)(es fs:List D):List Tk:=(bif sg&&!(ty==kP) then [(1,pI)] else [])++(qV (es.take 2)++([(1,nm)]++(qV (es.drop 2)++aJ2 fs)))
def Wf (nm ty:G1)(sg:Bool)(es fs:List D):nW nm ty sg es fs=(bif ty==dC then [(1,oW),(1,mQ)] else [(1,ty)])++nR nm ty sg es fs:=rfl
def Wg:(dP.all fun t=>([[91],pI,[35],[40],[41]]:List G1).all fun w=>!(t==w))=true:=by kernel_rfl
def Yp {t w:G1}(h:t∈dP)(a:w∈([[91],pI,[35],[40],[41]]:List G1)):(t==w&&(1:Int) !=2)=false:=by have:=B6.1 (B6.1 Wg t h) w a;rw [D8] at this;rw [this];rfl
section
variable {l:List D} (hl:l.length≤1000000)
include hl
def JD {es:List D}(J:es.length=0∨es.length=2)(m:∀ e∈es,gQ 4 e){i:Nat}(f:K6 l i (qV es)){k:Int}{t:G1}{a b e:Int}(g:l[i+(qV es).length]? = some (tk k t a b e))(F:(t==[91]&&k !=2)=false)(d c O V W:Int)(A:0≤d)(h:d≤32) :U (fun n=>Q7 n (.Z 5 l) (i:Int) d c O V W (0:Int)) fun r=>∃ j,kY es j∧r=(true,[.Z 5 l,iD ((i+(qV es).length:Nat):Int),iD d,iD c,iD O,iD V,iD W,iD 0,.Z 6 j]):=by
 match es,J,m,f,g with
 |[],_,_,_,g=>have g:l[i]? = some (tk k t a b e):=g;refine I5 (fun n=>iH n ..) (M3 (I7 d c O V W g F) ?_);exact J5 (H8 ⟨[],kY.nil,rfl⟩)
 |[x,y],_,m,f,_=>
  have s:=m x (by simp);have q:=m y (by simp);have f:K6 l i ((3,[91])::(wE 4 x++((3,[58])::(wE 4 y++[(3,[93])])))):=f;obtain⟨a1,b1,e1,h1⟩:=K1 f;obtain⟨I,B⟩:=L6.1 (M0 f);obtain⟨a4,b4,e4,E⟩:=K1 B;obtain⟨H,G⟩:=L6.1 (M0 B);obtain⟨a6,b6,e6,C⟩:=K1 G;have K:i+(qV [x,y]).length=i+1+(wE 4 x).length+1+(wE 4 y).length+1:=by show i+([(3,[91])]++(wE 4 x++([(3,[58])]++(wE 4 y++[(3,[93])]))):List Tk).length=_;simp only [G0];omega
  refine I5 (fun n=>iH n l i d c O V W 0) (M3 (M6 d c O V W hl h1 rfl) (L3 (H6 (AW hl s I E rfl d c O V W A h) ?_)));rintro _ ds ⟨u,z,h0⟩;cases h0;have p:=z;obtain⟨T,M,R,a7,b7,e7,P,_,rfl⟩:=dW z;refine⟨rfl,J5 (M3 (M8 d c O V W hl [[58]] (by decide) (S7 E rfl)) (H6 (AW hl q H C rfl d c O V W A h) ?_))⟩;rintro _ ds ⟨w,v,h0⟩;cases h0;have o:=v;obtain⟨S,L,Q,a8,b8,X,N,_,rfl⟩:=dW v;refine⟨rfl,J5 (M3 (M8 d c O V W hl [[93]] (by decide) (S7 C rfl)) (H8 ⟨_,kY.two s q p o,?_⟩))⟩;rw [K];rfl
def QP {T:NT}(hT:∀ p∈T,p.1∈([MG,mQ,kP,RU,oW,dC]:List G1)∧(p.2.2=true→p.1=mQ∨p.1=dC)∧(p.1=mQ∨p.2.1≤2)∧(p.1=kP→p.2.1=0∧p.2.2=false)) {nm ty:G1} {q:Nat} {f sg:Bool} {es fs:List D} (hn:nm∈dP) (hm:(ty,q,f)∈T) (hi:ty=kP→sg=true) (hq:es.length≤q) (hes:es.length=0∨es.length=2∨es.length=4) (A:fs=[]∨(f=true∧fs.length=1∧es.length≤2)) (he:∀ e∈es,gQ 4 e) (hf:∀ e∈fs,gQ 4 e) {i:Nat} (w:K6 l i (nR nm ty sg es fs)) {t:G1} {a b e:Int} (o:l[i+(nR nm ty sg es fs).length]? = some (tk 3 t a b e)) (hc:cl t=true) (q0 q1 q2 d c O V W:Int) (hd:0≤d) (M:d≤32) :U (fun n=>Q2 n (.agg [iD q0,iD q1,iD q2]) (.str ty) (.Z 5 l) (i:Int) d c O V W (0:Int)) fun r=>∃ es' fs',kY es es'∧kY fs fs'∧r=(true,[AJ 1 q0 q1 q2 nm ty sg es' fs' [] [] [] [] [],.Z 5 l,iD ((i+(nR nm ty sg es fs).length:Nat):Int),iD d,iD c,iD O,iD V,iD W,iD 0]):=by
 obtain⟨hty,hff,hqq,hii⟩:=hT _ hm;have hg:=rG (vN hn);by_cases hint:ty=kP
 ·subst hint;obtain⟨rfl,rfl⟩:=hii rfl;have hsg:=hi rfl;subst hsg;have:es=[]:=E5.1 (by omega);subst this;have:fs=[]:=by rcases A with h|⟨h,_⟩;exact h;cases h
  subst this;have w:K6 l i [(1,nm)]:=w;obtain⟨a1,b1,e1,h1⟩:=K1 w;exact I5 (fun n=>kK n ..) (L3 (M3 (fJ d c O V W hl h1 hg) (L3 (L3 (L3 (H8 ⟨[],[],kY.nil,kY.nil,rfl⟩))))))
 have S:(ty==kP)=false:=F4.2 hint;have eR:nR nm ty sg es fs=(bif sg then [(1,pI)] else [])++(qV (es.take 2)++([(1,nm)]++(qV (es.drop 2)++aJ2 fs))):=by unfold nR;rw [S,Bool.not_false,Bool.and_true]
 have H:(es.take 2).length=0∨(es.take 2).length=2:=by rw [D7];omega
 have hes2:(es.drop 2).length=0∨(es.drop 2).length=2:=by rw [F9];omega
 have he1:∀ e∈es.take 2,gQ 4 e:=fun e h=>he e (List.mem_of_mem_take h);have he2:∀ e∈es.drop 2,gQ 4 e:=fun e h=>he e (List.mem_of_mem_drop h);have fin:∀ (j:Nat),K6 l j (aJ2 fs)→j+(aJ2 fs).length=i+(nR nm ty sg es fs).length→U (fun n=>H9 n (.str [61]) (.Z 5 l) (j:Int) d c O V W (0:Int)) fun r=>(fs=[]∧r=(true,[.bool false,.Z 5 l,iD ((i+(nR nm ty sg es fs).length:Nat):Int),iD d,iD c,iD O,iD V,iD W,iD 0]))∨(∃ x,fs=[x]∧gQ 4 x∧r=(true,[.bool true,.Z 5 l,iD ((j+1:Nat):Int),iD d,iD c,iD O,iD V,iD W,iD 0])∧U (fun n=>I9 n (.Z 5 l) ((j+1:Nat):Int) d c O V W (0:Int)) fun r=>∃ y,OE 4 x y∧r=(true,[y,.Z 5 l,iD ((i+(nR nm ty sg es fs).length:Nat):Int),iD d,iD c,iD O,iD V,iD W,iD 0])):=by
  intro j N J;have L:fs.length≤1:=by rcases A with rfl|⟨_,h,_⟩;exact C4 _;omega
  match fs,L,hf,N,J,o with
  |[],_,_,_,J,o=>have J:j=i+(nR nm ty sg es []).length:=J;rw [← J] at o ⊢;exact (I7 d c O V W o (Pj hc rfl 3)).mono fun r h=> .inl ⟨rfl,h⟩
  |[x],_,hf,N,J,o=>(have N:K6 l j ((3,[61])::wE 4 x):=N;have J:j+(1+(wE 4 x).length)=i+(nR nm ty sg es [x]).length:=by rw [← J];show _=j+([(3,[61])]++wE 4 x:List Tk).length;simp only [G0]);obtain⟨a1,b1,e1,h1⟩:=K1 N;have G:=hf x (by simp);have X:=AW hl G (M0 N) (SA o (by omega)) hc d c O V W hd M;rw [show j+1+(wE 4 x).length=i+(nR nm ty sg es [x]).length from by omega] at X;exact (M6 d c O V W hl h1 rfl).mono fun r h=> .inr ⟨x,rfl,G,h,X⟩
 rw [eR] at w;obtain⟨hs,w⟩:=L6.1 w;obtain⟨B,w⟩:=L6.1 w;have w:=fM w;obtain⟨a1,b1,e1,h1⟩:=K1 w;obtain⟨hb2,I⟩:=L6.1 (M0 w);have P:((bif sg then [(1,pI)] else []):List Tk).length=(bif sg then 1 else 0):=by cases sg<;>rfl
 rw [P] at B h1 hb2 I;have E:i+(nR nm ty sg es fs).length=i+(bif sg then 1 else 0)+(qV (es.take 2)).length+1+(qV (es.drop 2)).length+(aJ2 fs).length:=by rw [eR];simp only [A7,P,A0,A8];omega
 have hS:U (fun n=>H9 n (.str pI) (.Z 5 l) (i:Int) d c O V W (0:Int)) fun r=>r=(true,[.bool sg,.Z 5 l,iD ((i+(bif sg then 1 else 0):Nat):Int),iD d,iD c,iD O,iD V,iD W,iD 0]):=by
  cases sg with
  |true=>obtain⟨a2,b2,e2,h2⟩:=K1 (show K6 l i [(1,pI)] from hs);exact M6 d c O V W hl h2 rfl
  |false=>
   rcases H with h0|h0
   ·have:es.take 2=[]:=E5.1 h0;rw [this] at h1;exact I7 d c O V W (show l[i]? = _ from h1) (Yp hn (by simp))
   ·match es.take 2,h0,B with
    |[x,y],_,B=>obtain⟨a2,b2,e2,h2⟩:=K1 (show K6 l i ((3,[91])::_) from B);exact I7 d c O V W h2 rfl
 have hB1:=JD hl H he1 B h1 (Yp hn (by simp)) d c O V W hd M;have hN:=XQ (d:=d) (c:=c) (O:=O) (V:=V) (W:=W) hl h1 hg;have hJ:∀ g,kY (es.take 2) g→g.length=(es.take 2).length:=fun g h=>h.2.1.symm;refine I5 (fun n=>kK n q0 q1 q2 ty l i d c O V W 0) (I4 (by show (!(ty==kP))=true;rw [S];rfl) (M3 hS ?_));refine H6 hB1 ?_;rintro _ ds ⟨g,u,h0⟩;cases h0;have hle1:=hJ g u;refine⟨rfl,J5 (M3 hN ?_)⟩;by_cases hreg:ty=mQ
 ·subst hreg;refine J5 (K0 (fun s=>?_) fun s=>?_)
  ·have s:(g.length:Int)>0:=E7 s;have K:∃ k t a b e,l[i+(bif sg then 1 else 0)+(qV (es.take 2)).length+1+(qV (es.drop 2)).length]? = some (tk k t a b e)∧(t==[91]&&k !=2)=false:=by
    have L:fs.length≤1:=by rcases A with rfl|⟨_,h,_⟩;exact C4 _;omega
    match fs,L,I,o,E with
    |[],_,_,o,E=>exact⟨3,t,a,b,e,SA o (by rw [E];rfl),Pj hc rfl 3⟩
    |[x],_,I,_,_=>obtain⟨a2,b2,e2,h2⟩:=K1 (show K6 l _ ((3,[61])::_) from I);exact⟨3,[61],a2,b2,e2,h2,rfl⟩
   obtain⟨k9,t9,a9,b9,e9,g9,c9⟩:=K;refine H6 (JD hl hes2 he2 hb2 g9 c9 d c O V W hd M) ?_;rintro _ ds ⟨v,hE2,h0⟩;cases h0;have hle2:=hE2.2.1;have C:kY es (g++v):=by
    refine⟨⟨by omega,he⟩,?_⟩;have:=u.2.app hE2.2
    rwa [List.take_append_drop] at this
   have hlen:(g++v).length=es.length:=C.2.1.symm;refine⟨rfl,J5 (I4 (B2 (by show g.length+v.length≤L9;rw [← A7,hlen];simp only [L9];omega)) (J5 (K0 (fun h4=>?_) fun h4=>?_)))⟩
   ·refine H6 (fin _ I (by rw [E])) ?_;rintro _ ds (⟨m,h0⟩|⟨x,m,G,h0,X⟩)
    ·cases h0;subst m;exact⟨rfl,J5 (L3 (H8 ⟨g++v,[],C,kY.nil,rfl⟩))⟩
    ·cases h0;refine⟨rfl,J5 (J5 (H6 X ?_))⟩;rintro _ ds ⟨y,F,h0⟩;cases h0;have z:=F;obtain⟨k7,t7,r7,a7,b7,e7,s7,_,rfl⟩:=dW F;subst m;exact⟨rfl,J5 (H8 ⟨g++v,_,C,kY.one G z,rfl⟩)⟩
   ·have h4:=E9 h4;have h4:¬ (((g++v).length:Int)<4):=h4;have:fs=[]:=by
     rcases A with h|⟨_,_,h⟩
     ·exact h
     ·omega
    subst this;refine H8 ⟨g++v,[],C,kY.nil,?_⟩;rw [E];rfl
  ·have s:¬ ((g.length:Int)>0):=E9 s;have h10:g=[]:=E5.1 (by omega);have h00:es=[]:=E5.1 (by rw [D7] at hle1;omega);subst h10 h00;refine J5 (J5 (H6 (fin _ I (by rw [E];rfl)) ?_));rintro _ ds (⟨m,h0⟩|⟨x,m,G,h0,X⟩)
   ·cases h0;subst m;exact⟨rfl,J5 (L3 (H8 ⟨[],[],kY.nil,kY.nil,rfl⟩))⟩
   ·cases h0;refine⟨rfl,J5 (J5 (H6 X ?_))⟩;rintro _ ds ⟨y,F,h0⟩;cases h0;have z:=F;obtain⟨k7,t7,r7,a7,b7,e7,s7,_,rfl⟩:=dW F;subst m;exact⟨rfl,J5 (H8 ⟨[],_,kY.nil,kY.one G z,rfl⟩)⟩
 ·have Q:(ty==mQ)=false:=F4.2 hreg;have hq2:q≤2:=by rcases hqq with h|h;exact absurd h hreg;exact h
  have e0:es.drop 2=[]:=D4 (by omega);have et:es.take 2=es:=List.take_of_length_le (by omega);rw [et] at u;have hle:g.length=es.length:=u.2.1.symm;rw [e0] at I E;refine N8 Q (N8 Q (K0 (fun ho=>?_) fun ho=>?_))
  ·refine I4 (E6 (by show (g.length:Int)<4;omega)) (H6 (fin _ I (by rw [E];rfl)) ?_);rintro _ ds (⟨m,h0⟩|⟨x,m,G,h0,X⟩)
   ·cases h0;subst m;exact⟨rfl,J5 (L3 (H8 ⟨g,[],u,kY.nil,rfl⟩))⟩
   ·cases h0;refine⟨rfl,J5 (J5 (H6 X ?_))⟩;rintro _ ds ⟨y,F,h0⟩;cases h0;have z:=F;obtain⟨k7,t7,r7,a7,b7,e7,s7,_,rfl⟩:=dW F;subst m;exact⟨rfl,J5 (H8 ⟨g,_,u,kY.one G z,rfl⟩)⟩
  ·have R:(ty==dC)=false:=ho;have:fs=[]:=by
    rcases A with h|⟨h,_⟩
    ·exact h
    ·rcases hff h with h|h
     ·exact absurd h hreg
     ·rw [show ty=dC from h] at R;exact absurd R (by decide)
   subst this;refine H8 ⟨g,[],u,kY.nil,?_⟩;rw [E];rfl
def Cj {nm ty:G1}(q:nm∈dP){x:D}(p:gQ 4 x){i:Nat}(g:K6 l i ([(1,nm),(3,[61])]++wE 4 x)){t:G1}{a b e:Int}(j:l[i+(2+(wE 4 x).length)]? = some (tk 3 t a b e))(u:cl t=true)(m k q2 d c O V W:Int)(s:0≤d)(h:d≤32) :U (fun n=>Z6 n (.agg [iD m,iD k,iD q2]) (.str ty) (.Z 5 l) (i:Int) d c O V W (0:Int)) fun r=>∃ y,OE 4 x y∧r=(true,[AJ 2 m k q2 nm ty false [y] [] [] [] [] [] [],.Z 5 l,iD ((i+(2+(wE 4 x).length):Nat):Int),iD d,iD c,iD O,iD V,iD W,iD 0]):=by obtain⟨a1,I,e1,h1⟩:=K1 g;obtain⟨a2,H,F,w⟩:=K1 (M0 g);have v:K6 l (i+1+1) (wE 4 x):=M0 (M0 g);have X:=AW hl p v (SA j (by omega)) u d c O V W s h;refine I5 (fun n=>mH n ..) (M3 (fJ d c O V W hl h1 (rG (vN q))) (M3 (M8 d c O V W hl [[61]] (by decide) (S7 w rfl)) (H6 X ?_)));rintro _ ds ⟨y,o,h0⟩;cases h0;have f:=o;obtain⟨C,z,B,J,G,E,A,_,rfl⟩:=dW o;refine⟨rfl,J5 (H8 ⟨_,f,?_⟩)⟩;rw [show i+(2+(wE 4 x).length)=i+1+1+(wE 4 x).length from by omega];rfl
def No (l:List D)(d c O V W:Int)(zs:List D)(z:D):Prop:=∀ (i:Nat) (acc xs:List D),(∀ y∈z::zs,xC y)→K6 l i (lW cW (z::zs)++[(3,[41])])→(z::zs).length+acc.length≤100→Rl OC xs acc→
  U (fun n=>P2 n true l (i:Int) d c O V W 0 acc) fun r=>∃ ys,Rl OC (xs++z::zs) ys∧r=(false,[.Z 5 l,iD ((i+(lW cW (z::zs)).length:Nat):Int),iD d,iD c,iD O,iD V,iD W,iD 0,.Z 5 ys])
set_option maxHeartbeats 1000000 in
def Hp (d c O V W:Int)(hd:0≤d)(G:d≤32)(zs:List D)(z:D)(hK:∀ e a,zs=e::a→No l d c O V W a e):No l d c O V W zs z:=by
  intro i acc xs I g L J;obtain⟨nm,es,ez,E,F,he⟩:=I z (B8 ..);subst ez;have H:cW (D.agg [.str nm,.Z 6 es])=[(3,[46]),(1,nm),(3,[40])]++(lW (wE 4) es++[(3,[41])]):=rfl;have q:(cW (D.agg [.str nm,.Z 6 es])).length=4+(lW (wE 4) es).length:=by rw [H];simp only [G0];omega
  have h:∃ rest,lW cW (D.agg [.str nm,.Z 6 es]::zs)++[(3,[41])]=[(3,[46]),(1,nm),(3,[40])]++(lW (wE 4) es++((3,[41])::rest))∧rest=(match zs with|[]=>[(3,[41])]|e::a=>(3,[44])::(lW cW (e::a)++[(3,[41])])):=by
   cases zs with
   |nil=>exact⟨_,by show cW _++[(3,[41])]=_;rw [H];simp,rfl⟩
   |cons e a=>exact⟨_,by show (cW _++((3,[44])::lW cW (e::a)))++[(3,[41])]=_;rw [H];simp,rfl⟩
  obtain⟨rest,h0,f⟩:=h;rw [h0] at g;have g:K6 l i ((3,[46])::(1,nm)::(3,[40])::(lW (wE 4) es++((3,[41])::rest))):=g;obtain⟨a1,j,e1,h1⟩:=K1 g;obtain⟨a2,b2,e2,h2⟩:=K1 (M0 g);obtain⟨a3,b3,e3,h3⟩:=K1 (M0 (M0 g));obtain⟨t,N⟩:=L6.1 (M0 (M0 (M0 g)));obtain⟨a4,b4,e4,p⟩:=K1 N;have m:=M0 N;have S:∀ (b:List D) (v u:List D),kY es b→v=[tk 3 [46] a1 j e1,.Z 5 l,iD (i:Int),iD d,iD c,iD O,iD V,iD W,iD 0]→u=[.str nm,.Z 5 l,iD ((i+1+1:Nat):Int),iD d,iD c,iD O,iD V,iD W,iD 0]→U (fun n=>aP n l ((i+1+1+1+(lW (wE 4) es).length:Nat):Int) d c O V W 0 b acc u v) fun r=>∃ ys,Rl OC (xs++D.agg [.str nm,.Z 6 es]::zs) ys∧r=(false,[.Z 5 l,iD ((i+(lW cW (D.agg [.str nm,.Z 6 es]::zs)).length:Nat):Int),iD d,iD c,iD O,iD V,iD W,iD 0,.Z 5 ys]):=by
   intro b v u k C B;subst C B;have M:OC (D.agg [.str nm,.Z 6 es]) (AC nm a1 j e1 b):=⟨nm,a1,j,e1,es,b,rfl,rfl,k⟩;simp only [A0] at L;refine (M3 (M8 d c O V W hl [[41]] (by decide) (S7 p rfl)) (I4 (B2 (by simp only [L9];omega)) ?_))
   cases zs with
   |nil=>subst f;obtain⟨R,Q,P,o⟩:=K1 m;refine M3 (I7 d c O V W o rfl) (J5 (H8 ⟨acc++[AC nm a1 j e1 b],J.snoc M,?_⟩));rw [show i+(lW cW [D.agg [.str nm,.Z 6 es]]).length=i+1+1+1+(lW (wE 4) es).length+1 from by show i+(cW _).length=_;rw [q];omega];rfl
   |cons e a=>subst f;obtain⟨R,Q,P,o⟩:=K1 m;have m:=M0 m;have K:=hK e a rfl (i+1+1+1+(lW (wE 4) es).length+1+1) (acc++[AC nm a1 j e1 b]) (xs++[D.agg [.str nm,.Z 6 es]]) (fun y s=>I y (C0 _ s)) m (by simp only [G0] at L ⊢;omega) (J.snoc M);refine M3 (M6 d c O V W hl o rfl) ?_;refine L3 (I5 (fun n=>bV n ..) (J5 (I4 (E6 (by show ((acc++[AC nm a1 j e1 b]).length:Int)>0;rw [A7,C9];omega)) ?_)));refine K.mono fun r ⟨ys,g1,g2⟩=>⟨ys,by rw [C1] at g1;exact g1,?_⟩;rw [g2,show i+(lW cW (D.agg [.str nm,.Z 6 es]::e::a)).length=i+1+1+1+(lW (wE 4) es).length+1+1+(lW cW (e::a)).length from by show i+(cW _++((3,[44])::lW cW (e::a))).length=_;rw [A7,q,A0];omega]
  refine (J5 (M3 (O3 d c O V W h1) (M3 (M8 d c O V W hl [[46]] (by decide) (S7 h1 rfl)) (M3 (fJ d c O V W hl h2 (rG (vN E))) (M3 (M8 d c O V W hl [[40]] (by decide) (S7 h3 rfl)) ?_)))));rcases es with _|⟨x,_|⟨x2,er⟩⟩
  ·have p:l[i+1+1+1]? = _:=p;exact M3 (bG d c O V W [41] p) (L3 (S [] _ _ kY.nil rfl rfl))
  ·have A:=he x (by simp);have t:K6 l (i+1+1+1) (wE 4 x):=t;obtain⟨X,T,R,Q,P,o,h6⟩:=HD 4 x A _ t;refine M3 (bG d c O V W [41] o) ?_;refine I4 (by show (!(T==[41]&&X !=2))=true;rw [Ia h6 (by simp [aJ4])];rfl) (H6 (AW hl A t p rfl d c O V W hd G) ?_);rintro _ ds ⟨y,s,h0⟩;cases h0;have w:=s;obtain⟨k7,t7,r7,a7,b7,e7,s7,_,rfl⟩:=dW s;exact⟨rfl,J5 (S _ _ _ (kY.one A w) rfl rfl)⟩
  ·exact absurd F (by simp)
def Vb (d c O V W:Int)(f:0≤d)(a:d≤32):∀ (zs:List D) (z:D),No l d c O V W zs z:=by
 intro zs
 induction zs with
 |nil=>exact fun z=>Hp hl d c O V W f a [] z fun _ _ h=>(by cases h)
 |cons e b ih=>exact fun z=>Hp hl d c O V W f a (e::b) z fun i g h=>(by cases h;exact ih e)
def Aj {zs:List D}(q:zs.length≤10)(m:∀ y∈zs,xC y){i:Nat}(f:K6 l i (rA zs))(d c O V W:Int)(s:0≤d)(j:d≤32) :U (fun n=>W1 n (.Z 5 l) (i:Int) d c O V W (0:Int)) fun r=>∃ ys,Rl OC zs ys∧r=(true,[.Z 5 l,iD ((i+(rA zs).length:Nat):Int),iD d,iD c,iD O,iD V,iD W,iD 0,.Z 5 ys]):=by
 have f:K6 l i ((3,[40])::(lW cW zs++[(3,[41])])):=f;obtain⟨a1,C,e1,h1⟩:=K1 f;have f:=M0 f;obtain⟨_,g⟩:=L6.1 f;obtain⟨a9,A,w,g⟩:=K1 g;have u:i+(rA zs).length=i+1+(lW cW zs).length+1:=by simp only [rA,G0];omega
 refine I5 (fun n=>mF n ..) (M3 (M8 d c O V W hl [[40]] (by decide) (S7 h1 rfl)) (L4 (Q:=fun r=>∃ ys,Rl OC zs ys∧r=(false,[.Z 5 l,iD ((i+1+(lW cW zs).length:Nat):Int),iD d,iD c,iD O,iD V,iD W,iD 0,.Z 5 ys])) ?_ (fun ds h=>by obtain⟨_,_,h⟩:=h;cases h) fun ds h=>?_))
 ·cases zs with
  |nil=>have g:l[i+1]? = _:=g;refine I5 (fun n=>bV n ..) (J5 (L3 (M3 (bG d c O V W [41] g) ?_)));exact (L3 (H8 ⟨[],Rl.nil,rfl⟩))
  |cons z zs=>
   have K:=Vb hl d c O V W s j zs z (i+1) [] [] m f (by simp only [A0,A8] at q ⊢;omega) Rl.nil;obtain⟨nm,es,t,_⟩:=m z (B8 ..);have k:∃ a b e,l[i+1]? = some (tk 3 [46] a b e):=by
    subst t
    cases zs with
    |nil=>exact K1 (show K6 l (i+1) ((3,[46])::_) from f)
    |cons v o=>exact K1 (show K6 l (i+1) ((3,[46])::_) from f)
   obtain⟨a2,B,x,k⟩:=k;exact I5 (fun n=>bV n ..) (J5 (L3 (M3 (bG d c O V W [41] k) K)))
 ·obtain⟨ys,p,h⟩:=h;cases h;refine J5 (M3 (M8 d c O V W hl [[41]] (by decide) (S7 g rfl)) (H8 ⟨ys,p,?_⟩));rw [u];rfl
end
end
section
def BN {n:Nat}{k i j l:Int}{nm ty:G1}{sg:Bool}{es fs bs its els ps qs c b d a els' ps' qs':List D}(h1:kY es c)(t:kY fs b)(m:bs.length≤10)(h:its.length≤10)(g:els.length≤10)(f:ps.length≤10)(e:qs.length≤10) (s:Rl (OS 4) bs d) (r:Rl (OI n) its a) (q:Rl (OI n) els els') (p:Rl OC ps ps') (o:Rl OC qs qs'):OI (n+1) (I k nm ty sg es fs bs its els ps qs) (AJ k i j l nm ty sg c b d a els' ps' qs'):=⟨k,i,j,l,nm,ty,sg,es,fs,bs,its,els,ps,qs,c,b,d,a,els',ps',qs',rfl,rfl,h1,t,m,h,g,f,e,s,r,q,p,o⟩
def aY2 {n:Nat}{k:Int}{nm ty:G1}{sg:Bool}{es fs bs its els ps qs c b d a els' ps' qs':List D}(i j l:Int)(h1:kY es c)(t:kY fs b)(s:Rl (OS 4) bs d:=by exact Rl.nil)(r:Rl (OI n) its a:=by exact Rl.nil)(q:Rl (OI n) els els':=by exact Rl.nil)(p:Rl OC ps ps':=by exact Rl.nil)(o:Rl OC qs qs':=by exact Rl.nil)(m:bs.length≤10:=by first|simp|omega)(h:its.length≤10:=by first|simp|omega)(g:els.length≤10:=by first|simp|omega)(f:ps.length≤10:=by first|simp|omega)(e:qs.length≤10:=by first|simp|omega):=BN (k:=k) (i:=i) (j:=j) (l:=l) (nm:=nm) (ty:=ty) (sg:=sg) h1 t m h g f e s r q p o
def Pi (F:PW)(l:List D)(i m q:Nat)(R:D→Prop)(h:Nat):Prop:=
 ∀ d c O V W:Int,0≤d→d+h≤40→0≤c→c+q≤4000→U (fun n=>F n (.Z 5 l) (i:Int) d c O V W (0:Int)) fun r=>∃ y,R y∧r=(true,[.Z 5 l,iD ((i+m:Nat):Int),iD d,iD (c+(q:Int)),iD O,iD V,iD W,iD 0,.Z 14 [y]])
def Pi.cast {F:PW}{l:List D}{i m q b a:Nat}{R:D→Prop}{h:Nat}(H:Pi F l i m q R h)(e:m=b)(c:q=a):Pi F l i b a R h:=e▸c▸H
def Ko:∀ {T:NT},T=wO∨T=KH∨T=DI∨T=oN→∀ p∈T,p.1∈([MG,mQ,kP,RU,oW,dC]:List G1)∧(p.2.2=true→p.1=mQ∨p.1=dC)∧(p.1=mQ∨p.2.1≤2)∧(p.1=kP→p.2.1=0∧p.2.2=false):=by intro T h;rcases h with rfl|rfl|rfl|rfl<;>decide
section
variable {l:List D} (hl:l.length≤1000000) {n:Nat}
include hl
def aN7 {T:NT}(u:T=wO∨T=KH){nm ty:G1}{q:Nat}{f sg:Bool}{es fs:List D}(w:nm∈dP)(hm:(ty,q,f)∈T)(x:ty=kP→sg=true)(v:es.length≤q)(o:es.length=0∨es.length=2∨es.length=4)(k:fs=[]∨(f=true∧fs.length=1∧es.length≤2))(A:∀ e∈es,gQ 4 e)(z:∀ e∈fs,gQ 4 e) {i:Nat} (a:K6 l i ([(1,ty)]++(nR nm ty sg es fs++[(3,[59])]))):Pi (fun m=>O1 m) l i ((nR nm ty sg es fs).length+2) 1 (OI (n+1) (I 1 nm ty sg es fs [] [] [] [] [])) 16:=by
 have a:=fM a;obtain⟨a1,s,e1,h1⟩:=K1 a;obtain⟨G,g⟩:=L6.1 (M0 a);obtain⟨a3,M,L,g⟩:=K1 g;intro d c O V W b B p C;have N:=QP hl (Ko (u.imp id .inl)) w hm x v o k A z G g rfl a1 s e1 (d+1) (c+1) O V W (by omega) (by omega);have J:∀ t,U (fun m=>N5 m true l ((i+1:Nat):Int) (d+1) (c+1) O V W 0 [tk 1 ty a1 s e1,.Z 5 l,iD (i:Int),iD (d+1),iD (c+1),iD O,iD V,iD W,iD 0] t) fun r=>∃ y,OI (n+1) (I 1 nm ty sg es fs [] [] [] [] []) y∧r=(true,[.Z 5 l,iD ((i+((nR nm ty sg es fs).length+2):Nat):Int),iD d,iD (c+((1:Nat):Int)),iD O,iD V,iD W,iD 0,.Z 14 [y]]):=by intro t;refine O9 (fun m=>N5.eq_1 m ..) (J5 (H6 N ?_));rintro _ ds ⟨K,H,F,E,h0⟩;cases h0;refine⟨rfl,J5 (M3 (M8 (d+1) (c+1) O V W hl [[59]] (by decide) (S7 g rfl)) ?_)⟩;(refine O9 (fun m=>K5.eq_1 m ..) (M3 (aR l d (c+1) O V W _ (by omega) b) ?_));refine H8 ⟨_,aY2 a1 s e1 F E,?_⟩;rw [show i+((nR nm ty sg es fs).length+2)=i+1+(nR nm ty sg es fs).length+1 from by omega];rfl
 have j:ty=MG∨ty=mQ∨ty=kP:=by
  rcases u with rfl|rfl
  ·simp only [wO,C3,C7] at hm;exact .inl hm.1
  ·simp only [KH,B7,C7,List.not_mem_nil,or_false] at hm;rcases hm with h|h
   ·exact .inr (.inl h.1)
   ·exact .inr (.inr h.1)
 rcases j with rfl|rfl|rfl
 ·(refine I5 (fun m=>P7 m l i d c O V W 0) (M3 (bR l d c O V W (i:Int) (by omega) b) (L3 (M3 (S5 l (d+1) c O V W (i:Int) (by omega) p) (M3 (O3 (d+1) (c+1) O V W h1) ?_)))));(refine M3 (M6 (d+1) (c+1) O V W hl h1 rfl) (J5 ?_));exact J _
 ·(refine I5 (fun m=>P7 m l i d c O V W 0) (M3 (bR l d c O V W (i:Int) (by omega) b) (L3 (M3 (S5 l (d+1) c O V W (i:Int) (by omega) p) (M3 (O3 (d+1) (c+1) O V W h1) ?_)))));(refine M3 (I7 (d+1) (c+1) O V W h1 rfl) (L3 ?_));(refine M3 (M6 (d+1) (c+1) O V W hl h1 rfl) (J5 ?_));exact J _
 ·(refine I5 (fun m=>P7 m l i d c O V W 0) (M3 (bR l d c O V W (i:Int) (by omega) b) (L3 (M3 (S5 l (d+1) c O V W (i:Int) (by omega) p) (M3 (O3 (d+1) (c+1) O V W h1) ?_)))));(refine M3 (I7 (d+1) (c+1) O V W h1 rfl) (L3 ?_));(refine M3 (I7 (d+1) (c+1) O V W h1 rfl) (L3 ?_));refine M3 (M6 (d+1) (c+1) O V W hl h1 rfl) (J _)
def Wx {nm:G1}(k:nm∈dP){x:D}(f:gQ 4 x){i:Nat}(b:K6 l i ([(1,sD)]++([(1,nm),(3,[61])]++(wE 4 x++[(3,[59])])))):Pi (fun m=>O1 m) l i ((wE 4 x).length+4) 1 (OI (n+1) (I 2 nm sD false [x] [] [] [] [] [] [])) 16:=by
 have b:=fM b;obtain⟨a1,h,e1,h1⟩:=K1 b;have e:K6 l (i+1) ([(1,nm),(3,[61])]++wE 4 x++[(3,[59])]):=by rw [C1];exact M0 b
 obtain⟨e,a⟩:=L6.1 e;obtain⟨a3,t,s,a⟩:=K1 a;have r:([(1,nm),(3,[61])]++wE 4 x:List Tk).length=2+(wE 4 x).length:=by simp only [G0]
 rw [r] at a;intro d c O V W g o q p;have N:=Cj hl (ty:=sD) k f e a rfl a1 h e1 (d+1) (c+1) O V W (by omega) (by omega);(refine I5 (fun m=>P7 m ..) (M3 (bR l d c O V W (i:Int) (by omega) g) (L3 (M3 (S5 l (d+1) c O V W (i:Int) (by omega) q) (M3 (O3 (d+1) (c+1) O V W h1) ?_)))));(refine M3 (I7 (d+1) (c+1) O V W h1 rfl) (L3 (M3 (I7 (d+1) (c+1) O V W h1 rfl) (L3 (M3 (I7 (d+1) (c+1) O V W h1 rfl) (O9 (fun m=>N5.eq_1 m ..) (L3 ?_)))))));(refine M3 (M6 (d+1) (c+1) O V W hl h1 rfl) (J5 ?_));refine H6 N ?_;rintro _ ds ⟨y,j,h0⟩;cases h0;refine⟨rfl,J5 (M3 (M8 (d+1) (c+1) O V W hl [[59]] (by decide) (S7 a rfl)) ?_)⟩;(refine O9 (fun m=>K5.eq_1 m ..) (M3 (aR l d (c+1) O V W _ (by omega) g) ?_));refine H8 ⟨_,aY2 a1 h e1 (kY.one f j) kY.nil,?_⟩;rw [show i+((wE 4 x).length+4)=i+1+(2+(wE 4 x).length)+1 from by omega];rfl
def Qn {nm:G1}(e:nm∈dP){i:Nat}(a:K6 l i [(1,MK),(1,nm),(3,[59])]):Pi (fun m=>O1 m) l i 3 1 (OI (n+1) (I 3 nm [] false [] [] [] [] [] [] [])) 16:=by obtain⟨a1,o,e1,h1⟩:=K1 a;obtain⟨a2,s,q,k⟩:=K1 (M0 a);obtain⟨a3,r,p,j⟩:=K1 (M0 (M0 a));intro d c O V W b f h g;(refine I5 (fun m=>P7 m ..) (M3 (bR l d c O V W (i:Int) (by omega) b) (L3 (M3 (S5 l (d+1) c O V W (i:Int) (by omega) h) (M3 (O3 (d+1) (c+1) O V W h1) ?_)))));(refine M3 (I7 (d+1) (c+1) O V W h1 rfl) (L3 (M3 (I7 (d+1) (c+1) O V W h1 rfl) (L3 (M3 (I7 (d+1) (c+1) O V W h1 rfl) (O9 (fun m=>N5.eq_1 m ..) (L3 ?_)))))));(refine M3 (I7 (d+1) (c+1) O V W h1 rfl) (L3 ?_));(refine M3 (M6 (d+1) (c+1) O V W hl h1 rfl) (J5 ?_));refine M3 (fJ (d+1) (c+1) O V W hl k (rG (vN e))) (M3 (M8 (d+1) (c+1) O V W hl [[59]] (by decide) (S7 j rfl)) ?_);(refine O9 (fun m=>K5.eq_1 m ..) (M3 (aR l d (c+1) O V W _ (by omega) b) ?_));exact H8 ⟨_,aY2 a1 o e1 kY.nil kY.nil,rfl⟩
def Om {x e:D}(p:isLeft x)(q:gQ 4 e){i:Nat}(a:K6 l i ([(1,tO)]++(wE 4 x++([(3,[61])]++(wE 4 e++[(3,[59])]))))):Pi (fun m=>O1 m) l i ((wE 4 x).length+(wE 4 e).length+3) 1 (OI (n+1) (I 4 [] [] false [x,e] [] [] [] [] [] [])) 16:=by have a:=fM a;obtain⟨a1,B,e1,h1⟩:=K1 a;obtain⟨A,f⟩:=L6.1 (M0 a);have f:=fM f;obtain⟨a3,X,Q,s⟩:=K1 f;obtain⟨w,b⟩:=L6.1 (M0 f);obtain⟨a5,T,P,b⟩:=K1 b;intro d c O V W r t v u;(refine I5 (fun m=>P7 m ..) (M3 (bR l d c O V W (i:Int) (by omega) r) (L3 (M3 (S5 l (d+1) c O V W (i:Int) (by omega) v) (M3 (O3 (d+1) (c+1) O V W h1) ?_)))));(refine M3 (I7 (d+1) (c+1) O V W h1 rfl) (L3 (M3 (I7 (d+1) (c+1) O V W h1 rfl) (L3 (M3 (I7 (d+1) (c+1) O V W h1 rfl) (O9 (fun m=>N5.eq_1 m ..) (L3 ?_)))))));(refine M3 (I7 (d+1) (c+1) O V W h1 rfl) (L3 ?_));(refine M3 (I7 (d+1) (c+1) O V W h1 rfl) (L3 ?_));(refine M3 (M6 (d+1) (c+1) O V W hl h1 rfl) (J5 ?_));refine H6 (Jq hl p A s rfl (d+1) (c+1) O V W (by omega) (by omega)) ?_;rintro _ ds ⟨y,o,h0⟩;cases h0;have h:=o;obtain⟨L,E,J,a7,S,N,G,_,rfl⟩:=dW o;refine⟨rfl,J5 (M3 (M8 (d+1) (c+1) O V W hl [[61]] (by decide) (S7 s rfl)) (H6 (AW hl q w b rfl (d+1) (c+1) O V W (by omega) (by omega)) ?_))⟩;rintro _ ds ⟨z,k,h0⟩;cases h0;have g:=k;obtain⟨K,C,H,a8,R,M,F,_,rfl⟩:=dW k;refine⟨rfl,J5 (M3 (M8 (d+1) (c+1) O V W hl [[59]] (by decide) (S7 b rfl)) ?_)⟩;(refine O9 (fun m=>K5.eq_1 m ..) (M3 (aR l d (c+1) O V W _ (by omega) r) ?_));refine H8 ⟨_,BN (i:=a1) (j:=B) (l:=e1) (kY.two (iL (by decide) (vV p)) q h g) kY.nil (by simp) (by simp) (by simp) (by simp) (by simp) Rl.nil Rl.nil Rl.nil Rl.nil Rl.nil,?_⟩;rw [show i+((wE 4 x).length+(wE 4 e).length+3)=i+1+(wE 4 x).length+1+(wE 4 e).length+1 from by omega];rfl
def aB2 {s:D}(k:uN 4 s){i:Nat}(a:K6 l i ([(1,qK),(3,[64]),(3,[42])]++wS 4 s))(t:Nw l (i+(3+(wS 4 s).length))):Pi (fun m=>O1 m) l i (3+(wS 4 s).length) (1+qS 4 s) (OI (n+1) (I 5 [] [] false [] [] [s] [] [] [] [])) 16:=by
 have a:K6 l i ((1,qK)::(3,[64])::(3,[42])::wS 4 s):=a;obtain⟨a1,f,e1,h1⟩:=K1 a;obtain⟨a2,N,L,w⟩:=K1 (M0 a);obtain⟨a3,M,K,v⟩:=K1 (M0 (M0 a));have u:=M0 (M0 (M0 a));intro d c O V W g o q p;have I:=aR2 hl 4 s k _ u (fun _=>by rw [show i+1+1+1+(wS 4 s).length=i+(3+(wS 4 s).length) from by omega];exact t) (d+1) (c+1) O V W (by omega) (by show d+1+14≤40;omega) (by omega) (by omega);have A:U (fun m=>aD m (.agg [iD a1,iD f,iD e1]) (.Z 5 l) ((i+1:Nat):Int) (d+1:Int) (c+1:Int) O V W (0:Int)) fun r=>∃ y,OS 4 s y∧r=(true,[AJ 5 a1 f e1 [] [] false [] [] [y] [] [] [] [],.Z 5 l,iD ((i+(3+(wS 4 s).length):Nat):Int),iD (d+1),iD (c+1+(qS 4 s:Int)),iD O,iD V,iD W,iD 0]):=by refine I5 (fun m=>iG m ..) (M3 (M8 (d+1) (c+1) O V W hl [[64]] (by decide) (S7 w rfl)) (M3 (M6 (d+1) (c+1) O V W hl v rfl) (L3 (O9 (fun m=>Y2.eq_1 m ..) (H6 I ?_)))));rintro _ ds ⟨y,b,h0⟩;cases h0;have e:=b;obtain⟨G,J,H,F,E,z,C,j,x,B,h,_,rfl⟩:=sY b;refine⟨rfl,J5 (H8 ⟨_,e,?_⟩)⟩;rw [show i+(3+(wS 4 s).length)=i+1+1+1+(wS 4 s).length from by omega];rfl
 (refine I5 (fun m=>P7 m l i d c O V W 0) (M3 (bR l d c O V W (i:Int) (by omega) g) (L3 (M3 (S5 l (d+1) c O V W (i:Int) (by omega) q) (M3 (O3 (d+1) (c+1) O V W h1) ?_)))));(refine M3 (I7 (d+1) (c+1) O V W h1 rfl) (L3 (M3 (I7 (d+1) (c+1) O V W h1 rfl) (L3 (M3 (I7 (d+1) (c+1) O V W h1 rfl) (O9 (fun m=>N5.eq_1 m ..) (L3 ?_)))))));(refine M3 (I7 (d+1) (c+1) O V W h1 rfl) (L3 ?_));(refine M3 (I7 (d+1) (c+1) O V W h1 rfl) (L3 ?_));(refine M3 (I7 (d+1) (c+1) O V W h1 rfl) (L3 ?_));(refine M3 (M6 (d+1) (c+1) O V W hl h1 rfl) (J5 ?_));refine H6 A ?_;rintro _ ds ⟨y,b,h0⟩;cases h0;refine⟨rfl,J5 ?_⟩;(refine O9 (fun m=>K5.eq_1 m ..) (M3 (aR l d (c+1+(qS 4 s:Int)) O V W _ (by omega) g) ?_));refine H8 ⟨_,aY2 a1 f e1 kY.nil kY.nil (Rl.one b),?_⟩;rw [show c+((1+qS 4 s:Nat):Int)=c+1+(qS 4 s:Int) from by omega];rfl
def Ky {s:D}(o:uN 4 s){i:Nat}(a:K6 l i ([(1,qK),(3,[64]),(3,[40]),(1,KE),(1,AN),(3,[41])]++wS 4 s))(u:Nw l (i+(6+(wS 4 s).length))):Pi (fun m=>O1 m) l i (6+(wS 4 s).length) (1+qS 4 s) (OI (n+1) (I 6 AN [] false [] [] [s] [] [] [] [])) 16:=by
 have a:K6 l i ((1,qK)::(3,[64])::(3,[40])::(1,KE)::(1,AN)::(3,[41])::wS 4 s):=a;obtain⟨a1,f,e1,h1⟩:=K1 a;have a:=M0 a;obtain⟨a2,b2,S,B⟩:=K1 a;have a:=M0 a;obtain⟨a3,b3,R,h⟩:=K1 a;have a:=M0 a;obtain⟨a4,b4,Q,z⟩:=K1 a;have a:=M0 a;obtain⟨a5,X,P,x⟩:=K1 a;have a:=M0 a;obtain⟨a6,T,N,w⟩:=K1 a;have v:=M0 a;intro d c O V W g p t q;have I:=aR2 hl 4 s o _ v (fun _=>by rw [show i+1+1+1+1+1+1+(wS 4 s).length=i+(6+(wS 4 s).length) from by omega];exact u) (d+1) (c+1) O V W (by omega) (by show d+1+14≤40;omega) (by omega) (by omega);have A:U (fun m=>aD m (.agg [iD a1,iD f,iD e1]) (.Z 5 l) ((i+1:Nat):Int) (d+1:Int) (c+1:Int) O V W (0:Int)) fun r=>∃ y,OS 4 s y∧r=(true,[AJ 6 a1 f e1 AN [] false [] [] [y] [] [] [] [],.Z 5 l,iD ((i+(6+(wS 4 s).length):Nat):Int),iD (d+1),iD (c+1+(qS 4 s:Int)),iD O,iD V,iD W,iD 0]):=by refine I5 (fun m=>iG m ..) (M3 (M8 (d+1) (c+1) O V W hl [[64]] (by decide) (S7 B rfl)) (M3 (I7 (d+1) (c+1) O V W h rfl) (J5 (M3 (M8 (d+1) (c+1) O V W hl [[40]] (by decide) (S7 h rfl)) (M3 (M6 (d+1) (c+1) O V W hl z rfl) (J5 (M3 (fJ (d+1) (c+1) O V W hl x (by kernel_rfl)) (M3 (M8 (d+1) (c+1) O V W hl [[41]] (by decide) (S7 w rfl)) (O9 (fun m=>Y2.eq_1 m ..) (H6 I ?_))))))))));rintro _ ds ⟨y,b,h0⟩;cases h0;have e:=b;obtain⟨K,M,L,J,H,E,G,k,C,F,j,_,rfl⟩:=sY b;refine⟨rfl,J5 (H8 ⟨_,e,?_⟩)⟩;rw [show i+(6+(wS 4 s).length)=i+1+1+1+1+1+1+(wS 4 s).length from by omega];rfl
 (refine I5 (fun m=>P7 m l i d c O V W 0) (M3 (bR l d c O V W (i:Int) (by omega) g) (L3 (M3 (S5 l (d+1) c O V W (i:Int) (by omega) t) (M3 (O3 (d+1) (c+1) O V W h1) ?_)))));(refine M3 (I7 (d+1) (c+1) O V W h1 rfl) (L3 (M3 (I7 (d+1) (c+1) O V W h1 rfl) (L3 (M3 (I7 (d+1) (c+1) O V W h1 rfl) (O9 (fun m=>N5.eq_1 m ..) (L3 ?_)))))));(refine M3 (I7 (d+1) (c+1) O V W h1 rfl) (L3 ?_));(refine M3 (I7 (d+1) (c+1) O V W h1 rfl) (L3 ?_));(refine M3 (I7 (d+1) (c+1) O V W h1 rfl) (L3 ?_));(refine M3 (M6 (d+1) (c+1) O V W hl h1 rfl) (J5 ?_));refine H6 A ?_;rintro _ ds ⟨y,b,h0⟩;cases h0;refine⟨rfl,J5 ?_⟩;(refine O9 (fun m=>K5.eq_1 m ..) (M3 (aR l d (c+1+(qS 4 s:Int)) O V W _ (by omega) g) ?_));refine H8 ⟨_,aY2 a1 f e1 kY.nil kY.nil (Rl.one b),?_⟩;rw [show c+((1+qS 4 s:Nat):Int)=c+1+(qS 4 s:Int) from by omega];rfl
def aC4 {k:UInt8}{ps qs:List D}(x:qL [117,48+k]=true)(hp:ps.length≤2)(G:qs.length≤2)(u:∀ c∈ps,xC c)(t:∀ c∈qs,xC c){i:Nat}(j:K6 l i ([(1,wL)]++((bif ps.isEmpty then [] else [(3,[35])]++rA ps)++([(1,[117,48+k])]++(rA qs++[(3,[59])]))))) :Pi (fun m=>O1 m) l i ((bif ps.isEmpty then 0 else 1+(rA ps).length)+(rA qs).length+3) 1 (OI (n+1) (I 8 [117,48+k] wL false [] [] [] [] [] ps qs)) 16:=by
 have j:=fM j;obtain⟨a1,f,e1,h1⟩:=K1 j;obtain⟨o,g⟩:=L6.1 (M0 j);have F:((bif ps.isEmpty then [] else [(3,[35])]++rA ps):List Tk).length=(bif ps.isEmpty then 0 else 1+(rA ps).length):=by cases ps.isEmpty<;>simp only [cond_true,cond_false,G0]<;>omega
 rw [F] at g;have g:=fM g;obtain⟨a3,Q,M,p⟩:=K1 g;obtain⟨E,v⟩:=L6.1 (M0 g);obtain⟨S,P,L,v⟩:=K1 v;intro d c O V W w y B z;have J:∀ ps' q,Rl OC ps ps'→q=[.str wL,.Z 5 l,iD ((i+1:Nat):Int),iD (d+1),iD (c+1),iD O,iD V,iD W,iD 0]→U (fun m=>cK m l ((i+1+(bif ps.isEmpty then 0 else 1+(rA ps).length):Nat):Int) (d+1) (c+1) O V W 0 ps' a1 f e1 q) fun r=>∃ ps' qs',Rl OC ps ps'∧Rl OC qs qs'∧r=(true,[AJ 8 a1 f e1 [117,48+k] wL false [] [] [] [] [] ps' qs',.Z 5 l,iD ((i+((bif ps.isEmpty then 0 else 1+(rA ps).length)+(rA qs).length+3):Nat):Int),iD (d+1),iD (c+1),iD O,iD V,iD W,iD 0]):=by intro ps' q a s;subst s;refine O9 (fun m=>cK.eq_1 m ..) (M3 (fJ (d+1) (c+1) O V W hl p x) (H6 (Aj hl (by omega) t E (d+1) (c+1) O V W (by omega) (by omega)) ?_));rintro _ ds ⟨qs',e,h0⟩;cases h0;refine⟨rfl,J5 (M3 (M8 (d+1) (c+1) O V W hl [[59]] (by decide) (S7 v rfl)) (H8 ⟨ps',qs',a,e,?_⟩))⟩;rw [show i+((bif ps.isEmpty then 0 else 1+(rA ps).length)+(rA qs).length+3)=i+1+(bif ps.isEmpty then 0 else 1+(rA ps).length)+1+(rA qs).length+1 from by omega];rfl
 have A:U (fun m=>cC m (.agg [iD a1,iD f,iD e1]) (.Z 5 l) (i:Int) (d+1:Int) (c+1:Int) O V W (0:Int)) fun r=>∃ ps' qs',Rl OC ps ps'∧Rl OC qs qs'∧r=(true,[AJ 8 a1 f e1 [117,48+k] wL false [] [] [] [] [] ps' qs',.Z 5 l,iD ((i+((bif ps.isEmpty then 0 else 1+(rA ps).length)+(rA qs).length+3):Nat):Int),iD (d+1),iD (c+1),iD O,iD V,iD W,iD 0]):=by
  refine I5 (fun m=>nJ m a1 f e1 l _ (d+1) (c+1) O V W 0) (M3 (fJ (d+1) (c+1) O V W hl h1 (by kernel_rfl)) ?_)
  cases ps with
  |nil=>have p:l[i+1]? = _:=p;refine M3 (I7 (d+1) (c+1) O V W p rfl) ?_;exact L3 (J [] _ Rl.nil rfl)
  |cons b h=>have o:=fM (show K6 l (i+1) ([(3,[35])]++rA (b::h)) from o);obtain⟨R,N,H,C⟩:=K1 o;refine M3 (M6 (d+1) (c+1) O V W hl C rfl) (J5 (H6 (Aj hl (by omega) u (M0 o) (d+1) (c+1) O V W (by omega) (by omega)) ?_));rintro _ ds ⟨ps',a,h0⟩;cases h0;refine⟨rfl,J5 ?_⟩;have K:=J ps' _ a rfl;rw [show i+1+(bif (b::h).isEmpty then 0 else 1+(rA (b::h)).length)=i+1+1+(rA (b::h)).length from by show i+1+(1+_)=_;omega] at K;exact K
 (refine I5 (fun m=>P7 m l i d c O V W 0) (M3 (bR l d c O V W (i:Int) (by omega) w) (L3 (M3 (S5 l (d+1) c O V W (i:Int) (by omega) B) (M3 (O3 (d+1) (c+1) O V W h1) ?_)))));(refine M3 (I7 (d+1) (c+1) O V W h1 rfl) (L3 (M3 (I7 (d+1) (c+1) O V W h1 rfl) (L3 (M3 (I7 (d+1) (c+1) O V W h1 rfl) (O9 (fun m=>N5.eq_1 m ..) (L3 ?_)))))));(refine M3 (I7 (d+1) (c+1) O V W h1 rfl) (L3 ?_));(refine M3 (I7 (d+1) (c+1) O V W h1 rfl) (L3 ?_));(refine M3 (I7 (d+1) (c+1) O V W h1 rfl) (L3 ?_));(refine M3 (I7 (d+1) (c+1) O V W h1 rfl) (L3 ?_));(refine M3 (I7 (d+1) (c+1) O V W h1 rfl) (L3 ?_));(refine M3 (I7 (d+1) (c+1) O V W h1 rfl) (L3 ?_));(refine M3 (I7 (d+1) (c+1) O V W h1 rfl) (L3 ?_));(refine M3 (I7 (d+1) (c+1) O V W h1 rfl) (L3 ?_));refine H6 A ?_;rintro _ ds ⟨ps',qs',a,e,h0⟩;cases h0;refine⟨rfl,J5 (M3 (aR l d (c+1) O V W _ (by omega) w) (H8 ⟨_,aY2 a1 f e1 kY.nil kY.nil Rl.nil Rl.nil Rl.nil a e,rfl⟩))⟩
end
end
section
def nN {T:NT}{x:D}(h:xN T x):∃ nm ty q f sg es fs,x=I 1 nm ty sg es fs [] [] [] [] []∧nm∈dP∧(ty,q,f)∈T∧(ty=kP→sg=true)∧es.length≤q∧(es.length=0∨es.length=2∨es.length=4)∧(fs=[]∨(f=true∧fs.length=1∧es.length≤2))∧(∀ e∈es,gQ 4 e)∧∀ e∈fs,gQ 4 e:=h
def Yn {nm ty:G1}{q:Nat}{f sg:Bool}{es fs:List D}(hm:(ty,q,f)∈DI):IT (I 1 nm ty sg es fs [] [] [] [] [])=(1,ty)::(nR nm ty sg es fs++[(3,[59])]):=by
 have a:(ty==dC)=false:=by simp only [DI,B7,C7,List.not_mem_nil,or_false] at hm;rcases hm with ⟨rfl,_⟩|⟨rfl,_⟩|⟨rfl,_⟩<;>rfl
 show nW nm ty sg es fs++[(3,[59])]=_;rw [Wf,a];rfl
section
variable {l:List D} (hl:l.length≤1000000) {n:Nat}
include hl
def Vh (B A q2 d c O V W:Int)(hd:0≤d)(L:d≤32)(nm:G1)(sg:Bool)(es:List D){rest:List Tk}(y:∀ i,K6 l i rest→∃ k t a b e,l[i]? = some (tk k t a b e)∧t∈sT):∀ (xs:List D) (i:Nat) (acc us:List D),(∀ x∈xs,xN DI x)→K6 l i (xs.flatMap IT++rest)→xs.length+acc.length≤100→Rl (OI (n+1)) us acc→U (fun m=>P3 m (.Z 5 l) (i:Int) d c O V W (0:Int) (0:Int) (0:Int) (0:Int) (0:Int) (.str []) (.str []) (.bool false) (7:Int) B A q2 (.str nm) (.str []) (.bool sg) (.Z 6 []) (.Z 6 []) (.Z 8 []) (.Z 14 []) (.Z 14 []) (.Z 5 []) (.Z 5 []) (.Z 6 es) (.Z 6 []) (.Z 8 []) (.Z 14 acc) (.Z 14 []) (.Z 5 []) (.Z 5 [])) fun r=>∃ ys,Rl (OI (n+1)) (us++xs) ys∧r=(false,[.Z 5 l,iD ((i+(xs.flatMap IT).length:Nat):Int),iD d,iD c,iD O,iD V,iD W,iD 0,iD 0,iD 0,iD 0,iD 0,.str [],.str [],.bool false,iD 7,iD B,iD A,iD q2,.str nm,.str [],.bool sg,.Z 6 [],.Z 6 [],.Z 8 [],.Z 14 [],.Z 14 [],.Z 5 [],.Z 5 [],.Z 6 es,.Z 6 [],.Z 8 [],.Z 14 ys,.Z 14 [],.Z 5 [],.Z 5 []]):=by
 intro xs
 induction xs with
 |nil=>intro i acc us _ w _ G;obtain⟨kk,t,a,b,e,h1,z⟩:=y i w;refine I5 (fun m=>cB m ..) (M3 (bG d c O V W RU h1) (N8 (by exact QO (VE z (by simp [Yr]))) (M3 (bG d c O V W mQ h1) (N8 (by exact QO (VE z (by simp [Yr]))) (M3 (bG d c O V W kP h1) ?_)))));refine O9 (fun m=>P5.eq_1 m ..) (N8 (by exact QO (VE z (by simp [Yr]))) (H8 ⟨acc,by rw [D5];exact G,rfl⟩))
 |cons x xs ih=>
  intro i acc us P w hn G;obtain⟨o,ty,q,f,g,s,p,ex,g1,g2,g3,g4,g5,T,g7,g8⟩:=nN (P x (B8 ..));subst ex;have hf:f=false:=by simp only [DI,B7,C7,List.not_mem_nil,or_false] at g2;rcases g2 with ⟨_,_,h⟩|⟨_,_,h⟩|⟨_,_,h⟩<;>exact h
  have H:p=[]:=by rcases T with h|⟨h,_⟩;exact h;rw [hf] at h;cases h
  have hq2:s.length≤2:=by simp only [DI,B7,C7,List.not_mem_nil,or_false] at g2;rcases g2 with ⟨_,h,_⟩|⟨_,h,_⟩|⟨_,h,_⟩<;>omega
  rw [D9,Yn g2] at w;have w:K6 l i ((1,ty)::(nR o ty g s p++([(3,[59])]++(xs.flatMap IT++rest)))):=by simpa using w
  obtain⟨a1,E,e1,h1⟩:=K1 w;obtain⟨z,C⟩:=L6.1 (M0 w);have C:=fM C;obtain⟨a3,b3,e3,S⟩:=K1 C;have hR:=M0 C;have hi:=vY h1;have N:=QP hl (Ko (.inr (.inr (.inl rfl)))) g1 g2 g3 g4 g5 T g7 g8 z S rfl a1 E e1 d c O V W hd L;rw [← P4 (j:=i) (by omega)] at N;simp only [A0] at hn;have eL:((I 1 o ty g s p [] [] [] [] []::xs).flatMap IT).length=1+(nR o ty g s p).length+1+(xs.flatMap IT).length:=by rw [D9,Yn g2];simp only [G0];omega
  have J:U (fun m=>P5 m true l (i:Int) d c O V W 0 acc 0 0 0 0 [] [] false 7 B A q2 nm [] sg [] [] [] [] [] [] [] es [] [] [] [] []) fun r=>∃ ys,Rl (OI (n+1)) (us++I 1 o ty g s p [] [] [] [] []::xs) ys∧r=(false,[.Z 5 l,iD ((i+((I 1 o ty g s p [] [] [] [] []::xs).flatMap IT).length:Nat):Int),iD d,iD c,iD O,iD V,iD W,iD 0,iD 0,iD 0,iD 0,iD 0,.str [],.str [],.bool false,iD 7,iD B,iD A,iD q2,.str nm,.str [],.bool sg,.Z 6 [],.Z 6 [],.Z 8 [],.Z 14 [],.Z 14 [],.Z 5 [],.Z 5 [],.Z 6 es,.Z 6 [],.Z 8 [],.Z 14 ys,.Z 14 [],.Z 5 [],.Z 5 []]):=by refine O9 (fun m=>P5.eq_1 m ..) (J5 (M3 (O3 d c O V W h1) (H6 N ?_)));rintro _ ds ⟨v,u,R,Q,h0⟩;cases h0;have hO:OI (n+1) (I 1 o ty g s p [] [] [] [] []) (AJ 1 a1 E e1 o ty g v u [] [] [] [] []):=aY2 a1 E e1 R Q;have l1:v.length=s.length:=R.2.1.symm;have X:u.length=p.length:=Q.2.1.symm;refine⟨rfl,J5 (N8 (E8 (by show ¬ ((v.length:Int)>2);omega)) ?_)⟩;refine O9 (fun m=>Y5.eq_1 m ..) (N8 (E8 (by show ¬ ((u.length:Int)>0);rw [X,H];simp)) (M3 (M8 d c O V W hl [[59]] (by decide) (S7 S rfl)) ?_));refine I4 (B2 (by simp only [L9];omega)) (O9 (fun m=>Y6.eq_1 m ..) ?_);have K:=ih (i+1+(nR o ty g s p).length+1) (acc++[AJ 1 a1 E e1 o ty g v u [] [] [] [] []]) (us++[I 1 o ty g s p [] [] [] [] []]) (fun x h=>P x (C0 _ h)) hR (by rw [A7,C9];omega) (G.snoc hO);refine K.mono fun r ⟨ys,M,k2⟩=>⟨ys,by rw [C1] at M;exact M,?_⟩;rw [k2,eL,show i+(1+(nR o ty g s p).length+1+(xs.flatMap IT).length)=i+1+(nR o ty g s p).length+1+(xs.flatMap IT).length from by omega]
  have F:ty=RU∨ty=mQ∨ty=kP:=by
   simp only [DI,B7,C7,List.not_mem_nil,or_false] at g2;rcases g2 with ⟨h,_⟩|⟨h,_⟩|⟨h,_⟩
   ·exact .inl h
   ·exact .inr (.inl h)
   ·exact .inr (.inr h)
  refine I5 (fun m=>cB m ..) (M3 (bG d c O V W RU h1) ?_);rcases F with rfl|rfl|rfl
  ·exact J5 J
  ·exact L3 (M3 (bG d c O V W mQ h1) (J5 J))
  ·exact L3 (M3 (bG d c O V W mQ h1) (L3 (M3 (bG d c O V W kP h1) J)))
def aC1 {sg:Bool}{es its:List D}{s:D}(g:es.length=0∨es.length=2)(P:∀ e∈es,gQ 4 e)(X:its.length≤2)(M:∀ x∈its,xN DI x)(G:uN 4 s){i:Nat}(b:K6 l i ([(1,FA)]++((bif sg then [(1,pI)] else [])++(qV es++([(1,[102]),(3,[59])]++(its.flatMap IT++(wS 4 s++[(1,pS)]))))))) :Pi (fun m=>O1 m) l i ((bif sg then 1 else 0)+(qV es).length+(its.flatMap IT).length+(wS 4 s).length+4) (1+qS 4 s) (OI (n+1+1) (I 7 [102] [] sg es [] [s] its [] [] [])) 16:=by
 have b:=fM b;obtain⟨a1,t,e1,h1⟩:=K1 b;obtain⟨w,b⟩:=L6.1 (M0 b);have u:((bif sg then [(1,pI)] else []):List Tk).length=(bif sg then 1 else 0):=by cases sg<;>rfl
 rw [u] at b;obtain⟨p,b⟩:=L6.1 b;have b:K6 l (i+1+(bif sg then 1 else 0)+(qV es).length) ((1,[102])::(3,[59])::(its.flatMap IT++(wS 4 s++[(1,pS)]))):=b;obtain⟨a2,b2,e2,k⟩:=K1 b;obtain⟨a3,b3,e3,T⟩:=K1 (M0 b);have J:=M0 (M0 b);obtain⟨_,z⟩:=L6.1 J;obtain⟨z,q⟩:=L6.1 z;obtain⟨a9,b9,e9,q⟩:=K1 q;intro d c O V W H Q S R;have S0:U (fun m=>H9 m (.str pI) (.Z 5 l) ((i+1:Nat):Int) (d+1:Int) (c+1:Int) O V W (0:Int)) fun r=>r=(true,[.bool sg,.Z 5 l,iD ((i+1+(bif sg then 1 else 0):Nat):Int),iD (d+1),iD (c+1),iD O,iD V,iD W,iD 0]):=by
  cases sg with
  |true=>obtain⟨a4,b4,e4,F⟩:=K1 (show K6 l (i+1) [(1,pI)] from w);exact M6 (d+1) (c+1) O V W hl F rfl
  |false=>
   match es,g,p,k with
   |[],_,_,k=>exact I7 (d+1) (c+1) O V W (show l[i+1]? = _ from k) rfl
   |[x,y],_,p,_=>obtain⟨a4,b4,e4,F⟩:=K1 (show K6 l (i+1) ((3,[91])::_) from p);exact I7 (d+1) (c+1) O V W F rfl
 have B:=JD hl g P p k rfl (d+1) (c+1) O V W (by omega) (by omega);have I:=aR2 hl 4 s G _ z (fun _=>⟨1,pS,a9,b9,e9,q,rfl⟩) (d+1) (c+1) O V W (by omega) (by show d+1+14≤40;omega) (by omega) (by omega);have A:U (fun m=>W8 m (.agg [iD a1,iD t,iD e1]) (.Z 5 l) ((i+1:Nat):Int) (d+1:Int) (c+1:Int) O V W (0:Int)) fun r=>∃ f a y,kY es f∧Rl (OI (n+1)) its a∧OS 4 s y∧r=(true,[AJ 7 a1 t e1 [102] [] sg f [] [y] a [] [] [],.Z 5 l,iD ((i+((bif sg then 1 else 0)+(qV es).length+(its.flatMap IT).length+(wS 4 s).length+4):Nat):Int),iD (d+1),iD (c+1+(qS 4 s:Int)),iD O,iD V,iD W,iD 0]):=by refine I5 (fun m=>kC m ..) (M3 S0 (H6 B ?_));rintro _ ds ⟨f,E,h0⟩;cases h0;have Dc:=Vh hl (n:=n) a1 t e1 (d+1) (c+1) O V W (by omega) (by omega) [102] sg f (rest:=wS 4 s++[(1,pS)]) (fun j N=>Tn G (L6.1 N).1) its (i+1+(bif sg then 1 else 0)+(qV es).length+1+1) [] [] M J (by simp;omega) Rl.nil;refine⟨rfl,J5 (M3 (fJ (d+1) (c+1) O V W hl k (by kernel_rfl)) (M3 (M8 (d+1) (c+1) O V W hl [[59]] (by decide) (S7 T rfl)) (L4 Dc (fun ds h=>by obtain⟨_,_,h⟩:=h;cases h) fun ds h=>?_)))⟩;obtain⟨a,C,h⟩:=h;cases h;refine J5 (H6 I ?_);rintro _ ds ⟨y,o,h0⟩;cases h0;have v:=o;obtain⟨k5,i5,j5,l5,t5,es5,bs5,L,es6,bs6,K,_,rfl⟩:=sY o;refine⟨rfl,J5 (M3 (M8 (d+1) (c+1+(qS 4 s:Int)) O V W hl [pS] (by decide) (S7 q rfl)) (H8 ⟨f,a,_,E,C,v,?_⟩))⟩;rw [show i+((bif sg then 1 else 0)+(qV es).length+(its.flatMap IT).length+(wS 4 s).length+4)=i+1+(bif sg then 1 else 0)+(qV es).length+1+1+(its.flatMap IT).length+(wS 4 s).length+1 from by omega];rfl
 (refine I5 (fun m=>P7 m l i d c O V W 0) (M3 (bR l d c O V W (i:Int) (by omega) H) (L3 (M3 (S5 l (d+1) c O V W (i:Int) (by omega) S) (M3 (O3 (d+1) (c+1) O V W h1) ?_)))));(refine M3 (I7 (d+1) (c+1) O V W h1 rfl) (L3 (M3 (I7 (d+1) (c+1) O V W h1 rfl) (L3 (M3 (I7 (d+1) (c+1) O V W h1 rfl) (O9 (fun m=>N5.eq_1 m ..) (L3 ?_)))))));(refine M3 (I7 (d+1) (c+1) O V W h1 rfl) (L3 ?_));(refine M3 (I7 (d+1) (c+1) O V W h1 rfl) (L3 ?_));(refine M3 (I7 (d+1) (c+1) O V W h1 rfl) (L3 ?_));(refine M3 (I7 (d+1) (c+1) O V W h1 rfl) (L3 ?_));(refine M3 (M6 (d+1) (c+1) O V W hl h1 rfl) (J5 ?_));refine H6 A ?_;rintro _ ds ⟨f,a,y,E,C,o,h0⟩;cases h0;refine⟨rfl,J5 ?_⟩;(refine O9 (fun m=>K5.eq_1 m ..) (M3 (aR l d (c+1+(qS 4 s:Int)) O V W _ (by omega) H) ?_));refine H8 ⟨_,aY2 a1 t e1 E kY.nil (Rl.one o) C,?_⟩;rw [show c+((1+qS 4 s:Nat):Int)=c+1+(qS 4 s:Int) from by omega];rfl
end
def IH (n:Nat):Nat:=n+15
def iT:List G1:=[MG,mQ,kP,sD,MK,tO,qK,FA,wL,yZ,zD]
def aN8:List G1:=[iU,rV,iM]
def aC2:(iT.all fun t=>aN8.all fun w=>!(t==w))=true:=by kernel_rfl
def Yi {t w:G1}(h:t∈iT)(a:w∈aN8):(t==w)=false:=by
 have:=B6.1 (B6.1 aC2 t h) w a
 rwa [D8] at this
def EF {l:List D}{i:Nat}{k:Int}{t:G1}{ws:List Tk}(h:K6 l i ((k,t)::ws))(c:t∈iT):∃ k t a b e,l[i]? = some (tk k t a b e)∧t∈iT:=by obtain⟨a,b,e,h⟩:=K1 h;exact⟨k,t,a,b,e,h,c⟩
def It {l:List D}{T:NT}(g:T=wO∨T=KH){n:Nat}{x:D}(h:xN T x){i:Nat}(d:K6 l i (wI (n+1) x)):∃ k t a b e,l[i]? = some (tk k t a b e)∧t∈iT:=by
 obtain⟨nm,ty,q,f,sg,es,fs,rfl,_,hm,_⟩:=nN h;have c:(ty==dC)=false∧ty∈iT:=by
  rcases g with rfl|rfl
  ·simp only [wO,C3,C7] at hm;rw [hm.1];exact⟨rfl,by simp [iT]⟩
  ·simp only [KH,B7,C7,List.not_mem_nil,or_false] at hm;rcases hm with h|h
   ·rw [h.1];exact⟨rfl,by simp [iT]⟩
   ·rw [h.1];exact⟨rfl,by simp [iT]⟩
 have d:K6 l i (nW nm ty sg es fs++[(3,[59])]):=d;rw [Wf,c.1] at d;exact EF (show K6 l i ((1,ty)::_) from d) c.2
def Qw {l:List D}{n:Nat}{x:D}(h:xI n x){i:Nat}(d:K6 l i (wI n x)):∃ k t a b e,l[i]? = some (tk k t a b e)∧t∈iT:=by
 cases n with
 |zero=>exact h.elim
 |succ n=>
  rcases h with (h|h)|⟨nm,e,rfl,m,g⟩|⟨nm,rfl,m⟩|⟨l0,e,rfl,o,g⟩|⟨f,rfl,j⟩|⟨f,rfl,j⟩|⟨sg,es,its,f,rfl,_⟩|⟨k,ps,qs,rfl,_⟩|⟨es,its,rfl,p,_⟩|⟨e,its,els,rfl,g,_⟩
  ·exact It (.inl rfl) h d
  ·exact It (.inr rfl) h d
  ·exact EF (show K6 l i ((1,sD)::_) from d) (by simp [iT])
  ·exact EF (show K6 l i ((1,MK)::_) from d) (by simp [iT])
  ·exact EF (show K6 l i ((1,tO)::_) from d) (by simp [iT])
  ·exact EF (show K6 l i ((1,qK)::_) from d) (by simp [iT])
  ·exact EF (show K6 l i ((1,qK)::_) from d) (by simp [iT])
  ·exact EF (show K6 l i ((1,FA)::_) from d) (by simp [iT])
  ·exact EF (show K6 l i ((1,wL)::_) from d) (by simp [iT])
  ·match es,p,d with
   |[a,b,c],_,d=>exact EF (show K6 l i ((1,yZ)::_) from d) (by simp [iT])
  ·exact EF (show K6 l i ((1,zD)::_) from d) (by simp [iT])
def aV0 (l:List D)(n:Nat):Prop:=∀ x,xI n x→∀ i,K6 l i (wI n x)→Nw l (i+(wI n x).length)→Pi (fun m=>O1 m) l i (wI n x).length (qI n x) (OI (2*n) x) (IH n)
section
variable {l:List D} (hl:l.length≤1000000) {n:Nat} (ih:aV0 l n)
include hl ih
def Vu {w:G1}(C:w=iU∨w=rV)(d O V W:Int)(J:0≤d)(A:d+IH n≤40):∀ (xs:List D) (i:Nat) (c:Int) (acc us:List D),(∀ x∈xs,xI n x)→K6 l i (xs.flatMap (wI n)++[(1,w)])→xs.length+acc.length≤100→0≤c→c+sQ (qI n) xs≤4000→Rl (OI (2*n)) us acc→U (fun m=>Q0 m (.str w) (.Z 5 l) (i:Int) d c O V W (0:Int) (.Z 14 acc)) fun r=>∃ ys,Rl (OI (2*n)) (us++xs) ys∧r=(false,[.str w,.Z 5 l,iD ((i+((xs.flatMap (wI n)).length+1):Nat):Int),iD d,iD (c+(sQ (qI n) xs:Nat)),iD O,iD V,iD W,iD 0,.Z 14 ys]):=by
 intro xs;have s:w∈aN8:=by rcases C with rfl|rfl<;>simp [aN8]
 induction xs with
 |nil=>intro i c acc us _ j _ F _ v;obtain⟨a,b,e,h1⟩:=K1 (show K6 l i [(1,w)] from j);refine I5 (fun m=>aQ m ..) (J5 (M3 (M6 d c O V W hl h1 (by rw [F3];rfl)) ?_));refine O9 (fun m=>P9.eq_1 m ..) (L3 (H8 ⟨acc,by rw [D5];exact v,?_⟩));show (_:Bool×List D)=(false,[.str w,.Z 5 l,iD ((i+(0+1):Nat):Int),iD d,iD (c+((0:Nat):Int)),iD O,iD V,iD W,iD 0,_]);rw [show c+((0:Nat):Int)=c from by omega];rfl
 |cons x xs p=>
  intro i c acc us q j H F E v;have E:c+((qI n x+sQ (qI n) xs:Nat):Int)≤4000:=E;rw [D9,C1] at j;obtain⟨h1,o⟩:=L6.1 j;have f:=q x (B8 ..);obtain⟨k,t,a0,M,L,h0,u⟩:=Qw f h1;have g:Nw l (i+(wI n x).length):=by
   cases xs with
   |nil=>obtain⟨a,b,e,B⟩:=K1 (show K6 l _ [(1,w)] from o);exact⟨1,w,a,b,e,B,by rcases C with rfl|rfl<;>rfl⟩
   |cons x2 xs=>rw [D9,C1] at o;obtain⟨k,t,a,b,e,g1,g2⟩:=Qw (q x2 (by simp)) (L6.1 o).1;exact⟨k,t,a,b,e,g1,Yi g2 (by simp [aN8])⟩
  have I:=ih x f i h1 g d c O V W J A F (by omega);simp only [A0] at H;refine I5 (fun m=>aQ m ..) (J5 (M3 (I7 d c O V W h0 (QO (Yi u s))) (O9 (fun m=>P9.eq_1 m ..) (J5 (H6 I ?_)))));rintro _ ds ⟨y,G,B⟩;cases B;refine⟨rfl,J5 (I4 (B2 (by show acc.length+[y].length≤L9;simp only [L9,A0,A8];omega)) ?_)⟩;have K:=p (i+(wI n x).length) (c+(qI n x:Int)) (acc++[y]) (us++[x]) (fun z h=>q z (C0 _ h)) o (by rw [A7,C9];omega) (by omega) (by omega) (v.snoc G);refine K.mono fun r ⟨ys,g1,g2⟩=>⟨ys,by rw [C1] at g1;exact g1,?_⟩;rw [g2,D9,A7,show i+(wI n x).length+((xs.flatMap (wI n)).length+1)=i+((wI n x).length+(xs.flatMap (wI n)).length+1) from by omega];show (_:Bool×List D)=(false,[.str w,.Z 5 l,iD ((i+((wI n x).length+(xs.flatMap (wI n)).length+1):Nat):Int),iD d,iD (c+((qI n x+sQ (qI n) xs:Nat):Int)),iD O,iD V,iD W,iD 0,_]);rw [show c+(qI n x:Int)+(sQ (qI n) xs:Int)=c+((qI n x+sQ (qI n) xs:Nat):Int) from by omega]
def Bb {w:G1}(f:w=iU∨w=rV){xs:List D}(p:xs.length≤10)(e:∀ x∈xs,xI n x){i:Nat}(g:K6 l i (xs.flatMap (wI n)++[(1,w)]))(d c O V W:Int)(k:0≤d)(a:d+IH n≤40)(o:0≤c)(j:c+sQ (qI n) xs≤4000) :U (fun m=>Q8 m (.str w) (.Z 5 l) (i:Int) d c O V W (0:Int)) fun r=>∃ ys,Rl (OI (2*n)) xs ys∧r=(true,[.Z 5 l,iD ((i+((xs.flatMap (wI n)).length+1):Nat):Int),iD d,iD (c+(sQ (qI n) xs:Nat)),iD O,iD V,iD W,iD 0,.Z 14 ys]):=by refine I5 (fun m=>jE m ..) (L4 (Vu hl ih f d O V W k a xs i c [] [] e g (by simp;omega) o j Rl.nil) (fun ds h=>by obtain⟨_,_,h⟩:=h;cases h) fun ds h=>?_);obtain⟨ys,b,h⟩:=h;cases h;exact J5 (H8 ⟨ys,b,rfl⟩)
def CT {t:G1}(o:qL t=true){xs:List D}(z:xs.length≤2)(f:∀ x∈xs,xI n x){i:Nat}(a:K6 l i ([(1,aM),(3,[58]),(1,t)]++(xs.flatMap (wI n)++[(1,iU)])))(d c O V W:Int)(p:0≤d)(b:d+IH n≤40)(q:0≤c)(h:c+sQ (qI n) xs≤4000) :U (fun m=>T4 m (.Z 5 l) (i:Int) d c O V W (0:Int)) fun r=>∃ y,OI (2*n+1) (gB t xs) y∧r=(true,[.Z 5 l,iD ((i+((xs.flatMap (wI n)).length+4):Nat):Int),iD d,iD (c+(sQ (qI n) xs:Nat)),iD O,iD V,iD W,iD 0,.Z 14 [y]]):=by
 have a:K6 l i ((1,aM)::(3,[58])::(1,t)::(xs.flatMap (wI n)++[(1,iU)])):=a;obtain⟨a1,w,e1,h1⟩:=K1 a;obtain⟨a2,E,B,v⟩:=K1 (M0 a);obtain⟨a3,C,A,u⟩:=K1 (M0 (M0 a));have s:=M0 (M0 (M0 a));have g:CG l i [aM,[58]]:=by
  intro j k;have:j=0∨j=1:=by simp at k;omega
  rcases this with rfl|rfl
  ·exact⟨1,_,_,_,h1,rfl⟩
  ·exact⟨3,_,_,_,v,rfl⟩
 refine I5 (fun m=>mD m ..) (M3 (O3 d c O V W h1) (M3 (M8 d c O V W hl [aM,[58]] (by decide) g) (M3 (fJ d c O V W hl u o) (H6 (Bb hl ih (.inl rfl) (by omega) f s d c O V W p b q h) ?_))));rintro _ ds ⟨ys,e,h0⟩;cases h0;refine⟨rfl,J5 (H8 ⟨_,aY2 a1 w e1 kY.nil kY.nil Rl.nil e,?_⟩)⟩;rw [show i+((xs.flatMap (wI n)).length+4)=i+1+1+1+((xs.flatMap (wI n)).length+1) from by omega];rfl
def Qm {es its:List D}(j:es.length=3)(r:∀ e∈es,gQ 4 e)(q:its.length≤2)(o:∀ x∈its,xI n x){i:Nat}(p:K6 l i (dX [105] es++([(1,aM),(3,[58]),(1,[103])]++(its.flatMap (wI n)++[(1,iU)])))) :Pi (fun m=>O1 m) l i ((dX [105] es).length+((its.flatMap (wI n)).length+4)) (1+sQ (qI n) its) (OI (2*n+1+1) (I 9 [105] [] false es [] [] [gB [103] its] [] [] [])) (IH (n+1)):=by
 obtain⟨g,A⟩:=L6.1 p;obtain⟨a1,E,e1,h1⟩:∃ a b e,l[i]? = some (tk 1 yZ a b e):=by
  match es,j,g with
  |[x,y,z],_,g=>exact K1 (show K6 l i ((1,yZ)::_) from g)
 intro d c O V W h f u s;have v:d+1+(IH n:Int)≤40:=by unfold IH at f ⊢;omega
 unfold IH at f;have L:=Iq hl (t:=[105]) (by kernel_rfl) j r g (d+1) (c+1) O V W (by omega) (by omega);have B:=CT hl ih (t:=[103]) (by kernel_rfl) q o A (d+1) (c+1) O V W (by omega) v (by omega) (by omega);(refine I5 (fun m=>P7 m ..) (M3 (bR l d c O V W (i:Int) (by omega) h) (L3 (M3 (S5 l (d+1) c O V W (i:Int) (by omega) u) (M3 (O3 (d+1) (c+1) O V W h1) ?_)))));(refine M3 (I7 (d+1) (c+1) O V W h1 rfl) (L3 (M3 (I7 (d+1) (c+1) O V W h1 rfl) (L3 (M3 (I7 (d+1) (c+1) O V W h1 rfl) (O9 (fun m=>N5.eq_1 m ..) (L3 ?_)))))));(refine M3 (I7 (d+1) (c+1) O V W h1 rfl) (L3 ?_));(refine M3 (I7 (d+1) (c+1) O V W h1 rfl) (L3 ?_));(refine M3 (I7 (d+1) (c+1) O V W h1 rfl) (L3 ?_));(refine M3 (I7 (d+1) (c+1) O V W h1 rfl) (L3 ?_));(refine M3 (I7 (d+1) (c+1) O V W h1 rfl) (L3 ?_));(refine M3 (I7 (d+1) (c+1) O V W h1 rfl) (L3 ?_));(refine M3 (M6 (d+1) (c+1) O V W hl h1 rfl) (J5 ?_));refine H6 L ?_;rintro _ ds ⟨C,w,h0⟩;cases h0;refine⟨rfl,J5 (H6 B ?_)⟩;rintro _ ds ⟨y,k,h0⟩;cases h0;refine⟨rfl,J5 ?_⟩;(refine O9 (fun m=>K5.eq_1 m ..) (M3 (aR l d (c+1+(sQ (qI n) its:Int)) O V W _ (by omega) h) ?_));refine H8 ⟨_,aY2 a1 E e1 w kY.nil Rl.nil (Rl.one k),?_⟩;rw [show i+((dX [105] es).length+((its.flatMap (wI n)).length+4))=i+(dX [105] es).length+((its.flatMap (wI n)).length+4) from by omega,show c+((1+sQ (qI n) its:Nat):Int)=c+1+(sQ (qI n) its:Int) from by omega];rfl
def Vn {e:D}{its els:List D}(r:gQ 4 e)(N:its.length≤2)(M:∀ x∈its,xI n x)(G:els=[]∨∃ ys,els=[gB [101] ys]∧ys.length≤2∧∀ i∈ys,xI n i){i:Nat}(j:K6 l i (wI (n+1) (I 10 [] [] false [e] [] [] [gB [116] its] els [] [])))(H:Nw l (i+(wI (n+1) (I 10 [] [] false [e] [] [] [gB [116] its] els [] [])).length)) :Pi (fun m=>O1 m) l i (wI (n+1) (I 10 [] [] false [e] [] [] [gB [116] its] els [] [])).length (qI (n+1) (I 10 [] [] false [e] [] [] [gB [116] its] els [] [])) (OI (2*n+1+1) (I 10 [] [] false [e] [] [] [gB [116] its] els [] [])) (IH (n+1)):=by
 have S:[gB [116] its].flatMap (JC (wI n))=[(1,aM),(3,[58]),(1,[116])]++(its.flatMap (wI n)++[(1,iU)]):=by show ([(1,aM),(3,[58]),(1,[116])]++(its.flatMap (wI n)++[(1,iU)]))++[]=_;rw [D5]
 have h:([gB [116] its].flatMap (JC (wI n))).length=(its.flatMap (wI n)).length+4:=by rw [S];simp only [G0];omega
 have u:wI (n+1) (I 10 [] [] false [e] [] [] [gB [116] its] els [] [])=[(1,zD)]++(pW e++([gB [116] its].flatMap (JC (wI n))++(bif els.isEmpty then [] else [(1,iM)]++els.flatMap (JC (wI n))))):=rfl;intro d c O V W s o P p;have J:d+1+(IH n:Int)≤40:=by unfold IH at o ⊢;omega
 unfold IH at o;rw [u] at j H;have j:=fM j;obtain⟨a1,T,e1,h1⟩:=K1 j;obtain⟨Q,k⟩:=L6.1 (M0 j);obtain⟨K,b⟩:=L6.1 k;rw [h] at b;rw [S] at K;clear k;rcases G with rfl|⟨ys,rfl,A,w⟩
 ·have v:(wI (n+1) (I 10 [] [] false [e] [] [] [gB [116] its] [] [] [])).length=1+(pW e).length+((its.flatMap (wI n)).length+4):=by
   rw [u];simp only [List.isEmpty_nil,cond_true,D5,A7,h,A0,A8];omega
  have q:qI (n+1) (I 10 [] [] false [e] [] [] [gB [116] its] [] [] [])=1+sQ (qI n) its:=by show 1+(0+(sQ (qI n) its+0)+0)=_;omega
  rw [q] at p;rw [← u,v] at H;obtain⟨kn,X,an,bn,en,g,F⟩:=H;have g:l[i+1+(pW e).length+((its.flatMap (wI n)).length+4)]? = some (tk kn X an bn en):=SA g (by omega);have B:=CT hl ih (t:=[116]) (by kernel_rfl) N M K (d+1) (c+1) O V W (by omega) J (by omega) (by omega);rw [v,q];(refine I5 (fun m=>P7 m ..) (M3 (bR l d c O V W (i:Int) (by omega) s) (L3 (M3 (S5 l (d+1) c O V W (i:Int) (by omega) P) (M3 (O3 (d+1) (c+1) O V W h1) ?_)))));(refine M3 (I7 (d+1) (c+1) O V W h1 rfl) (L3 (M3 (I7 (d+1) (c+1) O V W h1 rfl) (L3 (M3 (I7 (d+1) (c+1) O V W h1 rfl) (O9 (fun m=>N5.eq_1 m ..) (L3 ?_)))))));(refine M3 (I7 (d+1) (c+1) O V W h1 rfl) (L3 ?_));(refine M3 (I7 (d+1) (c+1) O V W h1 rfl) (L3 ?_));(refine M3 (I7 (d+1) (c+1) O V W h1 rfl) (L3 ?_));(refine M3 (I7 (d+1) (c+1) O V W h1 rfl) (L3 ?_));(refine M3 (I7 (d+1) (c+1) O V W h1 rfl) (L3 ?_));(refine M3 (I7 (d+1) (c+1) O V W h1 rfl) (L3 ?_));(refine M3 (I7 (d+1) (c+1) O V W h1 rfl) (L3 ?_));(refine M3 (M6 (d+1) (c+1) O V W hl h1 rfl) (J5 ?_));refine H6 (wC hl r Q (d+1) (c+1) O V W (by omega) (by omega)) ?_;rintro _ ds ⟨x,a,h0⟩;cases h0;have f:=a;obtain⟨k4,t4,r4,a4,b4,e4,s4,_,rfl⟩:=dW a;refine⟨rfl,J5 (H6 B ?_)⟩;rintro _ ds ⟨y,E,h0⟩;cases h0;refine⟨rfl,J5 (M3 (I7 (d+1) (c+1+(sQ (qI n) its:Int)) O V W g (QO F)) (L3 ?_))⟩;(refine O9 (fun m=>K5.eq_1 m ..) (M3 (aR l d (c+1+(sQ (qI n) its:Int)) O V W _ (by omega) s) ?_));refine H8 ⟨_,aY2 a1 T e1 (kY.one r f) kY.nil Rl.nil (Rl.one E),?_⟩;rw [show i+(1+(pW e).length+((its.flatMap (wI n)).length+4))=i+1+(pW e).length+((its.flatMap (wI n)).length+4) from by omega,show c+((1+sQ (qI n) its:Nat):Int)=c+1+(sQ (qI n) its:Int) from by omega];rfl
 ·have R:[gB [101] ys].flatMap (JC (wI n))=[(1,aM),(3,[58]),(1,[101])]++(ys.flatMap (wI n)++[(1,iU)]):=by
   show ([(1,aM),(3,[58]),(1,[101])]++(ys.flatMap (wI n)++[(1,iU)]))++[]=_;rw [D5]
  have L:([gB [101] ys].flatMap (JC (wI n))).length=(ys.flatMap (wI n)).length+4:=by rw [R];simp only [G0];omega
  have b:K6 l _ ([(1,iM)]++[gB [101] ys].flatMap (JC (wI n))):=b;rw [R] at b;have b:=fM b;obtain⟨a5,b5,e5,h5⟩:=K1 b;have h6:=M0 b;have v:(wI (n+1) (I 10 [] [] false [e] [] [] [gB [116] its] [gB [101] ys] [] [])).length=1+(pW e).length+((its.flatMap (wI n)).length+4)+1+((ys.flatMap (wI n)).length+4):=by rw [u];simp only [List.isEmpty_cons,cond_false,A7,h,L,A0,A8];omega
  have q:qI (n+1) (I 10 [] [] false [e] [] [] [gB [116] its] [gB [101] ys] [] [])=1+(sQ (qI n) its+sQ (qI n) ys):=by show 1+(0+(sQ (qI n) its+0)+(sQ (qI n) ys+0))=_;omega
  rw [q] at p;have B:=CT hl ih (t:=[116]) (by kernel_rfl) N M K (d+1) (c+1) O V W (by omega) J (by omega) (by omega);have C:=CT hl ih (t:=[101]) (by kernel_rfl) A w h6 (d+1) (c+1+(sQ (qI n) its:Int)) O V W (by omega) J (by omega) (by omega);rw [v,q];(refine I5 (fun m=>P7 m l i d c O V W 0) (M3 (bR l d c O V W (i:Int) (by omega) s) (L3 (M3 (S5 l (d+1) c O V W (i:Int) (by omega) P) (M3 (O3 (d+1) (c+1) O V W h1) ?_)))));(refine M3 (I7 (d+1) (c+1) O V W h1 rfl) (L3 (M3 (I7 (d+1) (c+1) O V W h1 rfl) (L3 (M3 (I7 (d+1) (c+1) O V W h1 rfl) (O9 (fun m=>N5.eq_1 m ..) (L3 ?_)))))));(refine M3 (I7 (d+1) (c+1) O V W h1 rfl) (L3 ?_));(refine M3 (I7 (d+1) (c+1) O V W h1 rfl) (L3 ?_));(refine M3 (I7 (d+1) (c+1) O V W h1 rfl) (L3 ?_));(refine M3 (I7 (d+1) (c+1) O V W h1 rfl) (L3 ?_));(refine M3 (I7 (d+1) (c+1) O V W h1 rfl) (L3 ?_));(refine M3 (I7 (d+1) (c+1) O V W h1 rfl) (L3 ?_));(refine M3 (I7 (d+1) (c+1) O V W h1 rfl) (L3 ?_));(refine M3 (M6 (d+1) (c+1) O V W hl h1 rfl) (J5 ?_));refine H6 (wC hl r Q (d+1) (c+1) O V W (by omega) (by omega)) ?_;rintro _ ds ⟨x,a,h0⟩;cases h0;have f:=a;obtain⟨k4,t4,r4,a4,b4,e4,s4,_,rfl⟩:=dW a;refine⟨rfl,J5 (H6 B ?_)⟩;rintro _ ds ⟨y,E,h0⟩;cases h0;refine⟨rfl,J5 (M3 (M6 (d+1) (c+1+(sQ (qI n) its:Int)) O V W hl h5 rfl) (J5 (H6 C ?_)))⟩;rintro _ ds ⟨z,hz,h0⟩;cases h0;refine⟨rfl,J5 ?_⟩;(refine O9 (fun m=>K5.eq_1 m ..) (M3 (aR l d (c+1+(sQ (qI n) its:Int)+(sQ (qI n) ys:Int)) O V W _ (by omega) s) ?_));refine H8 ⟨_,aY2 a1 T e1 (kY.one r f) kY.nil Rl.nil (Rl.one E) (Rl.one hz),?_⟩;rw [show i+(1+(pW e).length+((its.flatMap (wI n)).length+4)+1+((ys.flatMap (wI n)).length+4))=i+1+(pW e).length+((its.flatMap (wI n)).length+4)+1+((ys.flatMap (wI n)).length+4) from by omega,show c+((1+(sQ (qI n) its+sQ (qI n) ys):Nat):Int)=c+1+(sQ (qI n) its:Int)+(sQ (qI n) ys:Int) from by omega];rfl
end
def Pi.mono {F:PW}{l:List D}{i m q:Nat}{R:D→Prop}{h h':Nat}(H:Pi F l i m q R h)(hh:h≤h'):Pi F l i m q R h':=fun d c O V W e b f a=>H d c O V W e (by omega) f a
def Qc:∀ k:Nat,k≤8→qL [117,48+UInt8.ofNat k]=true:=by decide +kernel
def Yo {T:NT}(c:T=wO∨T=KH){n:Nat}{x:D}(h:xN T x){l:List D}(hl:l.length≤1000000){i:Nat}(b:K6 l i (wI (n+1) x)):Pi (fun m=>O1 m) l i (wI (n+1) x).length (qI (n+1) x) (OI (2*(n+1)) x) 16:=by
 obtain⟨nm,ty,q,f,sg,es,fs,rfl,g1,hm,o,k,j,g,e,d⟩:=nN h;have a:(ty==dC)=false:=by
  rcases c with rfl|rfl
  ·simp only [wO,C3,C7] at hm;rw [hm.1];rfl
  ·simp only [KH,B7,C7,List.not_mem_nil,or_false] at hm;rcases hm with h|h
   ·rw [h.1];rfl
   ·rw [h.1];rfl
 have p:wI (n+1) (I 1 nm ty sg es fs [] [] [] [] [])=[(1,ty)]++(nR nm ty sg es fs++[(3,[59])]):=by show nW nm ty sg es fs++[(3,[59])]=_;rw [Wf,a,C1];rfl
 rw [p] at b ⊢;exact (aN7 hl c g1 hm o k j g e d b (n:=2*n+1)).cast (by simp only [G0];omega) rfl
def aV5 {l:List D}(hl:l.length≤1000000):∀ n,aV0 l n
 |0=>fun _ h=>h.elim
 |n+1=>by
  have ih:=aV5 hl n;have a:16≤IH (n+1):=by unfold IH;omega
  intro x h i c m;rcases h with (h|h)|⟨nm,e,rfl,f,d⟩|⟨nm,rfl,f⟩|⟨l0,e,rfl,r,d⟩|⟨b,rfl,j⟩|⟨b,rfl,j⟩|⟨sg,es,its,b,rfl,u,d,B,t,g,j⟩|⟨k,ps,qs,rfl,z,hp,y,q,p⟩|⟨es,its,rfl,A,d,f,g⟩|⟨e,its,els,rfl,d,f,g,s⟩
  ·exact (Yo (.inl rfl) h hl c).mono a
  ·exact (Yo (.inr rfl) h hl c).mono a
  ·exact ((Wx hl f d (show K6 l i ([(1,sD)]++([(1,nm),(3,[61])]++(wE 4 e++[(3,[59])]))) from c) (n:=2*n+1)).cast (by show _=([(1,sD),(1,nm),(3,[61])]++(wE 4 e++[(3,[59])]):List Tk).length;simp only [G0];omega) rfl).mono a
  ·exact (Qn hl f (show K6 l i [(1,MK),(1,nm),(3,[59])] from c) (n:=2*n+1)).mono a
  ·exact ((Om hl r d (show K6 l i ([(1,tO)]++(wE 4 l0++([(3,[61])]++(wE 4 e++[(3,[59])])))) from c) (n:=2*n+1)).cast (by show _=([(1,tO)]++(wE 4 l0++([(3,[61])]++(wE 4 e++[(3,[59])]))):List Tk).length;simp only [G0];omega) rfl).mono a
  ·have v:(wI (n+1) (I 5 [] [] false [] [] [b] [] [] [] [])).length=3+(wS 4 b).length:=by
    show ([(1,qK),(3,[64]),(3,[42])]++wS 4 b:List Tk).length=_;simp only [G0]
   rw [v] at m ⊢;exact ((aB2 hl j (show K6 l i ([(1,qK),(3,[64]),(3,[42])]++wS 4 b) from c) m (n:=2*n+1)).cast rfl (by show 1+qS 4 b=1+((qS 4 b+0)+0+0);omega)).mono a
  ·have v:(wI (n+1) (I 6 AN [] false [] [] [b] [] [] [] [])).length=6+(wS 4 b).length:=by
    show ([(1,qK),(3,[64]),(3,[40]),(1,KE),(1,AN),(3,[41])]++wS 4 b:List Tk).length=_;simp only [G0]
   rw [v] at m ⊢;exact ((Ky hl j (show K6 l i ([(1,qK),(3,[64]),(3,[40]),(1,KE),(1,AN),(3,[41])]++wS 4 b) from c) m (n:=2*n+1)).cast rfl (by show 1+qS 4 b=1+((qS 4 b+0)+0+0);omega)).mono a
  ·exact ((aC1 hl u d t g j (show K6 l i ([(1,FA)]++((bif sg then [(1,pI)] else [])++(qV es++([(1,[102]),(3,[59])]++(its.flatMap IT++(wS 4 b++[(1,pS)])))))) from c) (n:=2*n)).cast (by (show _=([(1,FA)]++((bif sg then [(1,pI)] else [])++(qV es++([(1,[102]),(3,[59])]++(its.flatMap IT++(wS 4 b++[(1,pS)]))))):List Tk).length;have o:((bif sg then [(1,pI)] else []):List Tk).length=(bif sg then 1 else 0):=by cases sg<;>rfl);simp only [A7,o,A0,A8];omega) rfl).mono a
  ·have w:=Qc k.toNat z;rw [UInt8.ofNat_toNat] at w;exact ((aC4 hl w hp y q p (show K6 l i ([(1,wL)]++((bif ps.isEmpty then [] else [(3,[35])]++rA ps)++([(1,[117,48+k])]++(rA qs++[(3,[59])])))) from c) (n:=2*n+1)).cast (by show _=([(1,wL)]++((bif ps.isEmpty then [] else [(3,[35])]++rA ps)++([(1,[117,48+k])]++(rA qs++[(3,[59])]))):List Tk).length;cases ps.isEmpty<;>simp only [cond_true,cond_false,G0]<;>omega) rfl).mono a
  ·have E:[gB [103] its].flatMap (JC (wI n))=[(1,aM),(3,[58]),(1,[103])]++(its.flatMap (wI n)++[(1,iU)]):=by
    show ([(1,aM),(3,[58]),(1,[103])]++(its.flatMap (wI n)++[(1,iU)]))++[]=_;rw [D5]
   (have C:wI (n+1) (I 9 [105] [] false es [] [] [gB [103] its] [] [] [])=dX [105] es++([(1,aM),(3,[58]),(1,[103])]++(its.flatMap (wI n)++[(1,iU)])):=by rw [← E];rfl);rw [C] at c ⊢;exact (Qm hl ih A d f g c).cast (by simp only [G0];omega) (by show 1+sQ (qI n) its=1+(0+(sQ (qI n) its+0)+0);omega)
  ·exact Vn hl ih d f g s c m
end
def aJ3 (t:G1):Bool:=Nat.ble t.length 12&&(!t.isEmpty&&t.all fun c=>!(c==32)&&!(c==10))
def gw (t:G1):Prop:=aJ3 t=true
instance gw_dec (t:G1):Decidable (gw t):=inferInstanceAs (Decidable (_=true))
def Qp {t:G1}(h:gw t):t.length≤12:=by have h:aJ3 t=true:=h;rw [aJ3,A9] at h;exact B3 h.1
def nl:Tk:=(9,[])
def Uj (st:Bool×G1)(p:Tk):Bool×G1:=bif p.1==9 then (true,st.2++[10]) else (false,st.2++((bif !st.2.isEmpty&&!st.1 then [32] else [])++p.2))
def PI (its:List Tk)(st:Bool×G1):Bool×G1:=its.foldl Uj st
def gy (its:List Tk):Prop:=∀ p∈its,p=nl∨(p.1==9)=false∧gw p.2
def Zs (a b:List Tk)(st:Bool×G1):PI (a++b) st=PI b (PI a st):=by simp [PI,List.foldl_append]
def Nz:∀ {its:List Tk} (_:gy its) (st:Bool×G1),(PI its st).2.length≤st.2.length+14*its.length
 |[],_,st=>B9 _
 |p::its,a,st=>by
  have h:=Nz (its:=its) (fun q b=>a q (C0 _ b)) (Uj st p);have h1:(Uj st p).2.length≤st.2.length+14:=by
   rcases a p B8 with rfl|⟨e,c⟩
   ·show (st.2++[10]).length≤_;simp
   ·(have d:=Qp c;unfold Uj;rw [e];show (st.2++((bif !st.2.isEmpty&&!st.1 then [32] else [])++p.2)).length≤_;have:(bif !st.2.isEmpty&&!st.1 then [32] else []:G1).length≤1:=by cases !st.2.isEmpty&&!st.1<;>simp);simp only [A7];omega
  show (PI its (Uj st p)).2.length≤_;simp only [A0];omega
def Wr (st st':Bool×G1)(its:List Tk):Prop:=st'=PI its st∧gy its
def Wr.len {f b:Bool}{s a:G1}{its:List Tk}(h:Wr (f,s) (b,a) its):a.length≤s.length+14*its.length:=by have:=Nz h.2 (f,s);rw [← h.1] at this;exact this
def Wr.nil (st:Bool×G1):Wr st st []:=⟨rfl,fun _ h=>by cases h⟩
def Wr.app {a b c:Bool×G1}{u v:List Tk}(h:Wr a b u)(h':Wr b c v):Wr a c (u++v):=⟨by rw [h'.1,h.1,Zs],fun p hp=>(D3.1 hp).elim (h.2 p) (h'.2 p)⟩
def CN (a b:G1):P0 a++P0 b=P0 (a++b):=by simp [P0]
def tJ (a:G1):(P0 a).length=a.length:=List.length_map ..
def Ah (s:G1):(P0 s).all YJ=true:=by
 induction s with
 |nil=>rfl
 |cons x s ih=>simp only [P0,List.map_cons,List.all_cons] at ih ⊢;rw [ih];rfl
def N6 (sk:Sk)(f:Bool)(s:G1):M4 sk [.bool f,.Z 1 (P0 s)]=true:=by simp only [M4,List.all_cons,List.all_nil,Ah];rfl
abbrev aW4:=Nat→D→D→Out
def Pr (F:aW4)(ws:List Tk):Prop:=∀ (f:Bool) (s:G1),s.length+14*ws.length≤68000000000→U (fun n=>F n (.bool f) (.Z 1 (P0 s))) fun r=>∃ st:Bool×G1,r=(true,[.bool st.1,.Z 1 (P0 st.2)])∧Wr (f,s) st ws
def FU (ws:List Tk):Prop:=∀ p∈ws,(p.1==9)=false∧gw p.2
def aI7 {f:Bool}{s:G1}{p:Tk}(h:(p.1==9)=false∧gw p.2):Wr (f,s) (false,s++((bif !s.isEmpty&&!f then [32] else [])++p.2)) [p]:=
 ⟨by show _=Uj (f,s) p
     unfold Uj;rw [h.1];rfl,fun q a=>by rw [C3.1 a];exact .inr h⟩
def Gq {ws:List Tk}{i:Nat}(h:i<ws.length):ix (RW ws) ((i:Nat):Int) = .str (ws[i]'h).2:=by rw [ix,show ((i:Nat):Int).toNat=i from rfl,RW,List.getElem?_map,C2 h];rfl
def Ub {ws:List Tk}(p:FU ws)(hl:ws.length≤1000):∀ (m j:Nat) (f:Bool) (s:G1),ws.length-j=m→j≤ws.length→s.length+14*(ws.drop j).length≤68000000000→U (fun n=>X6 n (.Z 1 (RW ws)) ((RW ws).length:Int) (j:Int) (.bool f) (.Z 1 (P0 s))) fun r=>
   ∃ st:Bool×G1,r=(false,[.Z 1 (RW ws),iD ((RW ws).length:Int),iD (ws.length:Int),.bool st.1,.Z 1 (P0 st.2)])∧Wr (f,s) st (ws.drop j):=by
 intro m
 induction m with
 |zero=>
  intro j f s hm t k;have:j=ws.length:=by omega
  subst this;refine I5 (fun n=>pO n ..) (N8 (E8 (by rw [YW];omega)) (H8 ⟨(f,s),rfl,?_⟩));rw [List.drop_length];exact Wr.nil _
 |succ m ih=>
  intro j f s hm t k;have a:j<ws.length:=by omega
  have c:j<(RW ws).length:=by rw [YW];exact a
  have e:=p _ (C6 a);have v:=Qp e.2;rw [drop_cons a] at k ⊢;simp only [A0] at k;have W:=aI7 (f:=f) (s:=s) e;have fin:∀ st:Bool×G1,st=(false,s++((bif !s.isEmpty&&!f then [32] else [])++(ws[j]'a).2))→U (fun n=>X6 n (.Z 1 (RW ws)) ((RW ws).length:Int) (.int .i64 (i64.wrap ((j:Int)+1))) (.bool st.1) (.Z 1 (P0 st.2))) fun r=>∃ st:Bool×G1,r=(false,[.Z 1 (RW ws),iD ((RW ws).length:Int),iD (ws.length:Int),.bool st.1,.Z 1 (P0 st.2)])∧Wr (f,s) st (ws[j]::ws.drop (j+1)):=by intro st i;rw [← i] at W;obtain⟨w,s1⟩:=st;have l:=W.len;simp only [A0,A8] at l;rw [P4];refine (ih (j+1) w s1 (by omega) a (by omega)).mono fun r q=>?_;obtain⟨st,h1,u⟩:=q;exact⟨st,h1,W.app u⟩
  have J:∀ g:Bool,g=(!s.isEmpty&&!f)→U (fun n=>iB n g f (P0 s) (RW ws) (j:Int) ((RW ws).length:Int)) fun r=>∃ st:Bool×G1,r=(false,[.Z 1 (RW ws),iD ((RW ws).length:Int),iD (ws.length:Int),.bool st.1,.Z 1 (P0 st.2)])∧Wr (f,s) st (ws[j]::ws.drop (j+1)):=by
   intro g e;refine O9 (fun n=>iB.eq_1 n ..) ?_;have o:s.length≤68000000000:=by omega
   cases g with
   |true=>
    refine J5 (H6 (Q:=fun r=>r=(true,[.nili,.bool f,.Z 1 (P0 (s++[32]))])) ?_ ?_)
    ·refine I5 (fun n=>lV n ..) (I4 (B2 (by rw [tJ];simp only [L9];omega)) (H8 ?_));rw [← CN];rfl
    ·intro _ _ h;cases h;rw [Gq a];refine⟨rfl,J5 (H6 (Q:=fun r=>∃ d:Int,r=(true,[iD d,.nili,.bool f,.Z 1 (P0 (s++[32]++(ws[j]'a).2))])) ?_ ?_)⟩
     ·refine I5 (fun n=>kU n ..) (I4 ?_ (H8 ⟨((ws[j]'a).2.length:Int),?_⟩))
      ·show (Nat.ble ((P0 (s++[32])).length+(ws[j]'a).2.length) L9&&true)=true;rw [B2 (by rw [tJ,A7];simp only [L9,A0,A8];omega)];rfl
      ·rw [← CN (s++[32])];rfl
     ·rintro _ _ ⟨d,h⟩;cases h;refine⟨rfl,J5 (fin (false,s++[32]++(ws[j]'a).2) ?_)⟩;show _=(false,s++((bif !s.isEmpty&&!f then [32] else [])++(ws[j]'a).2));rw [← e,C1];rfl
   |false=>
    rw [Gq a];refine L3 (H6 (Q:=fun r=>∃ d:Int,r=(true,[iD d,.nili,.bool f,.Z 1 (P0 (s++(ws[j]'a).2))])) ?_ ?_)
    ·refine I5 (fun n=>kU n ..) (I4 ?_ (H8 ⟨((ws[j]'a).2.length:Int),?_⟩))
     ·show (Nat.ble ((P0 s).length+(ws[j]'a).2.length) L9&&true)=true;rw [B2 (by rw [tJ];simp only [L9];omega)];rfl
     ·rw [← CN s];rfl
    ·rintro _ _ ⟨d,h⟩;cases h;refine⟨rfl,J5 (fin (false,s++(ws[j]'a).2) ?_)⟩;show _=(false,s++((bif !s.isEmpty&&!f then [32] else [])++(ws[j]'a).2));rw [← e];rfl
  refine I5 (fun n=>pO n ..) (I4 (E6 (by rw [YW];omega)) (I4 (P1 c) (I4 (by rw [Gq a];rfl) ?_)));refine M3 (I5 (fun n=>yD n f (P0 s)) (H8 (P:=fun r=>r=_) rfl)) (K0 (fun h=>?_) fun h=>?_)
  ·refine J _ ?_;have h:0<((P0 s).length:Int):=E7 h;rw [tJ] at h
   cases s with
   |nil=>simp at h
   |cons=>simp [Y,D.b]
  ·refine J _ ?_;have h:¬ (0<((P0 s).length:Int)):=E9 h;rw [tJ] at h
   cases s with
   |nil=>rfl
   |cons=>simp at h
def N7 {ws:List Tk}(b:FU ws)(hl:ws.length≤1000):Pr (fun n=>H7 n (.Z 1 (RW ws))) ws:=by intro f s c;refine I5 (fun n=>DG n ..) (L4 (Ub b hl ws.length 0 f s rfl (C4 _) (by rw [List.drop_zero];exact c)) (fun ds h=>by obtain⟨_,h,_⟩:=h;cases h) fun ds h=>?_);obtain⟨st,h,a⟩:=h;cases h;exact J5 (H8 ⟨st,rfl,a⟩)
section
def K8 {ws:List Tk}(h:(ws.all fun p=>!(p.1==9)&&aJ3 p.2)=true):FU ws:=fun p hp=>by have:=B6.1 h p hp;rw [A9,D8] at this;exact this
def S9 {p:Tk}{ws:List Tk}(h:gw p.2)(h':FU ws)(b:(p.1==9)=false:=by rfl):FU (p::ws):=fun q a=>by
 rcases B7.1 a with rfl|a
 ·exact⟨b,h⟩
 ·exact h' q a
def jL {T:List G1}(h:T.all aJ3=true){t:G1}(a:t∈T):gw t:=B6.1 h t a
def aA7 (w:D→List Tk)(es:List D):List Tk:=match es with
 |[]=>[]
 |[x]=>[(3,[91])]++(w x++[(3,[93])])
 |x::y::_=>[(3,[91])]++(w x++([(3,[58])]++(w y++[(3,[93])])))
def aL6 (es:List D):aA7 (wE 4) es=qV es:=by
 match es with
 |[]=>rfl
 |[x]=>rfl
 |x::y::_=>rfl
def zB:Nat→D→Prop
 |0,_=>False
 |n+1,x=>∃ k c u1 b t ar,x=PE k c u1 b t ar∧FT k t ar.length∧∀ a∈ar,zB n a
def aR4 {d:Nat}{x:D}(h:zB d x):K4 J0 x=x∧kX J0 x=true:=by
 cases d with
 |zero=>exact h.elim
 |succ d=>obtain⟨k,b,u1,a,t,xs,rfl,_⟩:=h;exact⟨rfl,rfl⟩
def Nj {d:Nat}{x:D}(h:zB d x):(dA J0&&kX J0 x)=true:=by rw [(aR4 h).2];rfl
def aU6 (n:Nat)(k b u1 a:Int)(t:G1)(ar:List D):wE (n+1) (PE k b u1 a t ar)=kW (wE n) k t ar:=rfl
section
variable {d:Nat} (hE:∀ x,zB d x→Pr (fun n=>L8 n x) (wE d x))
include hE
def JL {x:D}(a:zB d x):Pr (fun n=>L8 n (K4 J0 x)) (wE d x):=by rw [(aR4 a).1];exact hE x a
def Kq {x:D}(l:zB d x):Pr (fun n=>dF n (K4 J0 x)) (aW (wE d) x):=by
 rw [(aR4 l).1];have hp:=hE x l
 cases d with
 |zero=>exact l.elim
 |succ d=>
  obtain⟨k,i,u1,c,t,xs,rfl,_⟩:=l;intro f s j;have J:∀ g,RV (PE k i u1 c t xs)=g→U (fun n=>iQ n g f (P0 s) k i u1 c t xs) fun r=>∃ st:Bool×G1,r=(true,[.bool st.1,.Z 1 (P0 st.2)])∧Wr (f,s) st (aW (wE (d+1)) (PE k i u1 c t xs)):=by
   intro g w;refine O9 (fun n=>iQ.eq_1 n ..) ?_;unfold aW at j ⊢;rw [w] at j ⊢
   cases g with
   |true=>simp only [cond_true,G0] at j;refine J5 ?_;(refine H6 ((N7 (ws:=[(3,[40])]) (K8 rfl) (by decide) f s (by simp only [A0,A8];omega))) ?_;rintro _ _ ⟨⟨z,s1⟩,h,w1⟩;cases h;have p:=Wr.len w1;(try simp only [G0] at p);refine⟨rfl,I4 (L0 rfl (N6 _ _ _)) ?_⟩);(refine H6 (hp z s1 (by omega)) ?_;rintro _ _ ⟨⟨q,m⟩,h,b⟩;cases h;have a:=Wr.len b;(try simp only [G0] at a);refine⟨rfl,J5 ?_⟩);(refine H6 ((N7 (ws:=[(3,[41])]) (K8 rfl) (by decide) q m (by simp only [A0,A8];omega))) ?_;rintro _ _ ⟨⟨y,v⟩,h,u⟩;cases h;have o:=Wr.len u;(try simp only [G0] at o);refine⟨rfl,I4 (L0 rfl (N6 _ _ _)) ?_⟩);exact H8 ⟨(y,v),rfl,w1.app (b.app u)⟩
   |false=>simp only [cond_false] at j;refine L3 ?_;(refine H6 (hp f s j) ?_;rintro _ _ ⟨⟨q,m⟩,h,b⟩;cases h;have a:=Wr.len b;(try simp only [G0] at a);refine⟨rfl,J5 ?_⟩);exact H8 ⟨(q,m),rfl,b⟩
  refine I5 (fun n=>EN n k i u1 c t xs f (P0 s)) ?_;have e:RV (PE k i u1 c t xs)=(k==3||(k==4||k==5)):=rfl;refine K0 (fun h=>J true (by rw [e,show (k==3)=true from h];rfl)) fun h=>K0 (fun h'=>J true (by rw [e,show (k==3)=false from h,show (k==4)=true from h'];rfl)) fun h'=>J (k==5) (by rw [e,show (k==3)=false from h,show (k==4)=false from h'];rfl)
def Lo {xs:List D}(A:xs.length≤100)(v:∀ x∈xs,zB d x):∀ (m j:Nat) (f:Bool) (s:G1),xs.length-j=m→j≤xs.length→s.length+14*((bif j==0||j==xs.length then [] else [(3,[44])])++lW (wE d) (xs.drop j):List Tk).length≤68000000000→U (fun n=>X5 n (.Z 6 xs) (xs.length:Int) (j:Int) (.bool f) (.Z 1 (P0 s))) fun r=>
   ∃ st:Bool×G1,r=(false,[.Z 6 xs,iD (xs.length:Int),iD (xs.length:Int),.bool st.1,.Z 1 (P0 st.2)])∧Wr (f,s) st ((bif j==0||j==xs.length then [] else [(3,[44])])++lW (wE d) (xs.drop j)):=by
 intro m
 induction m with
 |zero=>
  intro j f s hm z b;have:j=xs.length:=by omega
  subst this;refine I5 (fun n=>pL n ..) (N8 aY0 (H8 ⟨(f,s),rfl,?_⟩));rw [F3,Bool.or_true,List.drop_length];exact Wr.nil _
 |succ m ih=>
  intro j f s hm z b;have a:j<xs.length:=by omega
  have t:=v xs[j] (C6 a);have hp:=JL hE t;have p:(j==xs.length)=false:=F4.2 (by omega);have o:(j+1==0)=false:=F4.2 (by omega);have sp:lW (wE d) (xs.drop j)=wE d xs[j]++((bif j+1==0||j+1==xs.length then [] else [(3,[44])])++lW (wE d) (xs.drop (j+1))):=by
   rw [drop_cons a,o,Bool.false_or]
   cases hd:xs.drop (j+1) with
   |nil=>(have:j+1=xs.length:=by have:=congrArg List.length hd;simp at this;omega);rw [this,F3];show wE d xs[j]=wE d xs[j]++([]++[]);simp
   |cons y r=>(have:(j+1==xs.length)=false:=by have:=congrArg List.length hd;simp only [F9,A0] at this;exact F4.2 (by omega));rw [this];rfl
  rw [sp,p,Bool.or_false] at b ⊢;have fin:∀ (e:Bool) (s1:G1) (u:List Tk),Wr (f,s) (e,s1) u→s1.length+14*((bif j+1==0||j+1==xs.length then [] else [(3,[44])])++lW (wE d) (xs.drop (j+1)):List Tk).length≤68000000000→U (fun n=>X5 n (.Z 6 xs) (xs.length:Int) (.int .i64 (i64.wrap ((j:Int)+1))) (.bool e) (.Z 1 (P0 s1))) fun r=>∃ st:Bool×G1,r=(false,[.Z 6 xs,iD (xs.length:Int),iD (xs.length:Int),.bool st.1,.Z 1 (P0 st.2)])∧Wr (f,s) st (u++((bif j+1==0||j+1==xs.length then [] else [(3,[44])])++lW (wE d) (xs.drop (j+1)))):=by intro e s1 u w b;rw [P4];exact (ih (j+1) e s1 (by omega) a b).mono fun r ⟨st,h1,i⟩=>⟨st,h1,w.app i⟩
  generalize ((bif j+1==0||j+1==xs.length then [] else [(3,[44])])++lW (wE d) (xs.drop (j+1)):List Tk)=rest at b fin ⊢;refine I5 (fun n=>pL n ..) (I4 aX8 (I4 (P1 a) ?_));rw [bS a];refine I4 (Nj t) (K0 (fun h0=>?_) fun h0=>?_)
  ·have h0:=E7 h0;rw [show (j==0)=false from F4.2 (by omega)] at b ⊢;simp only [cond_false,G0] at b;(refine H6 ((N7 (ws:=[(3,[44])]) (K8 rfl) (by decide) f s (by simp only [A0,A8];omega))) ?_;rintro _ _ ⟨⟨e,s1⟩,h,w1⟩;cases h;have l:=Wr.len w1;(try simp only [G0] at l);refine⟨rfl,I4 (L0 rfl (N6 _ _ _)) ?_⟩);(refine H6 (hp e s1 (by omega)) ?_;rintro _ _ ⟨⟨q,k⟩,h,g⟩;cases h;have c:=Wr.len g;(try simp only [G0] at c);refine⟨rfl,J5 ?_⟩);refine (fin q k _ (w1.app g) (by omega)).mono fun r ⟨st,h1,i⟩=>⟨st,h1,?_⟩;rw [C1] at i;exact i
  ·(have h0:=E9 h0;have:j=0:=by omega);subst this;simp only [F3,cond_true,List.nil_append,A7] at b;(refine H6 (hp f s (by omega)) ?_;rintro _ _ ⟨⟨q,k⟩,h,g⟩;cases h;have c:=Wr.len g;(try simp only [G0] at c);refine⟨rfl,J5 ?_⟩);exact fin q k _ g (by omega)
def FI {xs:List D}(c:xs.length≤100)(a:∀ x∈xs,zB d x):Pr (fun n=>P6 n (.Z 6 xs)) (lW (wE d) xs):=by intro f s e;refine I5 (fun n=>DC n ..) (L4 (Lo hE c a xs.length 0 f s rfl (C4 _) (by simpa using e)) (fun ds h=>by obtain⟨_,h,_⟩:=h;cases h) fun ds h=>?_);obtain⟨st,h,b⟩:=h;cases h;exact J5 (H8 ⟨st,rfl,by simpa using b⟩)
def WG {es:List D}(hl:es.length≤2)(k:∀ x∈es,zB d x):Pr (fun n=>R7 n (.Z 6 es)) (aA7 (wE d) es):=by
 intro f s m;refine I5 (fun n=>yX n ..) ?_
 match es,hl,k,m with
 |[],_,_,_=>exact J5 (H8 ⟨(f,s),rfl,Wr.nil _⟩)
 |[x],_,k,m=>
  have h1:=k x (by simp);have q:=JL hE h1;simp only [aA7,G0] at m;refine L3 ?_;(refine H6 ((N7 (ws:=[(3,[91])]) (K8 rfl) (by decide) f s (by simp only [A0,A8];omega))) ?_;rintro _ _ ⟨⟨p,s1⟩,h,w1⟩;cases h;have i:=Wr.len w1;(try simp only [G0] at i);refine⟨rfl,I4 (L0 rfl (N6 _ _ _)) ?_⟩);refine L4 (Q:=fun r=>∃ st:Bool×G1,r=(false,[.Z 6 [x],iD 1,iD 1,.bool st.1,.Z 1 (P0 st.2)])∧Wr (p,s1) st (wE d x)) ?_ (fun ds h=>by obtain⟨_,h,_⟩:=h;cases h) fun ds h=>?_
  ·refine I5 (fun n=>cX n ..) (J5 (J5 (I4 (Nj h1) (L3 ?_))));(refine H6 (q p s1 (by omega)) ?_;rintro _ _ ⟨⟨j,e⟩,h,a⟩;cases h;have g:=Wr.len a;(try simp only [G0] at g);refine⟨rfl,J5 ?_⟩);exact I5 (fun n=>cX n ..) (L3 (H8 ⟨(j,e),rfl,a⟩))
  ·obtain⟨⟨j,e⟩,h,a⟩:=h;cases h;have v:=a.len;refine J5 ?_;(refine H6 ((N7 (ws:=[(3,[93])]) (K8 rfl) (by decide) j e (by simp only [A0,A8];omega))) ?_;rintro _ _ ⟨⟨o,l⟩,h,c⟩;cases h;have b:=Wr.len c;(try simp only [G0] at b);refine⟨rfl,I4 (L0 rfl (N6 _ _ _)) ?_⟩);exact H8 ⟨(o,l),rfl,w1.app (a.app c)⟩
 |[x,y],_,k,m=>
  have h1:=k x (by simp);have w:=k y (by simp);have q:=JL hE h1;have p2:=JL hE w;simp only [aA7,G0] at m;refine L3 ?_;(refine H6 ((N7 (ws:=[(3,[91])]) (K8 rfl) (by decide) f s (by simp only [A0,A8];omega))) ?_;rintro _ _ ⟨⟨p,s1⟩,h,w1⟩;cases h;have i:=Wr.len w1;(try simp only [G0] at i);refine⟨rfl,I4 (L0 rfl (N6 _ _ _)) ?_⟩);refine L4 (Q:=fun r=>∃ st:Bool×G1,r=(false,[.Z 6 [x,y],iD 2,iD 2,.bool st.1,.Z 1 (P0 st.2)])∧Wr (p,s1) st (wE d x++([(3,[58])]++wE d y))) ?_ (fun ds h=>by obtain⟨_,h,_⟩:=h;cases h) fun ds h=>?_
  ·refine I5 (fun n=>cX n ..) (J5 (J5 (I4 (Nj h1) (L3 ?_))));(refine H6 (q p s1 (by omega)) ?_;rintro _ _ ⟨⟨j,e⟩,h,a⟩;cases h;have g:=Wr.len a;(try simp only [G0] at g);refine⟨rfl,J5 ?_⟩);refine I5 (fun n=>cX n ..) (J5 (J5 (I4 (Nj w) (J5 ?_))));(refine H6 ((N7 (ws:=[(3,[58])]) (K8 rfl) (by decide) j e (by simp only [A0,A8];omega))) ?_;rintro _ _ ⟨⟨o,l⟩,h,c⟩;cases h;have b:=Wr.len c;(try simp only [G0] at b);refine⟨rfl,I4 (L0 rfl (N6 _ _ _)) ?_⟩);(refine H6 (p2 o l (by omega)) ?_;rintro _ _ ⟨⟨A,z⟩,h,u⟩;cases h;have t:=Wr.len u;(try simp only [G0] at t);refine⟨rfl,J5 ?_⟩);exact I5 (fun n=>cX n ..) (L3 (H8 ⟨(A,z),rfl,a.app (c.app u)⟩))
  ·obtain⟨⟨j,e⟩,h,a⟩:=h;cases h;have v:=a.len;simp only [G0] at v;refine J5 ?_;(refine H6 ((N7 (ws:=[(3,[93])]) (K8 rfl) (by decide) j e (by simp only [A0,A8];omega))) ?_;rintro _ _ ⟨⟨o,l⟩,h,c⟩;cases h;have b:=Wr.len c;(try simp only [G0] at b);refine⟨rfl,I4 (L0 rfl (N6 _ _ _)) ?_⟩);have W:=w1.app (a.app c);refine H8 ⟨(o,l),rfl,?_⟩;simpa [aA7] using W
def ZU {x:D}(h1:zB d x):Pr (fun n=>O5 n (.Z 6 [x]) (.Z 1 [])) (aW (wE d) x):=by
 intro f s i;have e:=Kq hE h1;refine I5 (fun n=>lG n ..) (L4 (Q:=fun r=>∃ st:Bool×G1,r=(false,[.Z 1 [],.Z 6 [x],iD 1,iD 1,.bool st.1,.Z 1 (P0 st.2)])∧Wr (f,s) st (aW (wE d) x)) ?_ (fun ds h=>by obtain⟨_,h,_⟩:=h;cases h) fun ds h=>?_)
 ·refine I5 (fun n=>V0 n ..) (J5 (J5 (I4 (Nj h1) (L3 (L3 ?_)))));(refine H6 (e f s i) ?_;rintro _ _ ⟨⟨j,c⟩,h,b⟩;cases h;have a:=Wr.len b;(try simp only [G0] at a);refine⟨rfl,J5 ?_⟩);exact I5 (fun n=>V0 n ..) (L3 (H8 ⟨(j,c),rfl,b⟩))
 ·obtain⟨st,h,g⟩:=h;cases h;exact J5 (H8 ⟨st,rfl,g⟩)
def Ou {x y:D}{o:G1}(t:gw o)(h1:zB d x)(j:zB d y):Pr (fun n=>O5 n (.Z 6 [x,y]) (.Z 1 [.str o])) (aW (wE d) x++([(3,o)]++aW (wE d) y)):=by
 intro f s u;have p:=Kq hE h1;have p2:=Kq hE j;simp only [G0] at u;refine I5 (fun n=>lG n ..) (L4 (Q:=fun r=>∃ st:Bool×G1,r=(false,[.Z 1 [.str o],.Z 6 [x,y],iD 2,iD 2,.bool st.1,.Z 1 (P0 st.2)])∧Wr (f,s) st (aW (wE d) x++([(3,o)]++aW (wE d) y))) ?_ (fun ds h=>by obtain⟨_,h,_⟩:=h;cases h) fun ds h=>?_)
 ·refine I5 (fun n=>V0 n ..) (J5 (J5 (I4 (Nj h1) (L3 (L3 ?_)))));(refine H6 (p f s (by omega)) ?_;rintro _ _ ⟨⟨z,m⟩,h,i⟩;cases h;have c:=Wr.len i;(try simp only [G0] at c);refine⟨rfl,J5 ?_⟩);refine I5 (fun n=>V0 n ..) (J5 (J5 (I4 (Nj j) (J5 (J5 (J5 (J5 ?_)))))));(refine H6 ((N7 (ws:=[(3,o)]) (S9 t (K8 rfl)) (by simp) z m (by simp only [A0,A8];omega))) ?_;rintro _ _ ⟨⟨w,l⟩,h,g⟩;cases h;have b:=Wr.len g;(try simp only [G0] at b);refine⟨rfl,I4 (L0 rfl (N6 _ _ _)) ?_⟩);(refine H6 (p2 w l (by omega)) ?_;rintro _ _ ⟨⟨v,k⟩,h,e⟩;cases h;have a:=Wr.len e;(try simp only [G0] at a);refine⟨rfl,J5 ?_⟩);exact I5 (fun n=>V0 n ..) (L3 (H8 ⟨(v,k),rfl,i.app (g.app e)⟩))
 ·obtain⟨st,h,q⟩:=h;cases h;exact J5 (H8 ⟨st,rfl,q⟩)
def Ov {x y z:D}(h1:zB d x)(p:zB d y)(o:zB d z):Pr (fun n=>O5 n (.Z 6 [x,y,z]) (.Z 1 [.str [63],.str [58]])) (aW (wE d) x++([(3,[63])]++(aW (wE d) y++([(3,[58])]++aW (wE d) z)))):=by
 intro f s C;have A:=Kq hE h1;have p2:=Kq hE p;have p3:=Kq hE o;simp only [G0] at C;refine I5 (fun n=>lG n ..) (L4 (Q:=fun r=>∃ st:Bool×G1,r=(false,[.Z 1 [.str [63],.str [58]],.Z 6 [x,y,z],iD 3,iD 3,.bool st.1,.Z 1 (P0 st.2)])∧Wr (f,s) st (aW (wE d) x++([(3,[63])]++(aW (wE d) y++([(3,[58])]++aW (wE d) z))))) ?_ (fun ds h=>by obtain⟨_,h,_⟩:=h;cases h) fun ds h=>?_)
 ·refine I5 (fun n=>V0 n ..) (J5 (J5 (I4 (Nj h1) (L3 (L3 ?_)))));(refine H6 (A f s (by omega)) ?_;rintro _ _ ⟨⟨I,w⟩,h,m⟩;cases h;have g:=Wr.len m;(try simp only [G0] at g);refine⟨rfl,J5 ?_⟩);refine I5 (fun n=>V0 n ..) (J5 (J5 (I4 (Nj p) (J5 (J5 (J5 (J5 ?_)))))));(refine H6 ((N7 (ws:=[(3,[63])]) (K8 rfl) (by decide) I w (by simp only [A0,A8];omega))) ?_;rintro _ _ ⟨⟨H,v⟩,h,l⟩;cases h;have e:=Wr.len l;(try simp only [G0] at e);refine⟨rfl,I4 (L0 rfl (N6 _ _ _)) ?_⟩);(refine H6 (p2 H v (by omega)) ?_;rintro _ _ ⟨⟨G,u⟩,h,k⟩;cases h;have c:=Wr.len k;(try simp only [G0] at c);refine⟨rfl,J5 ?_⟩);refine I5 (fun n=>V0 n ..) (J5 (J5 (I4 (Nj o) (J5 (J5 (J5 (J5 ?_)))))));(refine H6 ((N7 (ws:=[(3,[58])]) (K8 rfl) (by decide) G u (by simp only [A0,A8];omega))) ?_;rintro _ _ ⟨⟨F,t⟩,h,j⟩;cases h;have b:=Wr.len j;(try simp only [G0] at b);refine⟨rfl,I4 (L0 rfl (N6 _ _ _)) ?_⟩);(refine H6 (p3 F t (by omega)) ?_;rintro _ _ ⟨⟨E,q⟩,h,i⟩;cases h;have a:=Wr.len i;(try simp only [G0] at a);refine⟨rfl,J5 ?_⟩);exact I5 (fun n=>V0 n ..) (L3 (H8 ⟨(E,q),rfl,m.app (l.app (k.app (j.app i)))⟩))
 ·obtain⟨st,h,B⟩:=h;cases h;exact J5 (H8 ⟨st,rfl,B⟩)
end
end
def KZ:∀ (d:Nat) (x:D),zB d x→Pr (fun n=>L8 n x) (wE d x):=by
 intro d
 induction d with
 |zero=>intro x h;exact h.elim
 |succ d ih=>
  rintro x ⟨k,R,u1,Q,t,ar,rfl,L,i⟩ f s c;rw [aU6] at c ⊢;refine I5 (fun n=>DB n ..) ?_;rcases L with ⟨rfl,p,hm⟩|⟨rfl,p,hm⟩|⟨rfl,p,hm⟩|⟨rfl,p,hm⟩|⟨rfl,rfl,hm⟩|⟨rfl,rfl,hm,r⟩|⟨rfl,rfl,hm,r⟩|⟨rfl,p,hm⟩|⟨rfl,p,hm⟩|⟨rfl,p,hm,r⟩
  ·have g:=jL (T:=Ca) rfl p;(replace c:s.length+14*([(2,t)]:List Tk).length≤68000000000:=c;simp only [G0] at c);refine L3 (L3 (L3 (L3 (L3 (L3 (L3 (L3 ?_)))))));(refine H6 ((N7 (ws:=[(2,t)]) (S9 g (K8 rfl)) (by simp) f s (by simp only [A0,A8];omega))) ?_;rintro _ _ ⟨⟨o,s1⟩,h,w1⟩;cases h;have b:=Wr.len w1;(try simp only [G0] at b);refine⟨rfl,I4 (L0 rfl (N6 _ _ _)) ?_⟩);exact H8 ⟨(o,s1),rfl,w1⟩
  ·have g:=jL (T:=dP) rfl p;(replace c:s.length+14*([(1,t)]:List Tk).length≤68000000000:=c;simp only [G0] at c);refine L3 (L3 (L3 (L3 (L3 (L3 (L3 (L3 ?_)))))));(refine H6 ((N7 (ws:=[(1,t)]) (S9 g (K8 rfl)) (by simp) f s (by simp only [A0,A8];omega))) ?_;rintro _ _ ⟨⟨o,s1⟩,h,w1⟩;cases h;have b:=Wr.len w1;(try simp only [G0] at b);refine⟨rfl,I4 (L0 rfl (N6 _ _ _)) ?_⟩);exact H8 ⟨(o,s1),rfl,w1⟩
  ·have g:=jL (T:=Ts) rfl p
   match ar,hm,i with
   |[x],_,i=>have h1:=i x (by simp);(replace c:s.length+14*([(3,t)]++aW (wE d) x:List Tk).length≤68000000000:=c;simp only [G0] at c);refine J5 ?_;(refine H6 ((N7 (ws:=[(3,t)]) (S9 g (K8 rfl)) (by simp) f s (by simp only [A0,A8];omega))) ?_;rintro _ _ ⟨⟨o,s1⟩,h,w1⟩;cases h;have b:=Wr.len w1;(try simp only [G0] at b);refine⟨rfl,I4 (L0 rfl (N6 _ _ _)) ?_⟩);(refine H6 (ZU ih h1 o s1 (by omega)) ?_;rintro _ _ ⟨⟨m,l⟩,h,j⟩;cases h;have a:=Wr.len j;(try simp only [G0] at a);refine⟨rfl,J5 ?_⟩);exact H8 ⟨(m,l),rfl,w1.app j⟩
  ·have g:=jL (T:=Wm) rfl p
   match ar,hm,i with
   |[x,y],_,i=>have h1:=i x (by simp);have E:=i y (by simp);refine L3 (J5 ?_);(refine H6 (Ou ih g h1 E f s c) ?_;rintro _ _ ⟨⟨m,l⟩,h,j⟩;cases h;have a:=Wr.len j;(try simp only [G0] at a);refine⟨rfl,I4 (L0 rfl (N6 _ _ _)) ?_⟩);exact H8 ⟨(m,l),rfl,j⟩
  ·match ar,hm,i with
   |[x,y,z],_,i=>have h1:=i x (by simp);have E:=i y (by simp);have N:=i z (by simp);refine L3 (L3 (J5 ?_));(refine H6 (Ov ih h1 E N f s c) ?_;rintro _ _ ⟨⟨m,l⟩,h,j⟩;cases h;have a:=Wr.len j;(try simp only [G0] at a);refine⟨rfl,I4 (L0 rfl (N6 _ _ _)) ?_⟩);exact H8 ⟨(m,l),rfl,j⟩
  ·(replace c:s.length+14*([(3,[123])]++(lW (wE d) ar++[(3,[125])]):List Tk).length≤68000000000:=c;simp only [G0] at c);refine L3 (L3 (L3 (J5 ?_)));(refine H6 ((N7 (ws:=[(3,[123])]) (K8 rfl) (by decide) f s (by simp only [A0,A8];omega))) ?_;rintro _ _ ⟨⟨o,s1⟩,h,w1⟩;cases h;have b:=Wr.len w1;(try simp only [G0] at b);refine⟨rfl,I4 (L0 rfl (N6 _ _ _)) ?_⟩);(refine H6 (FI ih (xs:=ar) (by omega) i o s1 (by omega)) ?_;rintro _ _ ⟨⟨m,l⟩,h,j⟩;cases h;have a:=Wr.len j;(try simp only [G0] at a);refine⟨rfl,J5 ?_⟩);(refine H6 ((N7 (ws:=[(3,[125])]) (K8 rfl) (by decide) m l (by simp only [A0,A8];omega))) ?_;rintro _ _ ⟨⟨A,v⟩,h,u⟩;cases h;have q:=Wr.len u;(try simp only [G0] at q);refine⟨rfl,I4 (L0 rfl (N6 _ _ _)) ?_⟩);exact H8 ⟨(A,v),rfl,w1.app (j.app u)⟩
  ·match ar,hm,r,i with
   |x::rest,_,r,i=>
    (have h1:=i x (by simp);have w:=JL ih h1;have M:∀ y∈rest,zB d y:=fun y K=>i y (C0 _ K);have J:rest.length≤100:=by simp only [A0] at r;omega);have p2:=FI ih J M;(replace c:s.length+14*([(3,[123])]++(wE d x++([(3,[123])]++(lW (wE d) rest++[(3,[125]),(3,[125])]))):List Tk).length≤68000000000:=c;simp only [G0] at c);refine L3 (L3 (L3 (L3 (J5 ?_))));(refine H6 ((N7 (ws:=[(3,[123])]) (K8 rfl) (by decide) f s (by simp only [A0,A8];omega))) ?_;rintro _ _ ⟨⟨o,s1⟩,h,w1⟩;cases h;have b:=Wr.len w1;(try simp only [G0] at b);refine⟨rfl,I4 (L0 rfl (N6 _ _ _)) ?_⟩);refine I4 (by simp) (I4 (Nj h1) ?_);(refine H6 (w o s1 (by omega)) ?_;rintro _ _ ⟨⟨m,l⟩,h,j⟩;cases h;have a:=Wr.len j;(try simp only [G0] at a);refine⟨rfl,J5 ?_⟩);(refine H6 ((N7 (ws:=[(3,[123])]) (K8 rfl) (by decide) m l (by simp only [A0,A8];omega))) ?_;rintro _ _ ⟨⟨A,v⟩,h,u⟩;cases h;have q:=Wr.len u;(try simp only [G0] at q);refine⟨rfl,I4 (L0 rfl (N6 _ _ _)) ?_⟩);refine I4 (by simp;omega) ?_;have e:((x::rest).drop 1).take (((x::rest).length:Int).toNat-1)=rest:=by show rest.take (rest.length+1-1)=rest;rw [Nat.add_sub_cancel,List.take_length]
    rw [e];(refine H6 (p2 A v (by omega)) ?_;rintro _ _ ⟨⟨P,I⟩,h,G⟩;cases h;have C:=Wr.len G;(try simp only [G0] at C);refine⟨rfl,J5 ?_⟩);(refine H6 ((N7 (ws:=[(3,[125]),(3,[125])]) (K8 rfl) (by decide) P I (by simp only [A0,A8];omega))) ?_;rintro _ _ ⟨⟨O,H⟩,h,F⟩;cases h;have B:=Wr.len F;(try simp only [G0] at B);refine⟨rfl,I4 (L0 rfl (N6 _ _ _)) ?_⟩);exact H8 ⟨(O,H),rfl,w1.app (j.app (u.app (G.app F)))⟩
  ·have g:=jL (T:=dP) rfl p
   match ar,hm,i with
   |[x],_,i=>have w:=WG ih (es:=[x]) (by simp) i;refine L3 (L3 (L3 (L3 (L3 (J5 (J5 ?_))))));(replace c:s.length+14*([(1,t)]++aA7 (wE d) [x]:List Tk).length≤68000000000:=c;simp only [G0] at c);(refine H6 ((N7 (ws:=[(1,t)]) (S9 g (K8 rfl)) (by simp) f s (by simp only [A0,A8];omega))) ?_;rintro _ _ ⟨⟨o,s1⟩,h,w1⟩;cases h;have b:=Wr.len w1;(try simp only [G0] at b);refine⟨rfl,I4 (L0 rfl (N6 _ _ _)) ?_⟩);(refine H6 (w o s1 (by omega)) ?_;rintro _ _ ⟨⟨m,l⟩,h,j⟩;cases h;have a:=Wr.len j;(try simp only [G0] at a);refine⟨rfl,J5 ?_⟩);exact H8 ⟨(m,l),rfl,w1.app j⟩
  ·have g:=jL (T:=dP) rfl p
   match ar,hm,i with
   |[x,y],_,i=>have w:=WG ih (es:=[x,y]) (by simp) i;refine L3 (L3 (L3 (L3 (L3 (L3 (J5 ?_))))));(replace c:s.length+14*([(1,t)]++aA7 (wE d) [x,y]:List Tk).length≤68000000000:=c;simp only [G0] at c);(refine H6 ((N7 (ws:=[(1,t)]) (S9 g (K8 rfl)) (by simp) f s (by simp only [A0,A8];omega))) ?_;rintro _ _ ⟨⟨o,s1⟩,h,w1⟩;cases h;have b:=Wr.len w1;(try simp only [G0] at b);refine⟨rfl,I4 (L0 rfl (N6 _ _ _)) ?_⟩);(refine H6 (w o s1 (by omega)) ?_;rintro _ _ ⟨⟨m,l⟩,h,j⟩;cases h;have a:=Wr.len j;(try simp only [G0] at a);refine⟨rfl,J5 ?_⟩);exact H8 ⟨(m,l),rfl,w1.app j⟩
  ·have g:=jL (T:=KU) rfl p;(replace c:s.length+14*([(1,t),(3,[40])]++(lW (wE d) ar++[(3,[41])]):List Tk).length≤68000000000:=c;simp only [G0] at c);refine L3 (L3 (L3 (L3 (L3 (L3 (L3 (J5 ?_)))))));(refine H6 ((N7 (ws:=[(1,t),(3,[40])]) (S9 g (K8 rfl)) (by simp) f s (by simp only [A0,A8];omega))) ?_;rintro _ _ ⟨⟨o,s1⟩,h,w1⟩;cases h;have b:=Wr.len w1;(try simp only [G0] at b);refine⟨rfl,I4 (L0 rfl (N6 _ _ _)) ?_⟩);(refine H6 (FI ih (xs:=ar) (by omega) i o s1 (by omega)) ?_;rintro _ _ ⟨⟨m,l⟩,h,j⟩;cases h;have a:=Wr.len j;(try simp only [G0] at a);refine⟨rfl,J5 ?_⟩);(refine H6 ((N7 (ws:=[(3,[41])]) (K8 rfl) (by decide) m l (by simp only [A0,A8];omega))) ?_;rintro _ _ ⟨⟨A,v⟩,h,u⟩;cases h;have q:=Wr.len u;(try simp only [G0] at q);refine⟨rfl,I4 (L0 rfl (N6 _ _ _)) ?_⟩);exact H8 ⟨(A,v),rfl,w1.app (j.app u)⟩
def HK {w v:D→List Tk}:∀ {xs ys:List D},Rl (fun x y=>w x=v y) xs ys→lW w xs=lW v ys
 |[],[],_=>rfl
 |[x],[y],h=>h.2 0 (by simp) (by simp)
 |x::x'::r,y::b::c,h=>by have h0:=h.2 0 (by simp) (by simp);have ih:=HK (w:=w) (v:=v) (xs:=x'::r) (ys:=b::c) ⟨by simpa using h.1,fun i d a=>h.2 (i+1) (by simpa using d) (by simpa using a)⟩;show w x++((3,[44])::lW w (x'::r))=v y++((3,[44])::lW v (b::c));rw [ih,show w x=v y from h0]
 |[],_::_,h=>by have:=h.1;simp at this
 |_::_,[],h=>by have:=h.1;simp at this
 |[_],_::_::_,h=>by have:=h.1;simp at this
 |_::_::_,[_],h=>by have:=h.1;simp at this
def aT3 {w v:D→List Tk}{k:Int}{t:G1}{xs ys:List D}(m:FT k t xs.length)(d:Rl (fun x y=>w x=v y∧RV x=RV y) xs ys):kW w k t xs=kW v k t ys:=by
 have h:Rl (fun x y=>w x=v y) xs ys:=d.mono fun _ _ _ h=>h.1;have f:∀ {x y:D},w x=v y∧RV x=RV y→aW w x=aW v y:=fun h=>by unfold aW;rw [h.1,h.2]
 rcases m with ⟨rfl,_,hm⟩|⟨rfl,_,hm⟩|⟨rfl,_,hm⟩|⟨rfl,_,hm⟩|⟨rfl,_,hm⟩|⟨rfl,_,hm,g⟩|⟨rfl,_,hm,g⟩|⟨rfl,_,hm⟩|⟨rfl,_,hm⟩|⟨rfl,_,hm,g⟩
 ·rfl
 ·rfl
 ·match xs,ys,hm,d with
  |[a],[e],_,d=>show [(3,t)]++aW w a=[(3,t)]++aW v e;rw [show aW w a=aW v e from f (d.2 0 (by simp) (by simp))]
  |[a],[],_,d=>have:=d.1;simp at this
  |[a],_::_::_,_,d=>have:=d.1;simp at this
 ·match xs,ys,hm,d with
  |[a,b],[e,b'],_,d=>show aW w a++([(3,t)]++aW w b)=aW v e++([(3,t)]++aW v b');rw [show aW w a=aW v e from f (d.2 0 (by simp) (by simp)),show aW w b=aW v b' from f (d.2 1 (by simp) (by simp))]
  |[a,b],[],_,d=>have:=d.1;simp at this
  |[a,b],[_],_,d=>have:=d.1;simp at this
  |[a,b],_::_::_::_,_,d=>have:=d.1;simp at this
 ·match xs,ys,hm,d with
  |[a,b,c],[e,b',c'],_,d=>show aW w a++([(3,[63])]++(aW w b++([(3,[58])]++aW w c)))=aW v e++([(3,[63])]++(aW v b'++([(3,[58])]++aW v c')));rw [show aW w a=aW v e from f (d.2 0 (by simp) (by simp)),show aW w b=aW v b' from f (d.2 1 (by simp) (by simp)),show aW w c=aW v c' from f (d.2 2 (by simp) (by simp))]
  |[a,b,c],[],_,d=>have:=d.1;simp at this
  |[a,b,c],[_],_,d=>have:=d.1;simp at this
  |[a,b,c],[_,_],_,d=>have:=d.1;simp at this
  |[a,b,c],_::_::_::_::_,_,d=>have:=d.1;simp at this
 ·show [(3,[123])]++(lW w xs++[(3,[125])])=[(3,[123])]++(lW v ys++[(3,[125])]);rw [HK h]
 ·match xs,ys,hm,h with
  |a::r,e::l,_,h=>have h0:w a=v e:=h.2 0 (by simp) (by simp);have h1:lW w r=lW v l:=HK ⟨by simpa using h.1,fun i n j=>h.2 (i+1) (by simpa using n) (by simpa using j)⟩;show [(3,[123])]++(w a++([(3,[123])]++(lW w r++[(3,[125]),(3,[125])])))=[(3,[123])]++(v e++([(3,[123])]++(lW v l++[(3,[125]),(3,[125])])));rw [h0,h1]
  |a::r,[],_,h=>have:=h.1;simp at this
 ·match xs,ys,hm,h with
  |[a],[e],_,h=>have h0:w a=v e:=h.2 0 (by simp) (by simp);show [(1,t),(3,[91])]++(w a++[(3,[93])])=[(1,t),(3,[91])]++(v e++[(3,[93])]);rw [h0]
  |[a],[],_,h=>have:=h.1;simp at this
  |[a],_::_::_,_,h=>have:=h.1;simp at this
 ·match xs,ys,hm,h with
  |[a,b],[e,b'],_,h=>have h0:w a=v e:=h.2 0 (by simp) (by simp);have h1:w b=v b':=h.2 1 (by simp) (by simp);show [(1,t),(3,[91])]++(w a++([(3,[58])]++(w b++[(3,[93])])))=[(1,t),(3,[91])]++(v e++([(3,[58])]++(v b'++[(3,[93])])));rw [h0,h1]
  |[a,b],[],_,h=>have:=h.1;simp at this
  |[a,b],[_],_,h=>have:=h.1;simp at this
  |[a,b],_::_::_::_,_,h=>have:=h.1;simp at this
 ·show [(1,t),(3,[40])]++(lW w xs++[(3,[41])])=[(1,t),(3,[40])]++(lW v ys++[(3,[41])]);rw [HK h]
def Xv {n:Nat}{x y:D}(h:OE n x y):RV x=RV y:=by obtain⟨k,t,ar,a,b,e,c,rfl,rfl⟩:=dW h;rfl
def GC:∀ {n:Nat} {x y:D},OE n x y→wE n x=wE n y
 |0,_,_,h=>h.elim
 |n+1,_,_,⟨k,t,ar,a,b,e,c,f,d,g,i⟩=>by subst f d;show kW (wE n) k t ar=kW (wE n) k t c;exact aT3 g (i.mono fun x _ y h=>⟨GC h,Xv h⟩)
def Un:∀ {n:Nat} {x y:D},OE n x y→zB n y
 |0,_,_,h=>h.elim
 |n+1,_,_,⟨k,t,ar,a,b,e,d,l,j,m,c⟩=>by subst l j;refine⟨k,a,b,e,t,d,rfl,by rw [← c.1];exact m,fun z g=>?_⟩;obtain⟨i,f,rfl⟩:=List.getElem_of_mem g;exact Un (c.2 i (by rw [c.1];exact f) f)
def KO {es a:List D}(h:kY es a):∀ e∈a,zB 4 e:=fun z c=>by obtain⟨i,b,rfl⟩:=List.getElem_of_mem c;exact Un (h.2.2 i (by rw [h.2.1];exact b) b)
def Xw {es a:List D}(h:kY es a):lW (wE 4) es=lW (wE 4) a:=HK (h.2.mono fun _ _ _ h=>GC h)
section
def aV6 (f:Bool){s:G1}(a:s.length≤68000100000):U (fun n=>V2 n (.int .u8 10) (.bool f) (.Z 1 (P0 s))) fun r=>r=(true,[.nili,.bool f,.Z 1 (P0 (s++[10]))]):=by refine I5 (fun n=>lV n ..) (I4 (B2 (by rw [tJ];simp only [L9];omega)) (H8 ?_));rw [← CN];rfl
def qO {ws:List Tk}(a:FU ws)(h1:1≤ws.length)(hl:ws.length≤1000):Pr (fun n=>J4 n (.Z 1 (RW ws))) (ws++[nl]):=by intro f s c;simp only [G0] at c;refine I5 (fun n=>sU n ..) (H6 (N7 a hl f s (by omega)) ?_);rintro _ _ ⟨⟨e,s1⟩,h,w⟩;cases h;have l:=w.len;refine⟨rfl,J5 (M3 (aV6 e (s:=s1) (by omega)) (H8 ⟨(true,s1++[10]),rfl,w.app ⟨rfl,fun q b=>by rw [C3.1 b];exact .inl rfl⟩⟩))⟩
def aN2:Pr (fun n=>J4 n (.Z 1 [])) [nl]:=by intro f s b;simp only [A0,A8] at b;refine I5 (fun n=>sU n ..) (H6 (N7 (ws:=[]) (K8 rfl) (by decide) f s (by simp;omega)) ?_);rintro _ _ ⟨⟨c,s1⟩,h,w⟩;cases h;cases w.1;refine⟨rfl,J5 (M3 (aV6 f (s:=s) (by omega)) (H8 ⟨(true,s++[10]),rfl,rfl,fun q a=>by rw [C3.1 a];exact .inl rfl⟩))⟩
def aR6 (w:D→List Tk)(k:Int)(t:G1)(es bs zs:List D):List Tk:=
 bif k==1 then [(1,aM),nl]++(bs.flatMap w++[(1,iU),nl])
 else bif k==2 then wE 4 (x0 es)++([(3,[61])]++(wE 4 (x1 es)++[(3,[59]),nl]))
 else bif k==3 then wE 4 (x0 es)++([(3,[60,61])]++(wE 4 (x1 es)++[(3,[59]),nl]))
 else bif k==4 then [(1,zD)]++(pW (x0 es)++(w (x0 bs)++(bif ((x1 bs).at_ 0).i==8 then [] else [(1,iM)]++w (x1 bs))))
 else bif k==5 then [(1,sV)]++(pW (x0 es)++([nl]++(zs.flatMap (lE w)++[(1,gS),nl])))
 else bif k==6 then dX t es++w (x0 bs)
 else bif k==7 then (bif t.isEmpty then [] else [(1,t),(3,[58])])++([(1,rR)]++(pW (x0 es)++[(3,[59]),nl]))
 else [(3,[59]),nl]
def yS:Nat→D→List Tk
 |0,_=>[]
 |n+1,x=>aR6 (yS n) (x.at_ 0).i (x.at_ 1).s (x.at_ 2).l (x.at_ 3).l (x.at_ 4).l
def aU7 (n:Nat)(k:Int)(t:G1)(es bs zs:List D):yS (n+1) (S k t es bs zs)=aR6 (yS n) k t es bs zs:=rfl
def Kj {a:D}{ys:List D}(h:kY [a] ys):∃ b,ys=[b]∧zB 4 b∧wE 4 a=wE 4 b:=by
 have hp:=KO h;obtain⟨_,hl,c⟩:=h
 match ys,hl,c,hp with
 |[b],_,c,hp=>exact⟨b,rfl,hp b (by simp),GC (c 0 (by simp) (by simp))⟩
def aS1 {a b:D}{ys:List D}(h:kY [a,b] ys):∃ c b',ys=[c,b']∧zB 4 c∧zB 4 b'∧wE 4 a=wE 4 c∧wE 4 b=wE 4 b':=by
 have hp:=KO h;obtain⟨_,hl,e⟩:=h
 match ys,hl,e,hp with
 |[c,b'],_,e,hp=>exact⟨c,b',rfl,hp c (by simp),hp b' (by simp),GC (e 0 (by simp) (by simp)),GC (e 1 (by simp) (by simp))⟩
def aJ9 {a b c:D}{ys:List D}(h:kY [a,b,c] ys):∃ e b' c',ys=[e,b',c']∧zB 4 e∧zB 4 b'∧zB 4 c'∧wE 4 a=wE 4 e∧wE 4 b=wE 4 b'∧wE 4 c=wE 4 c':=by
 have hp:=KO h;obtain⟨_,hl,f⟩:=h
 match ys,hl,f,hp with
 |[e,b',c'],_,f,hp=>exact⟨e,b',c',rfl,hp e (by simp),hp b' (by simp),hp c' (by simp),GC (f 0 (by simp) (by simp)),GC (f 1 (by simp) (by simp)),GC (f 2 (by simp) (by simp))⟩
def MN {x:D}(h:zB 4 x):(dA J0&&kX J0 x)=true:=Nj h
def Ww {a b:D}(h:wE 4 a=wE 4 b):pW a=pW b:=by unfold pW;rw [h]
def Ip {t:G1}{a b c e b' c':D}(h1:wE 4 a=wE 4 e)(g:wE 4 b=wE 4 b')(f:wE 4 c=wE 4 c'):dX t [a,b,c]=dX t [e,b',c']:=by show [(1,yZ),(3,[40]),(1,t),(3,[61])]++(wE 4 a++([(3,[59])]++(wE 4 b++([(3,[59]),(1,t),(3,[61])]++(wE 4 c++[(3,[41])])))))=_;rw [h1,g,f];rfl
def UC {x:D}(a:zB 4 x):Pr (fun n=>L8 n (K4 J0 x)) (wE 4 x):=JL (KZ 4) a
def YI {x:D}(e:zB 4 x):Pr (fun n=>W6 n (K4 J0 x)) (pW x):=by have hp:=KZ 4 x e;rw [(aR4 e).1];obtain⟨k,m,u1,l,t,xs,rfl,_⟩:=e;intro f s g;(replace g:s.length+14*([(3,[40])]++(wE 4 (PE k m u1 l t xs)++[(3,[41])]):List Tk).length≤68000000000:=g;simp only [G0] at g);refine I5 (fun n=>zZ n ..) ?_;(refine H6 ((N7 (ws:=[(3,[40])]) (K8 rfl) (by decide) f s (by simp only [A0,A8];omega))) ?_;rintro _ _ ⟨⟨u,s1⟩,h,w1⟩;cases h;have c:=Wr.len w1;(try simp only [G0] at c);refine⟨rfl,I4 (L0 rfl (N6 _ _ _)) ?_⟩);(refine H6 (hp u s1 (by omega)) ?_;rintro _ _ ⟨⟨r,p⟩,h,j⟩;cases h;have b:=Wr.len j;(try simp only [G0] at b);refine⟨rfl,J5 ?_⟩);(refine H6 ((N7 (ws:=[(3,[41])]) (K8 rfl) (by decide) r p (by simp only [A0,A8];omega))) ?_;rintro _ _ ⟨⟨q,o⟩,h,i⟩;cases h;have a:=Wr.len i;(try simp only [G0] at a);refine⟨rfl,I4 (L0 rfl (N6 _ _ _)) ?_⟩);exact H8 ⟨(q,o),rfl,w1.app (j.app i)⟩
def Yk {t:G1}(z:gw t){a b c:D}(h1:zB 4 a)(B:zB 4 b)(A:zB 4 c):Pr (fun n=>cO n (.str t) (.Z 6 [a,b,c])) (dX t [a,b,c]):=by have J:=UC h1;have p2:=UC B;have p3:=UC A;intro f s o;(replace o:s.length+14*([(1,yZ),(3,[40]),(1,t),(3,[61])]++(wE 4 a++([(3,[59])]++(wE 4 b++([(3,[59]),(1,t),(3,[61])]++(wE 4 c++[(3,[41])]))))):List Tk).length≤68000000000:=o;simp only [G0] at o);refine I5 (fun n=>DD n ..) ?_;(refine H6 ((N7 (ws:=[(1,yZ),(3,[40]),(1,t),(3,[61])]) (S9 (by decide) (S9 (by decide) (S9 z (K8 rfl)))) (by simp) f s (by simp only [A0,A8];omega))) ?_;rintro _ _ ⟨⟨P,s1⟩,h,w1⟩;cases h;have m:=Wr.len w1;(try simp only [G0] at m);refine⟨rfl,I4 (L0 rfl (N6 _ _ _)) ?_⟩);refine J5 (I4 (MN h1) ?_);(refine H6 (J P s1 (by omega)) ?_;rintro _ _ ⟨⟨O,I⟩,h,w⟩;cases h;have l:=Wr.len w;(try simp only [G0] at l);refine⟨rfl,J5 ?_⟩);(refine H6 ((N7 (ws:=[(3,[59])]) (K8 rfl) (by decide) O I (by simp only [A0,A8];omega))) ?_;rintro _ _ ⟨⟨N,H⟩,h,v⟩;cases h;have k:=Wr.len v;(try simp only [G0] at k);refine⟨rfl,I4 (L0 rfl (N6 _ _ _)) ?_⟩);refine J5 (I4 (MN B) ?_);(refine H6 (p2 N H (by omega)) ?_;rintro _ _ ⟨⟨M,G⟩,h,u⟩;cases h;have j:=Wr.len u;(try simp only [G0] at j);refine⟨rfl,J5 ?_⟩);(refine H6 ((N7 (ws:=[(3,[59]),(1,t),(3,[61])]) (S9 (by decide) (S9 z (K8 rfl))) (by simp) M G (by simp only [A0,A8];omega))) ?_;rintro _ _ ⟨⟨L,F⟩,h,r⟩;cases h;have i:=Wr.len r;(try simp only [G0] at i);refine⟨rfl,I4 (L0 rfl (N6 _ _ _)) ?_⟩);refine J5 (I4 (MN A) ?_);(refine H6 (p3 L F (by omega)) ?_;rintro _ _ ⟨⟨K,E⟩,h,q⟩;cases h;have g:=Wr.len q;(try simp only [G0] at g);refine⟨rfl,J5 ?_⟩);(refine H6 ((N7 (ws:=[(3,[41])]) (K8 rfl) (by decide) K E (by simp only [A0,A8];omega))) ?_;rintro _ _ ⟨⟨f7,C⟩,h,p⟩;cases h;have e:=Wr.len p;(try simp only [G0] at e);refine⟨rfl,I4 (L0 rfl (N6 _ _ _)) ?_⟩);exact H8 ⟨(f7,C),rfl,w1.app (w.app (v.app (u.app (r.app (q.app p)))))⟩
def YL {Q:Bool×List D→Prop}{xs:List D}{w:D→List Tk}{T:Int→Bool→G1→Nat→Out}{f:Bool}{s:G1}(hl:xs.length≤1000)(g:s.length+14*(xs.flatMap w).length≤68000000000) (step:∀ (j:Nat) (f:Bool) (s:G1) (h:j<xs.length),s.length+14*(w xs[j]).length≤68000000000→(∀ a s1,Wr (f,s) (a,s1) (w xs[j])→U (T (i64.wrap ((j:Int)+1)) a s1) Q)→U (T (j:Int) f s) Q) (fin:∀ a s1,Wr (f,s) (a,s1) (xs.flatMap w)→U (T (xs.length:Int) a s1) Q):U (T 0 f s) Q:=by
 have aux:∀ (m j:Nat) (a:Bool) (s1:G1),xs.length-j=m→j≤xs.length→Wr (f,s) (a,s1) ((xs.take j).flatMap w)→s1.length+14*((xs.drop j).flatMap w).length≤68000000000→U (T (j:Int) a s1) Q:=by
  intro m
  induction m with
  |zero=>(intro j a s1 hm l c _;have:j=xs.length:=by omega);subst this;rw [List.take_length] at c;exact fin a s1 c
  |succ m ih=>
   (intro j a s1 hm l c g;have b:j<xs.length:=by omega);rw [drop_cons b,D9,A7] at g;refine step j a s1 b (by omega) fun o k i=>?_;have p:=i.len;rw [P4];refine ih (j+1) o k (by omega) (by omega) ?_ (by omega);have W:=c.app i;have e:(xs.take (j+1)).flatMap w=(xs.take j).flatMap w++w xs[j]:=by rw [List.take_add_one,C2 b,Option.toList_some,List.flatMap_append];simp
   rw [e];exact W
 exact aux xs.length 0 f s rfl (C4 _) (Wr.nil _) (by simpa using g)
def aJ0 {R:D→D→Prop}{a:D}{ys:List D}(h:Rl R [a] ys):∃ b,ys=[b]∧R a b:=by
 obtain⟨hl,c⟩:=h
 match ys,hl with
 |[b],_=>exact⟨b,rfl,c 0 (by simp) (by simp)⟩
def aV2 {R:D→D→Prop}{a b:D}{ys:List D}(h:Rl R [a,b] ys):∃ c b',ys=[c,b']∧R a c∧R b b':=by
 obtain⟨hl,e⟩:=h
 match ys,hl with
 |[c,b'],_=>exact⟨c,b',rfl,e 0 (by simp) (by simp),e 1 (by simp) (by simp)⟩
def HZ {n:Nat}{x y:D}(h:OS n x y):∃ k i j l t es bs zs b c a,x=S k t es bs zs∧y=AT k i j l t b c a:=by
 cases n with
 |zero=>exact h.elim
 |succ n=>obtain⟨k,i,j,l,t,es,bs,zs,b,c,a,h1,e,_⟩:=h;exact⟨k,i,j,l,t,es,bs,zs,b,c,a,h1,e⟩
def IA {n:Nat}{x y:D}(h:OS n x y):(dA M1&&kX M1 y)=true:=by obtain⟨k,i,j,l,t,es,bs,zs,b,c,a,_,rfl⟩:=HZ h;rfl
def YG {n:Nat}{x y:D}(h:OS n x y):K4 M1 y=y:=by obtain⟨k,i,j,l,t,es,bs,zs,b,c,a,_,rfl⟩:=HZ h;rfl
def Se:∀ (n:Nat) (x y:D),uN n x→OS n x y→U (fun m=>mT m y) fun r=>r=(true,[.bool (pE n x)]):=by
 intro n
 induction n with
 |zero=>intro x y h;exact h.elim
 |succ n ih=>
  rintro x y ⟨k,t,es,bs,zs,rfl,_,z,_,u⟩ ⟨N,i,j,l,L,H,J,C,g,K,E,e,rfl,_,_,_,A,_⟩;cases e;refine I5 (fun m=>ZQ m ..) ?_;rcases u with ⟨rfl,_⟩|⟨rfl|rfl,_⟩|⟨rfl,rfl,h1,⟨b,c,rfl,_⟩,rfl⟩|⟨rfl,_⟩|⟨rfl,rfl,h1,F,rfl⟩|⟨rfl,_⟩|⟨rfl,_⟩
  ·exact L3 (L3 (H8 rfl))
  ·exact L3 (L3 (H8 rfl))
  ·exact L3 (L3 (H8 rfl))
  ·obtain⟨b',c',rfl,a,q⟩:=aV2 A;have w:=z c (by simp);have ih:=ih c c' w q
   cases n with
   |zero=>exact w.elim
   |succ n=>
    obtain⟨o,P,O,M,v,g,s,p,G,I,B,rfl,rfl⟩:=HZ q;refine J5 (J5 (J5 (J5 (K0 (fun f=>?_) fun f=>?_))))
    ·have f:(o==8)=true:=f;refine H8 ?_;show _=(true,[D.bool (o==8||pE (n+1) (S o v g s p))]);rw [f];rfl
    ·have f:(o==8)=false:=f;refine J5 (J5 (H6 ih ?_));intro _ ds h;cases h;refine⟨rfl,J5 (H8 ?_)⟩;show _=(true,[D.bool (o==8||pE (n+1) (S o v g s p))]);rw [f];rfl
  ·exact L3 (L3 (H8 rfl))
  ·obtain⟨b,rfl⟩:∃ b,bs=[b]:=by
    match bs,F with
    |[b],_=>exact⟨b,rfl⟩
   obtain⟨b',rfl,a⟩:=aJ0 A;have ih:=ih b b' (z b (by simp)) a;refine L3 (J5 (J5 (I4 (IA a) ?_)));rw [show K4 M1 ([b'][0]?.getD D.top)=b' from YG a];refine H6 ih ?_;intro _ ds h;cases h;exact⟨rfl,J5 (H8 rfl)⟩
  ·exact L3 (L3 (H8 rfl))
  ·exact L3 (L3 (H8 rfl))
section
variable {d:Nat} (ih:∀ x y,uN d x→OS d x y→Pr (fun n=>M5 n y) (yS d x))
include ih
def Jt {x y:D}(h:uN d x)(h':OS d x y):Pr (fun n=>M5 n (K4 M1 y)) (yS d x):=by rw [YG h'];exact ih x y h h'
def aO9 {x y:D}(h:uN d x)(h':OS d x y)(m:pE d x=false):Pr (fun n=>fC n (K4 M1 y)) (yS d x):=by have a:=Se d x y h h';have hp:=ih x y h h';rw [YG h'];obtain⟨k,i,j,l,t,es,bs,zs,q,r,e,rfl,rfl⟩:=HZ h';rw [m] at a;intro f s o;refine I5 (fun n=>DF n ..) (H6 a ?_);intro _ ds h;cases h;refine⟨rfl,J5 (L3 ?_)⟩;(refine H6 (hp f s o) ?_;rintro _ _ ⟨⟨p,g⟩,h,c⟩;cases h;have b:=Wr.len c;(try simp only [G0] at b);refine⟨rfl,J5 ?_⟩);exact H8 ⟨(p,g),rfl,c⟩
def aH5 {xs ys:List D}(hl:xs.length≤10)(m:∀ x∈xs,uN d x)(i:Rl (OS d) xs ys)(f:Bool)(s:G1)(c:s.length+14*(xs.flatMap (yS d)).length≤68000000000) :U (fun n=>aB n (.Z 8 ys) (ys.length:Int) (0:Int) (.bool f) (.Z 1 (P0 s))) fun r=>∃ st:Bool×G1,r=(false,[.Z 8 ys,iD (ys.length:Int),iD (ys.length:Int),.bool st.1,.Z 1 (P0 st.2)])∧Wr (f,s) st (xs.flatMap (yS d)):=by
 have el:=i.1;refine YL (xs:=xs) (w:=yS d) (T:=fun j f s n=>aB n (.Z 8 ys) (ys.length:Int) j (.bool f) (.Z 1 (P0 s))) (by omega) c (fun j f s g c K=>?_) fun p s1 W=>?_
 ·have a:j<ys.length:=by omega
  have r:=i.2 j g a;have l:=Jt ih (m _ (C6 g)) r;refine I5 (fun n=>pM n ..) (I4 aX8 (I4 (P1 a) ?_));rw [bS a];refine I4 (IA r) ?_;(refine H6 (l f s c) ?_;rintro _ _ ⟨⟨o,k⟩,h,e⟩;cases h;have b:=Wr.len e;(try simp only [G0] at b);refine⟨rfl,J5 ?_⟩);exact K o k e
 ·exact I5 (fun n=>pM n ..) (N8 aY0 (H8 ⟨(p,s1),by rw [el],W⟩))
def aS8 {x y:D}(h:aI6 d x)(h':OA (OS d) x y):Pr (fun n=>gR n (K4 oA y)) (lE (yS d) x):=by
 obtain⟨C,b,k,i,j,l,t,fs,bs,zs,m,o,g,rfl,rfl,A,L⟩:=h';have z:=Xw A;have w:=KO A;have v:=A.2.1;obtain⟨es,K,e,hl,_,u⟩:=h;have e1:K=S k t fs bs zs:=by
  cases d with
  |zero=>exact u.elim
  |succ d=>obtain⟨W,V,P,T,G,rfl,_⟩:=u;cases e;rfl
 subst e1;have R:es=C:=by cases e;rfl
 subst R;have p2:=ih _ _ u L;have J:∀ (f:Bool) (s:G1),s.length+14*(lW (wE 4) es++([(3,[58])]++yS d (S k t fs bs zs)):List Tk).length≤68000000000→U (fun n=>lF n (P0 s) f b k i j l t m o g) fun r=>∃ st:Bool×G1,r=(true,[.bool st.1,.Z 1 (P0 st.2)])∧Wr (f,s) st (lW (wE 4) es++([(3,[58])]++yS d (S k t fs bs zs))):=by intro f s a;simp only [G0] at a;refine O9 (fun n=>lF.eq_1 n ..) ?_;rw [z] at a ⊢;(refine H6 (FI (KZ 4) (xs:=b) (by omega) w f s (by omega)) ?_;rintro _ _ ⟨⟨B,s1⟩,h,w1⟩;cases h;have c:=Wr.len w1;(try simp only [G0] at c);refine⟨rfl,J5 ?_⟩);(refine H6 ((N7 (ws:=[(3,[58])]) (K8 rfl) (by decide) B s1 (by simp only [A0,A8];omega))) ?_;rintro _ _ ⟨⟨O,I⟩,h,F⟩;cases h;have q:=Wr.len F;(try simp only [G0] at q);refine⟨rfl,I4 (L0 rfl (N6 _ _ _)) ?_⟩);(refine H6 (p2 O I (by omega)) ?_;rintro _ _ ⟨⟨N,H⟩,h,E⟩;cases h;have p:=Wr.len E;(try simp only [G0] at p);refine⟨rfl,J5 ?_⟩);exact H8 ⟨(N,H),rfl,w1.app (F.app E)⟩
 intro f s a;have Q:lE (yS d) (arm es (S k t fs bs zs))=(bif es.isEmpty then [(1,AQ)] else [])++(lW (wE 4) es++([(3,[58])]++yS d (S k t fs bs zs))):=rfl;rw [Q] at a ⊢;refine I5 (fun n=>EO n b k i j l t m o g f (P0 s)) (K0 (fun h=>?_) fun h=>?_)
 ·have h0:es=[]:=by
   have:=eq_of_beq h;exact E5.1 (by omega)
  subst h0;(replace a:s.length+14*([(1,AQ)]++(lW (wE 4) []++([(3,[58])]++yS d (S k t fs bs zs))):List Tk).length≤68000000000:=a;simp only [G0] at a);(refine H6 ((N7 (ws:=[(1,AQ)]) (K8 rfl) (by decide) f s (by simp only [A0,A8];omega))) ?_;rintro _ _ ⟨⟨B,s1⟩,h,w1⟩;cases h;have c:=Wr.len w1;(try simp only [G0] at c);refine⟨rfl,I4 (L0 rfl (N6 _ _ _)) ?_⟩);refine (J B s1 (by simp only [G0];omega)).mono fun r ⟨st,h1,M⟩=>⟨st,h1,w1.app M⟩
 ·have h0:es.isEmpty=false:=by
   cases es with
   |nil=>exact absurd h (by rw [show (b.length:Int)=0 from by simp at v;omega];decide)
   |cons=>rfl
  rw [h0] at a ⊢;exact J f s a
def aK8 {xs ys:List D}(hl:xs.length≤10)(o:∀ x∈xs,aI6 d x)(k:Rl (OA (OS d)) xs ys)(f:Bool)(s:G1)(c:s.length+14*(xs.flatMap (lE (yS d))).length≤68000000000) :U (fun n=>aC n (.Z 9 ys) (ys.length:Int) (0:Int) (.bool f) (.Z 1 (P0 s))) fun r=>∃ st:Bool×G1,r=(false,[.Z 9 ys,iD (ys.length:Int),iD (ys.length:Int),.bool st.1,.Z 1 (P0 st.2)])∧Wr (f,s) st (xs.flatMap (lE (yS d))):=by
 have el:=k.1;refine YL (xs:=xs) (w:=lE (yS d)) (T:=fun j f s n=>aC n (.Z 9 ys) (ys.length:Int) j (.bool f) (.Z 1 (P0 s))) (by omega) c (fun j f s i c K=>?_) fun q s1 W=>?_
 ·have a:j<ys.length:=by omega
  have r:=k.2 j i a;have m:=aS8 ih (o _ (C6 i)) r;refine I5 (fun n=>pN n ..) (I4 aX8 (I4 (P1 a) ?_));rw [bS a];refine I4 (by obtain⟨_,_,_,_,_,_,_,_,_,_,_,_,_,_,e,_⟩:=r;rw [e];rfl) ?_;(refine H6 (m f s c) ?_;rintro _ _ ⟨⟨p,l⟩,h,g⟩;cases h;have b:=Wr.len g;(try simp only [G0] at b);refine⟨rfl,J5 ?_⟩);exact K p l g
 ·exact I5 (fun n=>pN n ..) (N8 aY0 (H8 ⟨(q,s1),by rw [el],W⟩))
end
end
end Go.Proofs.YtalibicpmfbieaaGreatDoor
