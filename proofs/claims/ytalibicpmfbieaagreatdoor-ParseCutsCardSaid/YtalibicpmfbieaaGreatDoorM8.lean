import Derived.Test.YtalibicpmfbieaaGreatDoorYqT
import Derived.Test.YtalibicpmfbieaaGreatDoorM7
namespace Go.Proofs.YtalibicpmfbieaaGreatDoor
open Go.AE
set_option linter.all false
def MT:Bool→List Tk→G1
 |_,[]=>[]
 |f,p::r=>bif p.1==9 then 10::MT true r else ((bif f then [] else [32])++(p.2++MT false r))
def gL (its:List Tk):Prop:=∀ p∈its,p=nl∨p∈sS
def nn (its:List Tk):List Tk:=its.filter fun p=>!(p.1==9)
def Oa:∀ {its:List Tk} (_:gL its) (f:Bool) (s:G1),(f=false→s.isEmpty=false)→(PI its (f,s)).2=s++MT f its
 |[],_,f,s,_=>by show s=s++[];rw [D5]
 |p::r,h,f,s,e=>by
  have a:gL r:=fun q d=>h q (C0 _ d);show (PI r (Uj (f,s) p)).2=_;rcases h p (B8 ..) with rfl|hp
  ·show (PI r (true,s++[10])).2=s++(10::MT true r);rw [Oa a true _ (fun h=>by cases h),C1];rfl
  ·have b:=Jv hp;have g:=Gn hp;have e1:Uj (f,s) p=(false,s++((bif f then [] else [32])++p.2)):=by
    unfold Uj;rw [b]
    cases f with
    |true=>show (false,s++((bif !s.isEmpty&&false then [32] else [])++p.2))=_;rw [Bool.and_false];rfl
    |false=>show (false,s++((bif !s.isEmpty&&true then [32] else [])++p.2))=_;rw [e rfl];rfl
   rw [e1,Oa a false _ (fun _=>?_)]
   ·rw [show MT f (p::r)=(bif f then [] else [32])++(p.2++MT false r) from by rw [MT,b];rfl];simp only [C1]
   ·cases hp2:p.2 with
    |nil=>exact absurd hp2 g.ne
    |cons c t=>cases s<;>cases f<;>rfl
def Mt:List D→List Tk→Prop
 |[],[]=>True
 |y::ts,p::ws=>(∃ a b c,y=Gp p.1 p.2 a b c)∧Mt ts ws
 |_,_=>False
def JX:∀ {ts:List D} {ws:List Tk},Mt ts ws→ts.length=ws.length
 |[],[],_=>rfl
 |_::ts,_::ws,h=>by rw [A0,A0,JX h.2]
def Ym:∀ {ts:List D} {ws:List Tk} (_:Mt ts ws) (pre:List D),K6 (pre++ts) pre.length ws
 |[],[],_,_=>trivial
 |y::ts,p::ws,h,pre=>by obtain⟨⟨a,b,c,e⟩,d⟩:=h;have ih:=Ym d (pre++[y]);rw [C1,A7,C9] at ih;exact⟨⟨a,b,c,by rw [F5 (B9 _),Nat.sub_self,e];rfl⟩,ih⟩
def NH:∀ {ts:List D} {ws:List Tk},Mt ts ws→Uq ts
 |[],[],_=>fun y f=>by cases f
 |y::ts,p::ws,h=>fun z d=>by
  obtain⟨⟨a,b,c,e⟩,g⟩:=h;rcases B7.1 d with rfl|d
  ·exact⟨_,_,_,_,_,e⟩
  ·exact NH g z d
def Ly (u v:List Tk):Prop:=nn u=v∧u.length≤2*v.length∧gL u
def Rr (u v:List Tk):nn (u++v)=nn u++nn v:=List.filter_append ..
def Ly.nil:Ly [] []:=⟨rfl,B9 _,fun _ h=>by cases h⟩
def Ly.app {u v b a:List Tk}(h:Ly u v)(h':Ly b a):Ly (u++b) (v++a):=⟨by rw [Rr,h.1,h'.1],by have:=h.2.1;have:=h'.2.1;simp only [A7];omega,fun p hp=>(D3.1 hp).elim (h.2.2 p) (h'.2.2 p)⟩
def aE1:∀ {v:List Tk},Wk v→nn v=v
 |[],_=>rfl
 |p::v,h=>by have b:=Jv (h p (B8 ..));have ih:=aE1 (v:=v) fun q a=>h q (C0 _ a);unfold nn at ih ⊢;rw [List.filter_cons,b,ih];rfl
def Ly.w {v:List Tk}(h:Wk v):Ly v v:=⟨aE1 h,by omega,fun p hp=> .inr (h p hp)⟩
def Ly.e {v:List Tk}(h:Wk v)(a:v≠[]):Ly (v++[nl]) v:=by
 refine⟨by rw [Rr,aE1 h];show v++[]=v;rw [D5],?_,fun p hp=>?_⟩
 ·have:=List.length_pos_iff.2 a;rw [A7,C9];omega
 ·rcases D3.1 hp with h1|h1
  ·exact .inr (h p h1)
  ·exact .inl (C3.1 h1)
def Ly.flat {w v:D→List Tk}:∀ {xs:List D},(∀ x∈xs,Ly (w x) (v x))→Ly (xs.flatMap w) (xs.flatMap v)
 |[],_=> .nil
 |x::xs,h=>by rw [D9,D9];exact (h x (B8 ..)).app (Ly.flat fun y a=>h y (C0 _ a))
def Ly.TD:Ly [(3,[59]),nl] [(3,[59])]:=Ly.e (Wk.sg rfl) (by simp)
def Ly.kn {t:G1}(h:Be.contains t=true):Ly [(1,t),nl] [(1,t)]:=Ly.e (Wk.key h) (by simp)
def Ly.key {t:G1}(h:Be.contains t=true):Ly [(1,t)] [(1,t)]:=Ly.w (Wk.key h)
def Ly.sg {t:G1}(h:aO7.contains t=true):Ly [(3,t)] [(3,t)]:=Ly.w (Wk.sg h)
def k4 {x:D}(h:gQ 4 x):Wk (wE 4 x):=aP3 4 x h
def Ly.ex {x:D}(h:gQ 4 x):Ly (wE 4 x) (wE 4 x):=Ly.w (k4 h)
def Wv {x:D}(h:gQ 4 x):Wk (pW x):=(Wk.sg rfl).app ((k4 h).app (Wk.sg rfl))
def Wk.sZ {t:G1}{v:List Tk}(h:aO7.contains t=true)(h':Wk v):Wk ((3,t)::v):= .cons (Yj (List.contains_iff_mem.1 h)) h'
def Wk.iS {t:G1}{v:List Tk}(h:Be.contains t=true)(h':Wk v):Wk ((1,t)::v):= .cons (Qs (List.contains_iff_mem.1 h)) h'
def Im {t:G1}(b:Be.contains t=true){es:List D}(c:es.length=3)(a:∀ e∈es,gQ 4 e):Wk (dX t es):=by
 match es,c,a with
 |[x,y,z],_,a=>
  show Wk ([(1,yZ),(3,[40]),(1,t),(3,[61])]++(wE 4 x++([(3,[59])]++(wE 4 y++([(3,[59]),(1,t),(3,[61])]++(wE 4 z++[(3,[41])])))))
)
  exact (Wk.iS rfl (Wk.sZ rfl (Wk.iS b (Wk.sg rfl)))).app ((k4 (a x (by simp))).app ((Wk.sg rfl).app ((k4 (a y (by simp))).app ((Wk.sZ rfl (Wk.iS b (Wk.sg rfl))).app ((k4 (a z (by simp))).app (Wk.sg rfl))))))
def aD1 {x:D}(h:isLeft x):Wk (wE 4 x):=k4 (iL (by decide) (vV h))
def Ly.left {x:D}(h:isLeft x):Ly (wE 4 x) (wE 4 x):=Ly.w (aD1 h)
def Ke:∀ (n:Nat) (x:D),uN n x→Ly (yS n x) (wS n x)
 |0,_,h=>h.elim
 |n+1,x,h=>by
  obtain⟨k,t,es,bs,zs,rfl,d,l,u,m⟩:=h;have ih:=Ke n;have B:Ly (bs.flatMap (yS n)) (bs.flatMap (wS n)):=Ly.flat fun x j=>ih x (l x j);have A:Ly (zs.flatMap (lE (yS n))) (zs.flatMap (lE (wS n))):=Ly.flat fun a z=>by
   obtain⟨es,s,rfl,_,f,m⟩:=u a z;show Ly ((bif es.isEmpty then [(1,AQ)] else [])++(lW (wE 4) es++([(3,[58])]++yS n (IU (arm es s))))) ((bif es.isEmpty then [(1,AQ)] else [])++(lW (wE 4) es++([(3,[58])]++wS n (IU (arm es s)))));rw [To m];refine Ly.app ?_ ((Ly.w (XI fun x j=>k4 (f x j))).app ((Ly.sg rfl).app (ih s m)))
   cases es.isEmpty with
   |true=>exact Ly.key rfl
   |false=>exact Ly.nil
  show Ly (aR6 (yS n) k t es bs zs) (sW (wS n) k t es bs zs);rcases m with ⟨rfl,rfl,rfl,g,rfl⟩|⟨y,rfl,⟨x,e,rfl,j⟩,rfl,rfl⟩|⟨rfl,rfl,g,⟨b,c,rfl,v⟩,rfl⟩|⟨rfl,rfl,g,rfl,r,q⟩|⟨rfl,rfl,g,p,rfl⟩|⟨rfl,o,g,rfl,rfl⟩|⟨rfl,rfl,rfl,rfl,rfl⟩
  ·show Ly ([(1,aM),nl]++(bs.flatMap (yS n)++[(1,iU),nl])) ([(1,aM)]++(bs.flatMap (wS n)++[(1,iU)]));exact (Ly.kn rfl).app (B.app (Ly.kn rfl))
  ·have f:=d e (by simp);rcases y with rfl|rfl
   ·show Ly (wE 4 x++([(3,[61])]++(wE 4 e++[(3,[59]),nl]))) (wE 4 x++([(3,[61])]++(wE 4 e++[(3,[59])])));exact (Ly.left j).app ((Ly.sg rfl).app ((Ly.ex f).app Ly.TD))
   ·show Ly (wE 4 x++([(3,[60,61])]++(wE 4 e++[(3,[59]),nl]))) (wE 4 x++([(3,[60,61])]++(wE 4 e++[(3,[59])])));exact (Ly.left j).app ((Ly.sg rfl).app ((Ly.ex f).app Ly.TD))
  ·match es,g,d with
   |[e],_,d=>
    show Ly ([(1,zD)]++(pW e++(yS n b++(bif (c.at_ 0).i==8 then [] else [(1,iM)]++yS n c)))) ([(1,zD)]++(pW e++(wS n b++(bif (c.at_ 0).i==8 then [] else [(1,iM)]++wS n c))));refine (Ly.key rfl).app ((Ly.w (Wv (d e (by simp)))).app ((ih b (l b (by simp))).app ?_))
    cases (c.at_ 0).i==8 with
    |true=>exact Ly.nil
    |false=>exact (Ly.key rfl).app (ih c (l c (by simp)))
  ·match es,g,d with
   |[e],_,d=>show Ly ([(1,sV)]++(pW e++([nl]++(zs.flatMap (lE (yS n))++[(1,gS),nl])))) ([(1,sV)]++(pW e++(zs.flatMap (lE (wS n))++[(1,gS)])));rw [← C1 (pW e)];exact (Ly.key rfl).app ((Ly.e (Wv (d e (by simp))) (by simp [pW])).app (A.app (Ly.kn rfl)))
  ·match bs,p,l with
   |[b],_,l=>show Ly (dX [105] es++yS n b) (dX [105] es++wS n b);exact (Ly.w (Im rfl g d)).app (ih b (l b (by simp)))
  ·match es,g,d with
   |[e],_,d=>
    show Ly ((bif t.isEmpty then [] else [(1,t),(3,[58])])++([(1,rR)]++(pW e++[(3,[59]),nl]))) ((bif t.isEmpty then [] else [(1,t),(3,[58])])++([(1,rR)]++(pW e++[(3,[59])])));refine Ly.app ?_ ((Ly.key rfl).app ((Ly.w (Wv (d e (by simp)))).app Ly.TD));rcases o with rfl|rfl
    ·exact Ly.nil
    ·exact Ly.w (Wk.iS rfl (Wk.sg rfl))
  ·exact Ly.TD
def Pa {es:List D}(a:∀ e∈es,gQ 4 e):Wk (qV es):=by
 match es,a with
 |[],_=>exact Wk.nil
 |[x],a=>exact (Wk.sg (t:=[91]) rfl).app ((k4 (a x (by simp))).app (Wk.sg (t:=[93]) rfl))
 |x::y::r,a=>exact (Wk.sg (t:=[91]) rfl).app ((k4 (a x (by simp))).app ((Wk.sg (t:=[58]) rfl).app ((k4 (a y (by simp))).app (Wk.sg (t:=[93]) rfl))))
def aT7 {T:NT}(i:T=wO∨T=KH∨T=DI∨T=oN){nm ty:G1}{q:Nat}{f sg:Bool}{es fs:List D}(g:nm∈dP)(hm:(ty,q,f)∈T)(d:∀ e∈es,gQ 4 e)(c:∀ e∈fs,gQ 4 e)(b:fs=[]∨(f=true∧fs.length=1∧es.length≤2)):Wk (nW nm ty sg es fs):=by
 have a:=(Ko i _ hm).1;have h1:Wk (bif ty==dC then [(1,oW),(1,mQ)] else [(1,ty)]):=by
  simp only [B7,List.not_mem_nil,or_false] at a;rcases a with h|h|h|h|h|h
  ·rw [show ty=MG from h];exact Wk.key rfl
  ·rw [show ty=mQ from h];exact Wk.key rfl
  ·rw [show ty=kP from h];exact Wk.key rfl
  ·rw [show ty=RU from h];exact Wk.key rfl
  ·rw [show ty=oW from h];exact Wk.key rfl
  ·rw [show ty=dC from h];exact Wk.iS rfl (Wk.key rfl)
 unfold nW;refine h1.app (Wk.app ?_ ((Pa fun e h=>d e (List.mem_of_mem_take h)).app ((Wk.one (LG g)).app ((Pa fun e h=>d e (List.mem_of_mem_drop h)).app ?_))))
 ·cases sg&&!(ty==kP) with
  |true=>exact Wk.key rfl
  |false=>exact Wk.nil
 ·rcases b with rfl|⟨_,h1,_⟩
  ·exact Wk.nil
  ·match fs,h1,c with
   |[x],_,c=>exact (Wk.sg (t:=[61]) rfl).app (k4 (c x (by simp)))
def Xp {T:NT}(a:T=wO∨T=KH∨T=DI∨T=oN){x:D}(h:xN T x):Wk (mN x):=by obtain⟨nm,ty,q,f,sg,es,fs,rfl,g1,hm,i,g,e,d,c,b⟩:=nN h;exact aT7 a g1 hm c b d
def aT0 {c:D}(h:xC c):Wk (cW c):=by obtain⟨nm,es,rfl,a,d,e⟩:=h;show Wk ([(3,[46]),(1,nm),(3,[40])]++(lW (wE 4) es++[(3,[41])]));exact (Wk.sZ rfl (Wk.cons (LG a) (Wk.sg rfl))).app ((XI fun x b=>k4 (e x b)).app (Wk.sg rfl))
def Yb {xs:List D}(h:∀ c∈xs,xC c):Wk (rA xs):=(Wk.sg rfl).app ((XI fun x a=>aT0 (h x a)).app (Wk.sg rfl))
def aM7 {k:UInt8}(h:k.toNat≤8):(1,[117,48+k])∈sS:=by refine aT2 (List.mem_map.2 ⟨k.toNat,List.mem_range.2 (by omega),?_⟩);rw [UInt8.ofNat_toNat]
def Ox {w v:D→List Tk}{t:G1}(b:Be.contains t=true){its:List D}(h:∀ x∈its,Ly (w x) (v x)):Ly ([gB t its].flatMap (ZE w)) ([gB t its].flatMap (JC v)):=by refine Ly.flat fun x a=>?_;rw [C3.1 a];show Ly ([(1,aM),(3,[58]),(1,t),nl]++(its.flatMap w++[(1,iU),nl])) ([(1,aM),(3,[58]),(1,t)]++(its.flatMap v++[(1,iU)]));exact (Ly.e (v:=[(1,aM),(3,[58]),(1,t)]) (Wk.iS rfl (Wk.sZ rfl (Wk.key b))) (by simp)).app ((Ly.flat h).app (Ly.kn rfl))
def Zi:∀ (n:Nat) (x:D),xI n x→Ly (yI n x) (wI n x)
 |0,_,h=>h.elim
 |n+1,x,h=>by
  have ih:=Zi n;rcases h with (h|h)|⟨nm,e,rfl,i,c⟩|⟨nm,rfl,i⟩|⟨l0,e,rfl,p,c⟩|⟨b,rfl,g⟩|⟨b,rfl,g⟩|⟨sg,es,its,b,rfl,y,c,z,u,d,g⟩|⟨k,ps,qs,rfl,j,hp,A,o,m⟩|⟨es,its,rfl,t,c,i,d⟩|⟨e,its,els,rfl,c,i,d,r⟩
  ·have j:=Xp (.inl rfl) h;obtain⟨nm,ty,q,f,sg,es,fs,rfl,_⟩:=nN h;show Ly (nW nm ty sg es fs++[(3,[59]),nl]) (nW nm ty sg es fs++[(3,[59])]);exact (Ly.w j).app Ly.TD
  ·have j:=Xp (.inr (.inl rfl)) h;obtain⟨nm,ty,q,f,sg,es,fs,rfl,_⟩:=nN h;show Ly (nW nm ty sg es fs++[(3,[59]),nl]) (nW nm ty sg es fs++[(3,[59])]);exact (Ly.w j).app Ly.TD
  ·show Ly ([(1,sD),(1,nm),(3,[61])]++(wE 4 e++[(3,[59]),nl])) ([(1,sD),(1,nm),(3,[61])]++(wE 4 e++[(3,[59])]));exact (Ly.w (Wk.iS rfl (Wk.cons (LG i) (Wk.sg rfl)))).app ((Ly.ex c).app Ly.TD)
  ·show Ly ([(1,MK),(1,nm),(3,[59])]++[nl]) [(1,MK),(1,nm),(3,[59])];exact Ly.e (Wk.iS rfl (Wk.cons (LG i) (Wk.sg rfl))) (by simp)
  ·show Ly ([(1,tO)]++(wE 4 l0++([(3,[61])]++(wE 4 e++[(3,[59]),nl])))) ([(1,tO)]++(wE 4 l0++([(3,[61])]++(wE 4 e++[(3,[59])]))));exact (Ly.key rfl).app ((Ly.left p).app ((Ly.sg rfl).app ((Ly.ex c).app Ly.TD)))
  ·show Ly ([(1,qK),(3,[64]),(3,[42])]++yS 4 b) ([(1,qK),(3,[64]),(3,[42])]++wS 4 b);exact (Ly.w (Wk.iS rfl (Wk.sZ rfl (Wk.sg rfl)))).app (Ke 4 b g)
  ·show Ly ([(1,qK),(3,[64]),(3,[40]),(1,KE),(1,AN),(3,[41])]++yS 4 b) ([(1,qK),(3,[64]),(3,[40]),(1,KE),(1,AN),(3,[41])]++wS 4 b);exact (Ly.w (Wk.iS rfl (Wk.sZ rfl (Wk.sZ rfl (Wk.iS rfl (Wk.iS rfl (Wk.sg rfl))))))).app (Ke 4 b g)
  ·show Ly ([(1,FA)]++((bif sg then [(1,pI)] else [])++(qV es++([(1,[102]),(3,[59]),nl]++(its.flatMap aI9++(yS 4 b++[(1,pS),nl])))))) ([(1,FA)]++((bif sg then [(1,pI)] else [])++(qV es++([(1,[102]),(3,[59])]++(its.flatMap IT++(wS 4 b++[(1,pS)]))))));refine (Ly.key rfl).app (Ly.app ?_ ((Ly.w (Pa c)).app ((Ly.e (v:=[(1,[102]),(3,[59])]) (Wk.iS rfl (Wk.sg rfl)) (by simp)).app (Ly.app ?_ ((Ke 4 b g).app (Ly.kn rfl))))))
   ·cases sg with
    |true=>exact Ly.key rfl
    |false=>exact Ly.nil
   ·refine Ly.flat fun x a=>?_;show Ly (mN x++[(3,[59]),nl]) (mN x++[(3,[59])]);exact (Ly.w (Xp (.inr (.inr (.inl rfl))) (d x a))).app Ly.TD
  ·show Ly ([(1,wL)]++((bif ps.isEmpty then [] else [(3,[35])]++rA ps)++([(1,[117,48+k])]++(rA qs++[(3,[59]),nl])))) ([(1,wL)]++((bif ps.isEmpty then [] else [(3,[35])]++rA ps)++([(1,[117,48+k])]++(rA qs++[(3,[59])]))));refine (Ly.key rfl).app (Ly.app ?_ ((Ly.w (Wk.one (aM7 j))).app ((Ly.w (Yb m)).app Ly.TD)))
   cases ps.isEmpty with
   |true=>exact Ly.nil
   |false=>exact Ly.w ((Wk.sg rfl).app (Yb o))
  ·show Ly (dX [105] es++[gB [103] its].flatMap (ZE (yI n))) (dX [105] es++[gB [103] its].flatMap (JC (wI n)));exact (Ly.w (Im rfl t c)).app (Ox rfl fun x a=>ih x (d x a))
  ·show Ly ([(1,zD)]++(pW e++([gB [116] its].flatMap (ZE (yI n))++(bif els.isEmpty then [] else [(1,iM)]++els.flatMap (ZE (yI n)))))) ([(1,zD)]++(pW e++([gB [116] its].flatMap (JC (wI n))++(bif els.isEmpty then [] else [(1,iM)]++els.flatMap (JC (wI n))))));refine (Ly.key rfl).app ((Ly.w (Wv c)).app ((Ox rfl fun x a=>ih x (d x a)).app ?_));rcases r with rfl|⟨ys,rfl,s,l⟩
   ·exact Ly.nil
   ·exact (Ly.key rfl).app (Ox rfl fun x a=>ih x (l x a))
def Zj {nm:G1}(c:(1,nm)∈sS){x:D}(h:Zh nm x):Ly (yM x) (wM x):=by
 obtain⟨ps,qs,its,rfl,_,_,_,h1,i,g⟩:=h;show Ly ([(1,yU),(1,nm)]++((bif ps.isEmpty then [] else [(3,[35]),(3,[40])]++(lW uI ps++[(3,[41])]))++([(3,[40])]++(lW mN qs++([(3,[41]),(3,[59]),nl]++(its.flatMap (yI 4)++[(1,rV),nl])))))) ([(1,yU),(1,nm)]++((bif ps.isEmpty then [] else [(3,[35]),(3,[40])]++(lW uI ps++[(3,[41])]))++([(3,[40])]++(lW mN qs++([(3,[41]),(3,[59])]++(its.flatMap (wI 4)++[(1,rV)]))))));refine (Ly.w (Wk.iS rfl (Wk.one c))).app (Ly.app ?_ ((Ly.sg rfl).app ((Ly.w (XI fun x a=>Xp (.inr (.inr (.inr rfl))) (i x a))).app ((Ly.e (v:=[(3,[41]),(3,[59])]) (Wk.sZ rfl (Wk.sg rfl)) (by simp)).app ((Ly.flat fun x a=>Zi 4 x (g x a)).app (Ly.kn rfl))))))
 cases ps.isEmpty with
 |true=>exact Ly.nil
 |false=>refine Ly.w ((Wk.sZ rfl (Wk.sg rfl)).app ((XI fun x a=>?_).app (Wk.sg rfl)));obtain⟨b,e,rfl,d,f⟩:=h1 x a;show Wk ([(1,sR),(1,b),(3,[61])]++wE 4 e);exact (Wk.iS rfl (Wk.cons (LG d) (Wk.sg rfl))).app (k4 f)
def Ze {c:D}(h:xC c):aR3 c:=by obtain⟨nm,es,rfl,_,hl,a⟩:=h;exact⟨nm,es,rfl,hl,a⟩
def Kc {T:NT}(d:T=wO∨T=KH∨T=DI∨T=oN){x:D}(h:xN T x)(n:Nat):gI (n+1) x:=by
 obtain⟨nm,ty,q,f,sg,es,fs,rfl,g1,hm,i,g,e,c,b,a⟩:=nN h;refine⟨1,nm,ty,sg,es,fs,[],[],[],[],[],rfl,⟨by omega,?_,by decide,by decide,by decide,by decide,by decide⟩,by decide,b,a,N4,N4,N4,N4,N4⟩;rcases c with rfl|⟨_,h,_⟩
 ·exact C4 _
 ·omega
def Ig {n:Nat}{t:G1}{its:List D}(a:its.length≤2)(h:∀ x∈its,gI n x):gI (n+1) (gB t its):=⟨11,t,[],false,[],[],[],its,[],[],[],rfl,⟨by decide,by decide,by decide,by decide,by decide,by decide,by decide⟩,by omega,N4,N4,N4,h,N4,N4,N4⟩
def aD0 {x:D}(h:isLeft x):gQ 4 x:=iL (by decide) (vV h)
def aH9 {P:D→Prop}{x y:D}(c:P x)(b:P y):∀ z∈[x,y],P z:=fun z a=>by
 rcases B7.1 a with rfl|a
 ·exact c
 ·rw [C3.1 a];exact b
def Zf:∀ (n:Nat) (x:D),xI n x→gI (2*n) x
 |0,_,h=>h.elim
 |n+1,x,h=>by
  have ih:=Zf n;rcases h with (h|h)|⟨nm,e,rfl,d,a⟩|⟨nm,rfl,d⟩|⟨l0,e,rfl,o,a⟩|⟨f,rfl,g⟩|⟨f,rfl,g⟩|⟨sg,es,its,f,rfl,s,a,t,r,b,g⟩|⟨k,ps,qs,rfl,u,hp,q,m,l⟩|⟨es,its,rfl,v,a,d,b⟩|⟨e,its,els,rfl,a,d,b,p⟩
  ·exact Kc (.inl rfl) h _
  ·exact Kc (.inr (.inl rfl)) h _
  ·exact⟨2,nm,sD,false,[e],[],[],[],[],[],[],rfl,⟨by simp,by simp,by simp,by simp,by simp,by simp,by simp⟩,by simp,sP a,N4,N4,N4,N4,N4,N4⟩
  ·exact⟨3,nm,[],false,[],[],[],[],[],[],[],rfl,⟨by simp,by simp,by simp,by simp,by simp,by simp,by simp⟩,by simp,N4,N4,N4,N4,N4,N4,N4⟩
  ·exact⟨4,[],[],false,[l0,e],[],[],[],[],[],[],rfl,⟨by simp,by simp,by simp,by simp,by simp,by simp,by simp⟩,by simp,aH9 (aD0 o) a,N4,N4,N4,N4,N4,N4⟩
  ·exact⟨5,[],[],false,[],[],[f],[],[],[],[],rfl,⟨by simp,by simp,by simp,by simp,by simp,by simp,by simp⟩,by simp,N4,N4,sP g,N4,N4,N4,N4⟩
  ·exact⟨6,AN,[],false,[],[],[f],[],[],[],[],rfl,⟨by simp,by simp,by simp,by simp,by simp,by simp,by simp⟩,by simp,N4,N4,sP g,N4,N4,N4,N4⟩
  ·exact⟨7,[102],[],sg,es,[],[f],its,[],[],[],rfl,⟨by omega,by simp,by simp,by simp,by simp,by simp,by simp⟩,by omega,a,N4,sP g,fun x h'=>Kc (.inr (.inr (.inl rfl))) (b x h') _,N4,N4,N4⟩
  ·exact⟨8,[117,48+k],wL,false,[],[],[],[],[],ps,qs,rfl,⟨by simp,by simp,by simp,by simp,by simp,hp,q⟩,by simp,N4,N4,N4,N4,N4,fun c h=>Ze (m c h),fun c h=>Ze (l c h)⟩
  ·exact⟨9,[105],[],false,es,[],[],[gB [103] its],[],[],[],rfl,⟨by omega,by simp,by simp,by simp,by simp,by simp,by simp⟩,by simp,a,N4,N4,sP (Ig d fun x h'=>ih x (b x h')),N4,N4,N4⟩
  ·rcases p with rfl|⟨ys,rfl,j,i⟩
   ·exact⟨10,[],[],false,[e],[],[],[gB [116] its],[],[],[],rfl,⟨by simp,by simp,by simp,by simp,by simp,by simp,by simp⟩,by simp,sP a,N4,N4,sP (Ig d fun x h'=>ih x (b x h')),N4,N4,N4⟩
   ·exact⟨10,[],[],false,[e],[],[],[gB [116] its],[gB [101] ys],[],[],rfl,⟨by simp,by simp,by simp,by simp,by simp,by simp,by simp⟩,by simp,sP a,N4,N4,sP (Ig d fun x h'=>ih x (b x h')),sP (Ig j fun x h'=>ih x (i x h')),N4,N4⟩
def aQ8 {x:D}(h:xP x)(n:Nat):gI (n+1) x:=by obtain⟨nm,e,rfl,b,a⟩:=h;exact⟨2,nm,sR,false,[e],[],[],[],[],[],[],rfl,⟨by simp,by simp,by simp,by simp,by simp,by simp,by simp⟩,by simp,sP a,N4,N4,N4,N4,N4,N4⟩
def Ud {ms:List D}(hl:ms.length≤10)(h:∀ m∈ms,∃ nm,nm.length≤100∧Zh nm m):U (fun n=>pB n (.Z 4 ms)) fun r=>∃ ys,r=(true,[.Z 7 ys])∧Rl OM ms ys:=by
 refine I5 (fun n=>XK n ms) (L4 (Q:=fun r=>∃ q ys,r=(false,[.Z 4 ms,iD (ms.length:Int),iD q,.Z 7 ys])∧Rl OM ms ys) ?_ (fun ds h=>by obtain⟨_,_,h,_⟩:=h;cases h) fun ds h=>?_)
 ·refine CW (xs:=ms) (R:=OM) (T:=fun j acc n=>iE n (.Z 4 ms) (ms.length:Int) j (.Z 7 acc)) (by omega) (fun j acc k u K=>?_) fun acc f=>?_
  ·refine I5 (fun n=>yO n ms _ _ _) (I4 aX8 (I4 (P1 k) ?_));obtain⟨nm,l0,ps,qs,its,e,t,s,p,h1,o,l⟩:=h ms[j] (C6 k);rw [bS k,e];rw [e] at K;refine J5 (H6 (JS 8 ps (by omega) fun x c=>aQ8 (h1 x c) 7) ?_);rintro b ds ⟨ps',h,i⟩;cases h;refine⟨rfl,?_⟩;refine J5 (H6 (JS 8 qs (by omega) fun x c=>Kc (.inr (.inr (.inr rfl))) (o x c) 7) ?_);rintro b ds ⟨qs',h,g⟩;cases h;refine⟨rfl,?_⟩;refine J5 (H6 (JS 8 its (by omega) fun x c=>Zf 4 x (l x c)) ?_);rintro b ds ⟨a,h,d⟩;cases h;refine⟨rfl,?_⟩;refine J5 (I4 (B2 (by simp only [L9];omega)) ?_);exact K (AM nm 0 0 0 ps' qs' a) ⟨nm,0,0,0,ps,qs,its,ps',qs',a,rfl,rfl,by omega,by omega,by omega,by omega,i,g,d⟩
  ·exact I5 (fun n=>yO n ms _ _ _) (N8 aY0 (H8 ⟨_,acc,rfl,f⟩))
 ·obtain⟨q,ys,h,f⟩:=h;cases h;exact J5 (H8 ⟨ys,rfl,f⟩)
end Go.Proofs.YtalibicpmfbieaaGreatDoor
