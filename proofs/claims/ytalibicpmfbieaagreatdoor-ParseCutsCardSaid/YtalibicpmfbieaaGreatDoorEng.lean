import Derived.Test.YtalibicpmfbieaaGreatDoorEng2
import Derived.Laws.Externs
import Derived.WideKeyArgs
import Derived.ProofKit
import Derived.OpenShut
import Derived.JoinedCond
import Derived.DataShut
import Derived.Below
import Derived.ChangeSame
import Derived.Lib.Split
import Derived.Sort.Walk0
import Derived.Sort.EncStr
import Derived.Sort.Grow
import Derived.Lib.SlicesCompact
import Derived.Lib.IndexMore
import Derived.Lib.Join
import Derived.Lib.SplitLaws
import Derived.Lib.ItoaNum
import Derived.Lib.LaidTab
import Derived.IntWalk
set_option linter.all false
namespace Go.AE
open Go.RowKit
section
variable {X:FX} {rec:Task→Out} {ops:Array Oper} {st0:Nat} {s:Nat→St} {v:Nat→V} {ft:Nat→vJ} {an:Nat→List Nat} {on:Nat→Bool} {L:Nat→Bool} {Q:Exit→Act→World→Prop}
def aI8 (ft:Nat→vJ)(i t:Nat):Bool:=match (ft i).dst with|some d=>Nat.beq t d|none=>false
def Gt (st0:Nat)(ft:Nat→vJ)(on:Nat→Bool)(i x:Nat):Bool:=on i&&(uG x (ft i).writes||LF (st0+32*i) x)
def ST (st0:Nat)(s:Nat→St)(v:Nat→V)(ft:Nat→vJ)(on:Nat→Bool)(n:Nat)(L:Nat→Bool):St:=
 ⟨oJ (s 0).t (aI8 ft) (fun i _=>v i) L n,oJ (s 0).h (Gt st0 ft on) (fun i x=>(s (i+1)).h x) L n,(s 0).m⟩
structure VR (X:FX) (rec:Task→Out) (ops:Array Oper) (st0:Nat) (s:Nat→St) (v:Nat→V) (ft:Nat→vJ) (an:Nat→List Nat) (on:Nat→Bool):Prop where
 n:(s 0).n=st0
 good:∀ i o,ops[i]? = some o→Gx X.c rec X.fn.ntmps ops.toList st0 i o s v ft an on
def Yv (st:St)(d:Option Tmp)(x:V):(st.put d x).m=st.m:=by cases d<;>rfl
def Je (st:St)(d:Option Tmp)(x:V)(t:Nat):(st.put d x).t t=if d=some t then x else st.t t:=by
 cases d with
 |none=>simp [St.put]
 |some d=>
  show (st.set d x).t t=_;rw [Jp];by_cases e:t=d
  ·subst e;simp
  ·rw [if_neg e,if_neg (by intro h;cases h;exact e rfl)]
def VR.text (A:VR X rec ops st0 s v ft an on):∀ i,i≤ops.size→(s i).m=(s 0).m∧(∀ t,(s i).t t=oJ (s 0).t (aI8 ft) (fun i _=>v i) (fun _=>true) i t)∧(∀ x,(s i).h x=oJ (s 0).h (Gt st0 ft on) (fun i x=>(s (i+1)).h x) (fun _=>true) i x)
 |0,_=>⟨rfl,fun _=>rfl,fun _=>rfl⟩
 |i+1,l=>by
  obtain⟨h0,h1,g⟩:=A.text i (by omega);have G:=A.good i ops[i] (C8 (by omega));have S:=G.step;refine⟨S.n.trans h0,fun t=>?_,fun x=>?_⟩
  ·rw [S.t,Je];simp only [oJ,Bool.true_and,aI8,S.dst]
   cases hd:ops[i].dst with
   |none=>simp only [cond_false];rw [← h1 t];simp
   |some d=>
    by_cases e:t=d
    ·subst e;rw [if_pos rfl];simp only [];rw [beq_iff.2 rfl,cond_true]
    ·simp only [];rw [beq_false e,cond_false,← h1 t];rw [if_neg (by intro h;cases h;exact e rfl)]
  ·simp only [oJ,Bool.true_and]
   cases hw:Gt st0 ft on i x with
   |true=>rfl
   |false=>
    rw [cond_false,← g x]
    cases ho:on i with
    |false=>rw [(S.no ho).2]
    |true=>
     obtain⟨mJ,k,b,j,k4,a⟩:=S.cT ho;unfold Gt at hw;rw [ho,Bool.true_and,Bool.or_eq_false_iff] at hw;rw [a];unfold UJ;rw [hw.2,Bool.or_false]
     cases hF:uG x (ft i).objs with
     |false=>rfl
     |true=>
      rw [cond_true]
      cases hro:SI ops[i].op with
      |false=>rw [b,hro,cond_false] at hw;rw [hw.1] at hF;cases hF
      |true=>have:=Ix hro k4 x (by rw [← tL];rw [hw.2];simp);rw [this];simp [sJ,hF]
def Down (ops:Array Oper)(L:Nat→Bool):Prop:=∀ i o,ops[i]? = some o→L i=true→∀ e∈o.after.toList,kN e=true→L e.on=true
def VR.ZD (A:VR X rec ops st0 s v ft an on)(g:Down ops L):∀ m i,i<m→i<ops.size→L i=true→∀ j∈an i,L j=true
 |0,i,h,_,_,_,_=>by omega
 |m+1,i,h,d,p,j,o=>by
  have G:=A.good i ops[i] (C8 d);obtain⟨e,h1,k,b⟩:=G.ZD j o;have l:=G.edges e h1 k;have a:=g i ops[i] (C8 d) p e h1 k;rcases b with rfl|b
  ·exact a
  ·exact A.ZD g m e.on (by omega) (by omega) a j b
def CV {nid:Nat}{a b:vJ}(h:OU nid a b=false) :(∀ d,a.dst=some d→d∉b.temps)∧(∀ d,b.dst=some d→d∉a.temps)∧(∀ d,a.dst=some d→b.dst≠some d)∧(∀ x∈a.writes,x∉b.objs)∧(∀ x∈b.writes,x∉a.objs)∧(∀ x∈b.objs,LF nid x=false):=by
 unfold OU at h;simp only [Bool.or_eq_false_iff] at h;obtain⟨⟨⟨⟨⟨h1,l⟩,i⟩,q⟩,p⟩,o⟩:=h;have m:∀ {xs ys:List Nat},meets xs ys=false→∀ x∈xs,x∉ys:=by intro xs ys h x j;unfold meets at h;have:=List.any_eq_false.1 h x j;rw [oM] at this;exact this
 refine⟨fun d g=>?_,fun d g=>?_,fun d g k=>?_,m q,m p,fun x j=>?_⟩
 ·unfold YC at h1;rw [g] at h1;exact xJ.1 h1
 ·unfold YC at l;rw [g] at l;exact xJ.1 l
 ·rw [g,k] at i;simp only [] at i;rw [beq_iff.2 rfl] at i;cases i
 ·have:=List.any_eq_false.1 o x j;simpa using this
def pD (st0 n:Nat)(L:Nat→Bool)(x:Nat):Prop:=x<st0∨∃ j,j<n∧L j=true∧st0+32*j≤x∧x<st0+32*j+32
def VR.step (A:VR X rec ops st0 s v ft an on)(hn:mK X.c)(hg0:X.c.IS X.g0.h)(hrec:yL X.c rec)(hd:Down ops L){i:Nat}{o:Oper}(ho:ops[i]? = some o)(hL:L i=false)(R:∀ e∈o.after.toList,kN e=true→L e.on=true) {g:G} {a:Act} {w:World} (N:GB X (pD st0 ops.size L) g (ST st0 s v ft on ops.size L) a w) {K:Act→World→Prop} (hK:∀ g' a' w',GB X (pD st0 ops.size fun k=>bif Nat.beq k i then true else L k) g' (ST st0 s v ft on ops.size fun k=>bif Nat.beq k i then true else L k) a' w'→K a' w') :
  if Region.wanted o (yielded ops a.tmps)=true then o.wp X.c.P a w K Q else K (a.put o.dst undef) w:=by
 have T:i<ops.size:=by rcases Array.getElem?_eq_some_iff.1 ho with ⟨h,_⟩;exact h
 have G:=A.good i o ho;have S:=G.step;have hanc:∀ j∈an i,L j=true:=fun j hj=>by
  obtain⟨e,h1,y,C⟩:=G.ZD j hj;have hLe:=R e h1 y;rcases C with rfl|C
  ·exact hLe
  ·have hlt:=G.edges e h1 y;exact A.ZD hd (e.on+1) e.on (by omega) (by omega) hLe j C
 have bef:∀ j,j<i→L j=true∨OU (st0+32*j) (ft j) (ft i)=false:=fun j hj=>(G.apart j hj).imp (hanc j) id;have aft:∀ k,i<k→k<ops.size→L k=false∨OU (st0+32*i) (ft i) (ft k)=false:=fun k h1 y=>by
  cases hk:L k with
  |false=>exact .inl rfl
  |true=>
   right;have Gk:=A.good k ops[k] (C8 y);rcases Gk.apart i h1 with h|h
   ·have:=A.ZD hd (k+1) k (by omega) y hk i h;rw [hL] at this;cases this
   ·exact h
 obtain⟨tx1,tx2,tx3⟩:=A.text i (by omega);have F:∀ k,k<ops.size→on k=true→∀ x∈(ft k).objs,x<st0+32*k:=fun k hk q=>by obtain⟨mJ,_,_,h,_⟩:=(A.good k ops[k] (C8 hk)).step.cT q;exact h
 have z:∀ k,k<ops.size→on k=true→∀ x∈(ft k).writes,x∈(ft k).objs:=fun k hk q x p=>by
  obtain⟨mJ,_,h,_⟩:=(A.good k ops[k] (C8 hk)).step.cT q;rw [h] at p
  cases hro:SI ops[k].op with
  |true=>rw [hro] at p;cases p
  |false=>rw [hro] at p;exact p
 have rdT:∀ t∈(ft i).temps,(ST st0 s v ft on ops.size L).t t=(s i).t t:=fun t ht=>by
  rw [tx2 t];refine PL _ _ _ T hL (fun j hj=>?_) (fun k h1 y=>?_)
  ·refine (bef j hj).imp id fun h=>?_;unfold aI8;split
   ·rename_i d hdj;exact beq_false fun e=>(CV h).1 d hdj (by rw [← e];exact ht)
   ·rfl
  ·refine (aft k h1 y).imp id fun h=>?_;unfold aI8;split
   ·rename_i d hdk;exact beq_false fun e=>(CV h).2.1 d hdk (by rw [← e];exact ht)
   ·rfl
 have E:∀ t,(ST st0 s v ft on ops.size fun k=>bif Nat.beq k i then true else L k).t t=((ST st0 s v ft on ops.size L).put o.dst (v i)).t t:=fun t=>by
  rw [Je];refine (JO _ _ _ ops.size T fun k h1 y=>?_).trans ?_
  ·refine (aft k h1 y).imp id fun h=>?_;have C:=(CV h).2.2.1;unfold aI8
   cases hdi:(ft i).dst with
   |none=>exact .inl rfl
   |some d=>
    cases hdk:(ft k).dst with
    |none=>exact .inr rfl
    |some d'=>
     simp only [];by_cases e:t=d
     ·right;refine beq_false fun e'=>C d hdi ?_;rw [hdk,← e',e]
     ·exact .inl (beq_false e)
  ·unfold aI8;rw [S.dst]
   cases hdo:o.dst with
   |none=>simp only [cond_false];rw [if_neg (by simp)];rfl
   |some d=>
    by_cases e:t=d
    ·subst e;rw [if_pos rfl];simp only [];rw [beq_iff.2 rfl,cond_true]
    ·simp only [];rw [beq_false e,cond_false,if_neg (by intro h;cases h;exact e rfl)];rfl
 have addH:∀ x,(ST st0 s v ft on ops.size fun k=>bif Nat.beq k i then true else L k).h x=bif Gt st0 ft on i x then (s (i+1)).h x else (ST st0 s v ft on ops.size L).h x:=fun x=>by
  refine JO _ _ _ ops.size T fun k h1 y=>?_;refine (aft k h1 y).imp id fun h=>?_;obtain⟨_,_,_,c4,c5,c6⟩:=CV h
  cases hwi:Gt st0 ft on i x with
  |false=>exact .inl rfl
  |true=>
   right
   cases hwk:Gt st0 ft on k x with
   |false=>rfl
   |true=>
    exfalso;unfold Gt at hwi hwk;rw [A9,Bool.or_eq_true] at hwi hwk;obtain⟨oi,O⟩:=hwi;obtain⟨ok,M⟩:=hwk;rcases O with O|O
    ·have O:=oM.1 O;rcases M with M|M
     ·exact c4 x O (z k y ok x (oM.1 M))
     ·have:=F i T oi x (z i T oi x O);have:=tL.1 M;omega
    ·rcases M with M|M
     ·have:=c6 x (z k y ok x (oM.1 M));rw [O] at this;cases this
     ·have:=tL.1 O;have:=tL.1 M;omega
 have rdH:on i=true→∀ x∈(ft i).objs,(ST st0 s v ft on ops.size L).h x=(s i).h x:=fun q x p=>by
  rw [tx3 x];refine PL _ _ _ T hL (fun j hj=>?_) (fun k h1 y=>?_)
  ·refine (bef j hj).imp id fun h=>?_;obtain⟨_,_,_,c4,c5,c6⟩:=CV h;unfold Gt
   cases hoj:on j with
   |false=>rfl
   |true=>rw [Bool.true_and,Bool.or_eq_false_iff];exact⟨xJ.2 fun hw=>c4 x hw p,c6 x p⟩
  ·refine (aft k h1 y).imp id fun h=>?_;obtain⟨_,_,_,c4,c5,c6⟩:=CV h;unfold Gt
   cases hok:on k with
   |false=>rfl
   |true=>
    rw [Bool.true_and,Bool.or_eq_false_iff];refine⟨xJ.2 fun hw=>c5 x hw p,?_⟩;have:=F i T q x p
    cases hin:LF (st0+32*k) x with
    |false=>rfl
    |true=>have:=tL.1 hin;omega
 have J:∀ x,pD st0 ops.size L x→pD st0 ops.size (fun k=>bif Nat.beq k i then true else L k) x:=fun x p=>by
  rcases p with p|⟨j,h1,y,C⟩
  ·exact .inl p
  ·refine .inr ⟨j,h1,?_,C⟩;show (bif Nat.beq j i then true else L j)=true;rw [y];cases Nat.beq j i<;>rfl
 have hfr:oD (pD st0 ops.size L) (pD st0 ops.size fun k=>bif Nat.beq k i then true else L k) (st0+32*i):=fun k hk=>by
  constructor
  ·rintro (h|⟨j,h1,y,C,h4⟩)
   ·omega
   ·(have:j=i:=by omega);subst this;rw [hL] at y;cases y
  ·refine .inr ⟨i,T,?_,by omega,by omega⟩;show (bif Nat.beq i i then true else L i)=true;rw [beq_iff.2 rfl];rfl
 have hw:Region.wanted o (yielded ops a.tmps)=on i:=by
  cases hg:o.guard with
  |none=>simp [Region.wanted,hg,S.free hg]
  |some jw=>
   obtain⟨j,want⟩:=jw;obtain⟨d,h1,y,C⟩:=S.guard j want hg;rw [D0] at h1;have I:=N.at_.tm d;rw [rdT d y] at I;rcases C with ⟨C,h4⟩|⟨b,C,h4⟩
   ·rw [C] at I;simp [Region.wanted,hg,MH h1 I,h4]
   ·rw [C] at I;simp [Region.wanted,hg,RR h1 (GD I),h4]
 rw [hw]
 cases q:on i with
 |false=>
  rw [if_neg (by simp)];obtain⟨hv,hh⟩:=S.no q;refine hK g _ _ ?_;have B:=N.put (vv:=v i) (mJ:=ST st0 s v ft on ops.size L) (v:=undef) G.okd J (N.at_.hp.more J) (U5.refl _ g) (Ext.refl g w) (by rw [hv];exact (rfl:undef=undef)) (by rw [hv];trivial) rfl rfl;have e:(ST st0 s v ft on ops.size fun k=>bif Nat.beq k i then true else L k).h=((ST st0 s v ft on ops.size L).put o.dst (v i)).h:=by (funext x;rw [addH x];have:Gt st0 ft on i x=false:=by unfold Gt;rw [q];rfl);rw [this,cond_false];cases o.dst<;>rfl
  refine⟨⟨?_,fun t=>?_,fun t=>?_⟩,B.size,(by have k:=B.def_;simp only [Yv] at k;exact k),B.ext,B.keep,B.pre⟩
  ·rw [e];exact B.at_.hp
  ·rw [E t];exact B.at_.tm t
  ·rw [E t];exact B.at_.nm t
 |true=>
  rw [if_pos rfl];obtain⟨mJ,k1,k2,k3,k4,k5⟩:=S.cT q;have er:sJ (fV o.op.operands.toList) (ft i).objs (s i)=sJ (fV o.op.operands.toList) (ft i).objs (ST st0 s v ft on ops.size L):=by
   have e1:(fun t=>bif uG t (fV o.op.operands.toList) then (s i).t t else V.top)=fun t=>bif uG t (fV o.op.operands.toList) then (ST st0 s v ft on ops.size L).t t else V.top:=by
    funext t
    cases ht:uG t (fV o.op.operands.toList) with
    |false=>rfl
    |true=>simp only [cond_true];rw [rdT t (k1 t (oM.1 ht))]
   have e2:(fun x=>bif uG x (ft i).objs then (s i).h x else none)=fun x=>bif uG x (ft i).objs then (ST st0 s v ft on ops.size L).h x else none:=by
    funext x
    cases p:uG x (ft i).objs with
    |false=>rfl
    |true=>simp only [cond_true];rw [rdH q x (oM.1 p)]
   unfold sJ;rw [e1,e2,tx1];rfl
  rw [er] at k4;have hold:=N.at_.hp;have S0:aS X.u (pD st0 ops.size L) g (sJ (fV o.op.operands.toList) (ft i).objs (ST st0 s v ft on ops.size L)).h w:=hold.Yg fun x ob p=>by
   simp only [sJ] at p
   cases hm:uG x (ft i).objs with
   |false=>rw [hm] at p;cases p
   |true=>rw [hm] at p;exact p
  have P:Pass X.u (pD st0 ops.size L) (pD st0 ops.size L) g g (ST st0 s v ft on ops.size L).h (sJ (fV o.op.operands.toList) (ft i).objs (ST st0 s v ft on ops.size L)).h w (fun l o=>l=o):=⟨hold,S0,fun _ _ h=>h,fun l x0 hl=>⟨l,x0,rfl,by
    simp only [sJ] at hl
    cases hm:uG l (ft i).objs with
    |false=>rw [hm] at hl;cases hl
    |true=>rw [hm] at hl;exact hl,fun _ h=>h⟩⟩
  have At0:At (yV g (sJ (fV o.op.operands.toList) (ft i).objs (ST st0 s v ft on ops.size L)).h w) (pD st0 ops.size L) g (sJ (fV o.op.operands.toList) (ft i).objs (ST st0 s v ft on ops.size L)) a w:=by
   refine⟨P.aH0,fun t=>?_,fun t=>?_⟩
   ·simp only [sJ]
    cases uG t (fV o.op.operands.toList) with
    |true=>exact N.at_.tm t
    |false=>exact (trivial:VD g.h .top _)
   ·simp only [sJ]
    cases uG t (fV o.op.operands.toList) with
    |true=>exact N.at_.nm t
    |false=>trivial
  obtain⟨vv,st1',hkk,hop⟩:=Ch hn (hn.2.2.1 _ _ N.ext.h hg0) hrec At0 J hfr k4;cases hkk;refine hop.wp fun val w' ⟨g',s1,s2,s3,s4,s5,s6,s7⟩=>hK g' _ _ ?_;have hH:aS X.u (pD st0 ops.size fun k=>bif Nat.beq k i then true else L k) g' (ST st0 s v ft on ops.size fun k=>bif Nat.beq k i then true else L k).h w':=by
   refine P.back (f:=fun l=>l) s1 s2.h s2 (fun _ _ h=>h) J fun x ob p=>?_;have right:mJ.h x=some ob→(∃ l ob1,mJ.h l=some ob1∧x=l∧OB g' x ob w'∧(∀ b,pC g' x ob=some b→pC g' l ob1=some b)∧pD st0 ops.size (fun k=>bif Nat.beq k i then true else L k) x∧ob.aU (pD st0 ops.size fun k=>bif Nat.beq k i then true else L k)):=fun h1=>⟨x,ob,h1,rfl,s1.ob _ _ h1,fun _ h=>h,(s1.use _ _ h1).1,(s1.use _ _ h1).2⟩;rw [addH x] at p
   cases hwi:Gt st0 ft on i x with
   |true=>(rw [hwi,cond_true,k5] at p;refine .inr (right ?_);unfold UJ at p;have:(uG x (ft i).objs||LF (st0+32*i) x)=true:=by unfold Gt at hwi;rw [A9,Bool.or_eq_true] at hwi;rw [Bool.or_eq_true];exact hwi.2.imp (fun h=>oM.2 (z i T q x (oM.1 h))) id);rw [this] at p;exact p
   |false=>
    rw [hwi,cond_false] at p;unfold Gt at hwi;rw [q,Bool.true_and,Bool.or_eq_false_iff] at hwi
    cases hF:uG x (ft i).objs with
    |false=>refine .inl ⟨p,fun l x0 hl e=>?_,fun b hb=> .inl (hold.sep _ _ _ p hb).1⟩;subst e;simp only [sJ,hF] at hl;cases hl
    |true=>
     refine .inr (right ?_)
     cases hro:SI o.op with
     |false=>rw [k2,hro,cond_false] at hwi;rw [hwi.1] at hF;cases hF
     |true=>have:=Ix hro k4 x (by rw [← tL];rw [hwi.2];simp);rw [this];simp only [sJ,hF,cond_true];exact p
  have B:=N.put (mJ:={ ST st0 s v ft on ops.size L with h:=(ST st0 s v ft on ops.size fun k=>bif Nat.beq k i then true else L k).h }) G.okd J hH s2 s3 s4 s5 rfl rfl;refine⟨⟨?_,fun t=>?_,fun t=>?_⟩,B.size,(by have k:=B.def_;simp only [Yv] at k;exact k),B.ext,B.keep,B.pre⟩
  ·exact hH
  ·rw [E t];have:=B.at_.tm t;rw [Je] at this ⊢;exact this
  ·rw [E t];have:=B.at_.nm t;rw [Je] at this ⊢;exact this
def EZ {a b:Type}(m0:a→b)(wr:Nat→a→Bool)(e:Nat→a→b):∀ (n:Nat) (x:a),oJ m0 wr e (fun _=>false) n x=m0 x
 |0,_=>rfl
 |n+1,x=>by simp only [oJ,Bool.false_and,cond_false];exact EZ m0 wr e n x
def LD (listed:Array Bool)(i:Nat):Bool:=listed.getD i false
def Dx {listed:Array Bool}{i:Nat}(a:i<listed.size):LD (listed.setIfInBounds i true)=fun k=>bif Nat.beq k i then true else LD listed k:=by
 funext k;unfold LD;by_cases e:k=i
 ·subst e;rw [beq_iff.2 rfl];simp [D2,a]
 ·rw [beq_false e];simp [D2,Array.getElem?_setIfInBounds,Ne.symm e]
def VR.any (A:VR X rec ops st0 s v ft an on)(hn:mK X.c)(hg0:X.c.IS X.g0.h)(R:yL X.c rec) (hQ:∀ g a w,GB X (pD st0 ops.size fun _=>true) g (s ops.size) a w→Q .normal a w) :∀ (fuel:Nat) (listed:Array Bool) (g:G) (a:Act) (w:World),listed.size=ops.size→(List.range ops.size).countP (fun i=>!LD listed i)≤fuel→Down ops (LD listed)→GB X (pD st0 ops.size (LD listed)) g (ST st0 s v ft on ops.size (LD listed)) a w→wpAny X.c.P .any ops Q fuel listed a w:=by
 have fin:∀ (listed:Array Bool) (g:G) (a:Act) (w:World),listed.size=ops.size→Region.ready .any ops listed=[]→GB X (pD st0 ops.size (LD listed)) g (ST st0 s v ft on ops.size (LD listed)) a w→Q .normal a w:=by
  intro listed g a w p I N;have y:∀ m i,i<m→i<ops.size→LD listed i=true:=by
   intro m
   induction m with
   |zero=>intro i h;omega
   |succ m ih=>
    intro i h1 z
    cases O:LD listed i with
    |true=>rfl
    |false=>
     exfalso;have:i∈Region.ready .any ops listed:=by
      (unfold Region.ready;rw [List.mem_filter];refine⟨by simpa using z,?_⟩;have hl:listed.getD i true=false:=by unfold LD at O;rw [D2,C8 (by omega)] at O ⊢;exact O);rw [hl,C8 z];simp only [Bool.not_false,Bool.true_and,Option.map_some,Option.getD_some];rw [← Array.all_toList,B6];intro e J;rw [TS]
      cases M:kN e with
      |false=>rfl
      |true=>have u:=(A.good i ops[i] (C8 z)).edges e J M;have:=ih e.on (by omega) (by omega);unfold LD at this;simp [this]
     rw [I] at this;cases this
  have eT:∀ t,(ST st0 s v ft on ops.size (LD listed)).t t=(s ops.size).t t:=fun t=>by rw [(A.text ops.size (B9 _)).2.1 t];exact rX _ _ _ _ fun i q=> .inl (y (i+1) i (by omega) q)
  have eH:(ST st0 s v ft on ops.size (LD listed)).h=(s ops.size).h:=funext fun x=>by rw [(A.text ops.size (B9 _)).2.2 x];exact rX _ _ _ _ fun i q=> .inl (y (i+1) i (by omega) q)
  have B:∀ x,pD st0 ops.size (LD listed) x→pD st0 ops.size (fun _=>true) x:=fun x hx=>hx.imp id fun ⟨j,h1,_,h3⟩=>⟨j,h1,rfl,h3⟩;refine hQ g a w ⟨⟨?_,fun t=>?_,fun t=>?_⟩,N.size,(by rw [(A.text ops.size (B9 _)).1];exact N.def_),N.ext,N.keep,fun l o h=>B _ (N.pre l o h)⟩
  ·rw [← eH];exact N.at_.hp.more B
  ·rw [← eT t];exact N.at_.tm t
  ·rw [← eT t];exact (N.at_.nm t).mono B
 intro fuel
 induction fuel with
 |zero=>
  intro listed g a w p hc hd N;have I:Region.ready .any ops listed=[]:=by (rw [List.eq_nil_iff_forall_not_mem];intro i q;unfold Region.ready at q;rw [List.mem_filter] at q;have h0:=List.countP_eq_zero.1 (Nat.le_zero.1 hc) i q.1;have b:=q.2;rw [A9] at b;have u:i<listed.size:=by rw [p];simpa using q.1);unfold LD at h0;rw [D2,C8 u] at h0 b;simp at h0 b;rw [h0] at b;simp at b
  exact⟨I,fin listed g a w p I N⟩
 |succ fuel ih=>
  intro listed g a w p hc hd N;refine⟨fun I=>fin listed g a w p I N,fun i q=>?_⟩;unfold Region.ready at q;rw [List.mem_filter] at q;obtain⟨T,b⟩:=q;have u:i<ops.size:=by simpa using T
  rw [A9] at b;have O:LD listed i=false:=by have:=b.1;unfold LD;rw [D2,C8 (by omega)] at this ⊢;simpa using this
  have ho:ops[i]? = some ops[i]:=C8 u;have d:∀ e∈ops[i].after.toList,kN e=true→LD listed e.on=true:=by have z:=b.2;rw [ho] at z;simp only [Option.map_some,Option.getD_some] at z;rw [← Array.all_toList,B6] at z;intro e J M;have:=z e J;rw [TS,M] at this;simpa [LD] using this
  have key:=A.step hn hg0 R (Q:=Q) (K:=wpAny X.c.P .any ops Q fuel (listed.setIfInBounds i true)) hd ho O d N fun g' a' w' N'=>by
   rw [← Dx (by omega)] at N';refine ih _ g' a' w' (by simpa using p) ?_ (fun k o S F e J M=>?_) N'
   ·rw [Dx (by omega)];have hcnt:∀ (l:List Nat),i∈l→l.Nodup→l.countP (fun k=>!(bif Nat.beq k i then true else LD listed k))+1=l.countP (fun k=>!LD listed k):=by
     intro l
     induction l with
     |nil=>intro h;cases h
     |cons x xs ihl=>
      intro hm C;rw [List.nodup_cons] at C;by_cases e:x=i
      ·subst e;rw [List.countP_cons,List.countP_cons,beq_iff.2 rfl,O];have:xs.countP (fun k=>!(bif Nat.beq k x then true else LD listed k))=xs.countP (fun k=>!LD listed k):=by
        refine List.countP_congr fun k S=>?_;have:k≠x:=fun e=>C.1 (by rw [← e];exact S);rw [beq_false this];rfl
       rw [this];simp
      ·have:=ihl ((B7.1 hm).resolve_left (Ne.symm e)) C.2;rw [List.countP_cons,List.countP_cons,beq_false e,cond_false];omega
    have:=hcnt (List.range ops.size) T List.nodup_range;show (List.range ops.size).countP (fun k=>!(bif Nat.beq k i then true else LD listed k))≤fuel;omega
   ·rw [Dx (by omega)] at F ⊢;have E:LD listed e.on=true:=by
     by_cases ek:k=i
     ·subst ek;rw [ho] at S;cases S;exact d e J M
     ·simp only [beq_false ek,cond_false] at F;exact hd k o S F e J M
    show (bif Nat.beq e.on i then true else LD listed e.on)=true;rw [E];cases Nat.beq e.on i<;>rfl
  unfold wpOp;rw [ho];simp only [];split
  ·rename_i hw;rw [if_pos hw] at key;exact .inl key
  ·rename_i hw;rw [if_neg hw] at key;exact key
def Ar {id:Nat}(M:mK X.c)(E:X.c.IS X.g0.h)(q:yL X.c rec)(hm:X.c.P.follows .mixedOrders=true){st:St}{g:G}{a:Act}{w:World}{K:St→Out}{r:Bool×List D}(N:GB X (·<st.n) g st a w)(h:GX X.c rec X.fn.ntmps ops.toList st.n 0 ops.toList [] [] st K=some r) (O:∀ st' B w' g',K st'=some r→GB X (·<st.n+32*ops.size) g' st' B w'→st'.n=st.n→Q .normal B w'):(Code.region id ops true).wp X.c.P Q a w:=by
 obtain⟨s,v,ft,an,on,e1,_,_,S,I⟩:=PB ops.toList 0 [] [] st rfl rfl h;have A:VR X rec ops st.n s v ft an on:=⟨by rw [e1],fun i o J=>by have:=S i o (by rw [D0];exact J);rw [C5] at this;exact this⟩;have C:0+ops.toList.length=ops.size:=by simp
 rw [C] at I;refine wp_region_any hm ?_;have y:LD (Array.replicate ops.size false)=fun _=>false:=by funext i;unfold LD;rw [D2,Array.getElem?_replicate];split<;>rfl
 refine A.any M E q (fun g' B w' p=>?_) ops.size _ g a _ (by simp) (Nat.le_trans List.countP_le_length (by simp)) (fun i o _ u=>by rw [y] at u;cases u) ?_
 ·refine O (s ops.size) B w' g' I ?_ (by have:=(A.text ops.size (B9 _)).1;rw [e1] at this;exact congrArg Mk.k this);have b:∀ x,pD st.n ops.size (fun _=>true) x→x<st.n+32*ops.size:=fun x z=>by
   rcases z with z|⟨j,h1,_,h3,T⟩<;>omega
  exact⟨⟨p.at_.hp.more b,p.at_.tm,fun t=>(p.at_.nm t).mono b⟩,p.size,p.def_,p.ext,p.keep,fun l o h=>b _ (p.pre l o h)⟩
 ·rw [y];have F:(ST st.n s v ft on ops.size fun _=>false).t=st.t:=funext fun t=>by rw [← e1];exact EZ _ _ _ _ t
  have R:(ST st.n s v ft on ops.size fun _=>false).h=st.h:=funext fun x=>by rw [← e1];exact EZ _ _ _ _ x
  have b:∀ x,x<st.n→pD st.n ops.size (fun _=>false) x:=fun x z=> .inl z;refine⟨⟨?_,fun t=>?_,fun t=>?_⟩,N.size,(by show a.defers=Vi X.g0 (s 0).m.df∧∀ d∈(s 0).m.df,∀ l∈d.2,W4 X.pre l.1=some l.1;rw [e1];exact N.def_),⟨N.ext.h,N.ext.os,N.ext.tape,N.ext.output,N.ext.size⟩,N.keep,fun l o h=>b _ (N.pre l o h)⟩
  ·rw [R];exact (N.at_.hp.more b).same rfl
  ·rw [F];exact N.at_.tm t
  ·rw [F];exact (N.at_.nm t).mono b
end
end Go.AE
namespace Go.AE
open Go.RowKit
def Um (X:FX)(out:List D)(v:Value)(w:World):Prop:=
 ∃ g' a,aS X.u (·<X.I6.objs.length) g' (W3 E0 X.I6 out).h w∧
  (∀ t,VV g' ((W3 E0 X.I6 out).t t) (a t)∧((W3 E0 X.I6 out).t t).aU (·<X.I6.objs.length))∧Ext X.g0 X.w0 g' w∧VU X.pre X.g0 g'∧v=FP X.I6.slots a
def Fin (X:FX)(out:List D)(a:Act)(w:World):Prop:=Leaves X.c.P X.fn a.tmps (fun e w'=>∃ v,e = .returned v∧Um X out v w') a.defers .returning w
def Nv (m:Nat)(c:sN)(f:Nat)(I6:Sk)(pre:List (Nat×Nat))(df:List (Nat×List (Nat×Nat)))(once:Bool)(id:Nat)(body:Code)(sk:Sk)(ds:List D)(b:Bool)(out:List D):Prop:=
 ∀ (X:FX),X.c=c→c.IS X.g0.h→c.P.funcs[f]? = some X.fn→X.I6=I6→X.pre=pre→(∀ l o,W4 pre l=some o→o=l)→∀ (a:Act) (w:World) (g:G),GB X (·<sk.objs.length) g ((W3 E0 sk ds).later df) a w→
  ∀ Q:Exit→Act→World→Prop,(b=false→∀ d w' g',GB X (·<sk.objs.length) g' ((W3 E0 sk out).later df) d w'→Q .normal d w')→(b=true→∀ d w',Fin X out d w'→Q .ret d w')→
   if once=true then body.wp c.P Q a w else Code.rounds c.P body (Exit.inBlock id Q) m a w
def Zu (m:Nat)(c:sN)(rec:Task→Out):Prop:=∀ f I6 pre df once id body sk ds b out,rec (.loop f I6 pre df once id body sk ds)=some (b,out)→Nv m c f I6 pre df once id body sk ds b out
def oK {P:Program}{fn:Func}{tmps:Array Value}{R:Ending→World→Prop}:∀ (ds:List Deferred) (u:FrameMode) (w:World) (b:Frame) (cs:List Frame),b.mode=u→b.defers=ds→b.tmps=tmps→P.funcs[b.fn]? = some fn→b.kind = .deferred→Leaves P fn tmps R ds u w→∃ e w' g,R e w'∧Comes P (lone b cs w) (lone g cs w') e∧g.kind = .deferred∧g.going P w' e
 |[],u,w,b,cs,z,J,I,F,y,h=>by
  cases u with
  |run=>exact h.elim
  |returning=>obtain⟨v,O,G⟩:=h;exact⟨.returned v,w,b,G,Steps.refl P _,y,z,J,fn,F,I▸O⟩
  |panicking chain=>exact⟨.panicked chain,w,b,h,Steps.refl P _,y,z,J,fn,F⟩
 |d::ds,u,w,b,cs,z,J,I,F,y,h=>by
  obtain⟨B,T,cap,f,args,A,C,p⟩:=h;have h1:=step_defer (cs:=cs) (z▸B) J A C;obtain⟨e,i,w',S,G,a,K,E⟩:=p { b with defers:=ds } cs z
  cases e with
  |returned v=>have M:=step_going_returned (c:={ { b with defers:=ds } with mode:=i }) (cs:=cs) K E;obtain⟨N,j,g,q,k,o,l⟩:=oK ds (settle i) w' { { { b with defers:=ds } with mode:=i } with mode:=settle i } cs rfl rfl I F y G;exact⟨N,j,g,q,Comes.of_steps (.head h1 (Steps.trans a (.one M))) k,o,l⟩
  |panicked chain=>have M:=step_going_panicked (c:={ { b with defers:=ds } with mode:=i }) (cs:=cs) E;obtain⟨N,j,g,q,k,o,l⟩:=oK ds (raised i chain) w' { { { b with defers:=ds } with mode:=i } with mode:=raised i chain } cs rfl rfl I F y G;exact⟨N,j,g,q,Comes.of_steps (.head h1 (Steps.trans a (.one M))) k,o,l⟩
  |outgrown=>exact⟨.outgrown,w',b,G,Outgrown.of_steps (.one h1) a,y,trivial⟩
def DH {P:Program}{f:FuncId}{fn:Func}{c:Code}{args:Array Value}{u:FrameMode}{w:World}{R:Ending→World→Prop} (E:u = .returning) (B:P.funcs[f]? = some fn) (G:fn.body=some c) (h:c.wp P (bodyPostD P fn R) { tmps:=args++Array.replicate (fn.ntmps-args.size) undef,defers:=[] } w) :CallsD P f args u w fun e F w'=>F=u∧R e w':=by
 intro o cs E;let b:Frame:={ (default:Frame) with fn:=f,kind:= .deferred };have i:Frame.enter P f args .deferred =b.at { tmps:=args++Array.replicate (fn.ntmps-args.size) undef,defers:=[] } [.code c]:=by simp [Frame.enter,Frame.at,B,G,b]
 have C:({ o with mode:=u }:Frame)=o:=by subst E;rfl
 obtain⟨e,p,w',k,a⟩:=h b [] (o::cs);rw [← i] at a
 cases e with
 |normal=>obtain⟨A,d,g,z,q,y,hl⟩:=oK p.defers .returning w' { b.at p [] with mode:= .returning } (o::cs) rfl rfl rfl B rfl k;exact⟨A,u,d,g,⟨rfl,z⟩,(by rw [C];exact Comes.of_steps (Steps.trans a (.one step_end)) q),y,hl⟩
 |ret=>obtain⟨todo,j⟩:=a;obtain⟨A,d,g,z,q,y,hl⟩:=oK p.defers .returning w' { b.at p todo with mode:= .returning } (o::cs) rfl rfl rfl B rfl k;exact⟨A,u,d,g,⟨rfl,z⟩,(by rw [C];exact Comes.of_steps j q),y,hl⟩
 |panic chain=>obtain⟨todo,j⟩:=a;obtain⟨A,d,g,z,q,y,hl⟩:=oK p.defers (.panicking chain) w' { b.at p todo with mode:= .panicking chain } (o::cs) rfl rfl rfl B rfl k;exact⟨A,u,d,g,⟨rfl,z⟩,(by rw [C];exact Comes.of_steps j q),y,hl⟩
 |exit id=>exact k.elim
 |goto l=>exact k.elim
 |outgrown=>exact⟨.outgrown,u,w',b,⟨rfl,k⟩,a.resolve_left (by simp [b]),rfl,trivial⟩
def VG:∀ {a b:List (Nat×Nat)},YT a b=true→a=b
 |[],[],_=>rfl
 |[],_::_,h=>by cases h
 |_::_,[],h=>by cases h
 |(x,y)::r,(x',d)::q,h=>by simp only [YT,A9] at h;rw [B0 h.1.1,B0 h.1.2,VG h.2]
def DA:∀ {a b:List (Nat×List (Nat×Nat))},RD a b=true→a=b
 |[],[],_=>rfl
 |[],_::_,h=>by cases h
 |_::_,[],h=>by cases h
 |(x,y)::r,(x',d)::q,h=>by simp only [RD,A9] at h;rw [B0 h.1.1,VG h.1.2,DA h.2]
def aP0:Ex→Exit
 | .normal=> .normal
 | .ret=> .ret
 | .exit id=> .exit id
section
variable {X:FX} {rec:Task→Out} {r:Bool×List D} {f:Nat}
def OG {x:Out}{k:List D→Out}(h:gM x k=some r):(∃ ds,x=some (true,ds)∧r=(true,ds))∨∃ ds,x=some (false,ds)∧k ds=some r:=by
 unfold gM at h;split at h
 ·rename_i ds;cases h;exact .inl ⟨ds,rfl,rfl⟩
 ·rename_i ds;exact .inr ⟨ds,rfl,h⟩
 ·cases h
mutual
def D.AU:∀ (x y:D),D.eq x y=true→x=y
 | .top,y,h=>by cases y<;>first|rfl|cases h
 | .bool _,y,h=>by cases y<;>first|cases h;done|(simp only [D.eq,beq_iff_eq] at h;rw [h])
 | .int _ _,y,h=>by cases y<;>first|cases h;done|(simp only [D.eq,A9,beq_iff_eq,decide_eq_true_eq] at h;rw [h.1,h.2])
 | .str _,y,h=>by cases y<;>first|cases h;done|(simp only [D.eq,beq_iff_eq] at h;rw [h])
 | .Z _ xs,y,h=>by cases y<;>first|cases h;done|(simp only [D.eq,A9] at h;rw [B0 h.1,D.CR xs _ h.2])
 | .nils _ _,y,h=>by cases y<;>first|cases h;done|(simp only [D.eq,A9] at h;rw [B0 h.1,B0 h.2])
 | .und,y,h=>by cases y<;>first|rfl|cases h
 | .agg xs,y,h=>by cases y<;>first|cases h;done|(simp only [D.eq] at h;rw [D.CR xs _ h])
 | .fn _,y,h=>by cases y<;>first|cases h;done|(simp only [D.eq] at h;rw [B0 h])
 | .nilp,y,h=>by cases y<;>first|rfl|cases h
 | .nilf,y,h=>by cases y<;>first|rfl|cases h
 | .nilm,y,h=>by cases y<;>first|rfl|cases h
 | .nili,y,h=>by cases y<;>first|rfl|cases h
 | .ub,y,h=>by cases y<;>first|rfl|cases h
 | .iface _ x,y,h=>by cases y<;>first|cases h;done|(simp only [D.eq,A9] at h;rw [B0 h.1,D.AU x _ h.2])
def D.CR:∀ (xs ys:List D),D.eqs xs ys=true→xs=ys
 |[],ys,h=>by cases ys<;>first|rfl|cases h
 |x::xs,ys,h=>by
  cases ys with
  |nil=>cases h
  |cons y ys=>simp only [D.eqs,A9] at h;rw [D.AU x y h.1,D.CR xs ys h.2]
end
def Ed {a b:Out}{r:Bool×List D}(h:agree a b=some r):a=some r∧b=some r:=by
 unfold agree at h;split at h
 ·rename_i x xs y ys;obtain⟨h1,d⟩:=J6 h;simp only [A9,beq_iff_eq] at h1;cases d;obtain⟨rfl,h1⟩:=h1;rw [D.CR _ _ h1];exact⟨rfl,rfl⟩
 ·cases h
def xS {p:Nat→Prop}{g:G}{st:St}{a:Act}{w:World}(N:GB X p g st a w){x:Operand}{b:Bool}(h:R0 st x = .d (.bool b)):refine st x b=st:=by
 cases x with
 |tmp t=>exact CA h
 |const _=>rfl
 |global _=>rfl
 |func _=>rfl
def iV (I:mK X.c)(A:X.c.IS X.g0.h)(q:yL X.c rec){m:Nat}(d:Zu m X.c rec)(u:∀ l o,W4 X.pre l=some o→o=l)(J:X.c.P.funcs[f]? = some X.fn) :∀ (code:Code) {st:St} {a:Act} {w:World} {g:G} {K:Ex→St→Out} {Q:Exit→Act→World→Prop},exec X.c rec f X.fn.ntmps X.I6 X.pre code st K=some r→GB X (·<st.n) g st a w→(∀ e st' p w' g',K e st'=some r→GB X (·<st'.n) g' st' p w'→Q (aP0 e) p w')→(∀ out,r=(true,out)→∀ p w',Fin X out p w'→Q .ret p w')→code.wp X.c.P Q a w
 | .skip,st,a,w,g,K,Q,h,N,k,C=>wp_skip (k .normal st a w g h N)
 | .exit id,st,a,w,g,K,Q,h,N,k,C=>wp_exit (k (.exit id) st a w g h N)
 | .ret,st,a,w,g,K,Q,h,N,k,C=>wp_ret (k .ret st a w g h N)
 | .region id ops draw,st,a,w,g,K,Q,h,N,k,C=>by
  simp only [exec] at h
  cases draw with
  |true=>simp only [cond_true] at h;obtain⟨hm,h⟩:=J6 h;refine Ar I A q hm N h fun st' p w' g' h1 i h3=>k .normal _ p w' g' h1 ?_;exact⟨⟨i.at_.hp,i.at_.tm,i.at_.nm⟩,i.size,i.def_,i.ext,i.keep,i.pre⟩
  |false=>(simp only [cond_false] at h;refine wp_region_list (xR I A q ops.toList 0 h (by simpa using N) rfl fun st' p w' g' h1 i h3=>k .normal _ p w' g' h1 ?_);have e:st.n+32*(0+ops.toList.length)=st.n+32*ops.size:=by simp);rw [e] at i;exact⟨⟨i.at_.hp,i.at_.tm,i.at_.nm⟩,i.size,i.def_,i.ext,i.keep,i.pre⟩
 | .seq x y,st,a,w,g,K,Q,h,N,k,C=>by
  simp only [exec] at h;refine wp_seq (iV I A q d u J x h N (fun e st' p w' g' h1 i=>?_) (fun out S p w' B=>C out S p w' B))
  cases e with
  |normal=>exact iV I A q d u J y h1 i k C
  |ret=>exact k .ret st' p w' g' h1 i
  |exit id=>exact k (.exit id) st' p w' g' h1 i
 | .cond x y z,st,a,w,g,K,Q,h,N,k,C=>by
  simp only [exec] at h;split at h
  ·rename_i t ts hcut;obtain⟨g1,N1⟩:=Dn N (X.pre.map (·.1)) (t::ts);split at h
   ·rename_i cf O;obtain⟨g2,R⟩:=AP N1 u O;rcases OG h with ⟨ds,h1,i⟩|⟨ds,h1,i⟩
    ·have:=d _ _ _ _ _ _ _ _ _ _ _ h1 X rfl A J rfl rfl u a w g2 R Q (fun E=>by cases E) (fun _ p w' B=>C ds i p w' B);simpa using this
    ·obtain⟨M,i⟩:=J6 i;have:=d _ _ _ _ _ _ _ _ _ _ _ h1 X rfl A J rfl rfl u a w g2 R Q (fun _ p w' g' T=>k .normal _ p w' g' i (NB T M)) (fun E=>by cases E);simpa using this
   ·cases h
  ·split at h
   ·rename_i b E;have F:=N.at_.ev x;rw [E] at F;have F:=GD F
    cases b with
    |true=>simp only [cond_true] at h;rw [xS N E] at h;exact wp_cond_true F (iV I A q d u J y h N k C)
    |false=>simp only [cond_false] at h;rw [xS N E] at h;exact wp_cond_false F (iV I A q d u J z h N k C)
   ·rename_i E;have F:=N.at_.ev x;rw [E] at F;obtain⟨b,F⟩:=F;obtain⟨h1,i⟩:=Ed h
    cases b with
    |true=>exact wp_cond_true F (iV I A q d u J y h1 N k C)
    |false=>exact wp_cond_false F (iV I A q d u J z i N k C)
   ·cases h
 | .block id b,st,a,w,g,K,Q,h,N,k,C=>by
  by_cases E:∃ body,b = .loop body
  ·obtain⟨body,rfl⟩:=E;simp only [exec] at h;obtain⟨g1,N1⟩:=Dn N (X.pre.map (·.1)) (X.c.keep f id);split at h
   ·rename_i cf O;obtain⟨g2,R⟩:=AP N1 u O;have fin:Code.rounds X.c.P body (Exit.inBlock id Q) m a w→(Code.block id (.loop body)).wp X.c.P Q a w:=fun I=>wp_block (wp_loop_rounds m I);rcases OG h with ⟨ds,h1,i⟩|⟨ds,h1,i⟩
    ·have:=d _ _ _ _ _ _ _ _ _ _ _ h1 X rfl A J rfl rfl u a w g2 R Q (fun E=>by cases E) (fun _ p w' B=>C ds i p w' B);exact fin (by simpa using this)
    ·obtain⟨M,i⟩:=J6 i;have:=d _ _ _ _ _ _ _ _ _ _ _ h1 X rfl A J rfl rfl u a w g2 R Q (fun _ p w' g' T=>k .normal _ p w' g' i (NB T M)) (fun E=>by cases E);exact fin (by simpa using this)
   ·cases h
  ·have h':exec X.c rec f X.fn.ntmps X.I6 X.pre b st (fun e st'=>match e with | .exit j=>bif Nat.beq j id then K .normal st' else K (.exit j) st'|e=>K e st')=some r:=by
    cases b<;>first|exact h|exact absurd ⟨_,rfl⟩ E
   refine wp_block (iV I A q d u J b h' N (fun e st' p w' g' h1 i=>?_) (fun out S p w' B=>C out S p w' B))
   cases e with
   |normal=>exact k .normal st' p w' g' h1 i
   |ret=>exact k .ret st' p w' g' h1 i
   |exit j=>
    simp only [] at h1;show Exit.inBlock id Q (.exit j) p w';by_cases hj:j=id
    ·subst hj;rw [beq_iff.2 rfl] at h1;simp only [Exit.inBlock,if_true];exact k .normal st' p w' g' h1 i
    ·rw [beq_false hj] at h1;simp only [Exit.inBlock,hj,if_false];exact k (.exit j) st' p w' g' h1 i
 | .loop _,st,a,w,g,K,Q,h,N,k,C=>by simp [exec] at h
 | .scope _,st,a,w,g,K,Q,h,N,k,C=>by simp [exec] at h
 | .label _,st,a,w,g,K,Q,h,N,k,C=>by simp [exec] at h
 | .goto _,st,a,w,g,K,Q,h,N,k,C=>by simp [exec] at h
 | .refuse _,st,a,w,g,K,Q,h,N,k,C=>by simp [exec] at h
 | .rangeFunc ..,st,a,w,g,K,Q,h,N,k,C=>by simp [exec] at h
def BZ {p:Nat→Prop}{g:G}{st:St}{a:Act}{w:World}{P:Program}{u:Nat→Option Obj}(S:At u p g st a w):∀ {rs:List ResultVar},wK P st rs=true→∃ vals,(rs.mapM fun F=>(match F with | .tmp t=>pure (a.tmps.getD t undef) | .cell b t=>do loadVar t (← asAddr (a.tmps.getD b undef)):Sem Value)).run P w = .ok vals w∧F2 (VV g) (kA P st rs) vals∧∀ x∈kA P st rs,x.aU p
 |[],_=>⟨[],by simp,.nil,fun x l=>nomatch l⟩
 | .tmp t::rs,h=>by
  obtain⟨vals,h1,O,N⟩:=BZ S (rs:=rs) h;refine⟨a.tmps.getD t undef::vals,?_,.cons (S.tm t) O,fun x l=>?_⟩
  ·rw [List.mapM_cons];simp only [Sem.run_bind,Sem.run_pure,Result.andThen_ok,h1]
  ·simp only [kA] at l;rcases B7.1 l with rfl|l
   ·exact S.nm t
   ·exact N x l
 | .cell b t::rs,h=>by
  simp only [wK,A9] at h;obtain⟨vals,h1,O,N⟩:=BZ S (rs:=rs) h.2;have h0:=h.1;split at h0
  ·rename_i o off K;split at h0
   ·rename_i cs A;have C:=S.tm b;rw [K] at C;have C:=IZ C;obtain⟨c,e,hb,M,R⟩:=S.hp.ob _ _ A;simp only [A9] at h0;obtain⟨z,h0⟩:=h0;obtain⟨d,info,T,q,E,hs⟩:=lX z;have k:nO w ⟨g.blk o,0,none⟩ c.toList:=fun j v hj=>by
     rw [R5,C5,cell_of_row w _ j c e (0,0) hb];simpa using hj
    have fin:∀ v vv,kA P st (.cell b t::rs)=vv::kA P st rs→(loadVar t ⟨g.blk o,off,none⟩).run P w = .ok v w→VV g vv v→vv.aU p→∃ vals,((ResultVar.cell b t::rs).mapM fun F=>(match F with | .tmp t=>pure (a.tmps.getD t undef) | .cell b t=>do loadVar t (← asAddr (a.tmps.getD b undef)):Sem Value)).run P w = .ok vals w∧F2 (VV g) (kA P st (.cell b t::rs)) vals∧
       ∀ x∈kA P st (.cell b t::rs),x.aU p:=by
     intro v vv e1 e2 e3 e4;rw [e1];refine⟨v::vals,?_,.cons e3 O,fun x l=>?_⟩
     ·(have hA:(asAddr (a.tmps.getD b undef)).run P w = .ok ⟨g.blk o,off,none⟩ w:=by rw [C];simp [asAddr]);rw [List.mapM_cons];simp only [Sem.run_bind,hA,Sem.run_pure,Result.andThen_ok,e2,h1]
     ·rcases B7.1 l with rfl|l
      ·exact e4
      ·exact N x l
    cases hag:X7 P t with
    |true=>
     rw [hag] at h0 E;have hle:off+cA P t≤cs.length:=B3 h0;have B:=M.length;refine fin _ (aY3 ((cs.drop off).take (cA P t))) (by simp only [kA,K,A,hag,cond_true]) (oS T q E.symm (us:=(c.toList.drop off).take (cA P t)) (by simp at B ⊢;omega) ?_) (gX (vZ ((M.drop off).take _))) (fH (rF fun y hy=>?_))
     ·have:=(k.sub (w:=w) off).take (cA P t)
      rwa [R5,C5] at this
     ·exact (S.hp.use _ _ A).2 y (List.mem_of_mem_drop (List.mem_of_mem_take hy))
    |false=>rw [hag] at h0 E;have i:Nat.ble (off+1) cs.length=true:=h0;have i:=B3 i;obtain⟨v,J,I⟩:=M.get off _ (C2 i);have:=k off v J;rw [R5,C5] at this;refine fin v cs[off] ?_ (oT T E.symm this) (gX I) (fH ((S.hp.use _ _ A).2 _ (C6 i)));simp only [kA,K,A,hag,cond_false];rw [C2 i];rfl
   ·cases h0
  ·cases h0
def OV:∀ {sl:List (Nat×SV)} {i:Nat} {pre vals:List Value},WM i sl=true→pre.length=i→sl.length=vals.length→(sl.map fun x=>(pre++vals).getD x.1 undef)=vals
 |[],i,pre,vals,_,_,hl=>by have:vals=[]:=D1 hl.symm;subst this;rfl
 |(j,s)::sl,i,pre,[],_,_,hl=>by simp at hl
 |(j,s)::sl,i,pre,v::vals,a,hp,hl=>by simp only [WM,A9] at a;have b:i=j:=beq_iff.1 a.1;subst b;have ih:=OV (sl:=sl) (i:=i+1) (pre:=pre++[v]) (vals:=vals) a.2 (by simp [hp]) (by simpa using hl);simp only [C1,List.singleton_append] at ih;simp only [List.map_cons,ih];congr 1;subst hp;simp
def XC {p:Nat→Prop}{st:St}{a:Act}{w:World}{g:G}{b:Bool}{out:List D}(j:∀ l o,W4 X.pre l=some o→o=l)(k:At X.u p g st a w)(y:Ext X.g0 X.w0 g w)(i:VU X.pre X.g0 g)(h:finish X.c.P X.fn.results.toList X.I6 X.pre st=some (b,out)) :∃ v,(results X.fn a.tmps).run X.c.P w = .ok v w∧Um X out v w:=by
 unfold finish at h;obtain⟨J,h⟩:=J6 h;simp only [A9] at J;obtain⟨⟨E,A⟩,d⟩:=J;have d:X.I6.slots.length=X.fn.results.toList.length:=beq_iff.1 d;obtain⟨vals,h1,K,T⟩:=BZ k E;split at h
 ·rename_i cf F;cases h;have q:uO X.pre:=fun l O o h h'=>by rw [← j l o h,← j O o h']
  obtain⟨gF,M⟩:=ET (tm:=fun t=>vals.getD t undef) F k.hp (XT K) (KA T) q;have C:(kA X.c.P st X.fn.results.toList).length=X.fn.results.toList.length:=by
   generalize X.fn.results.toList=rs
   induction rs with
   |nil=>rfl
   |cons x rs ih=>cases x<;>simp [kA,ih]
  have B:X.I6.slots.length=vals.length:=by rw [d,← C,K.length]
  refine⟨FP X.I6.slots fun t=>vals.getD t undef,?_,yN g gF cf.ren,fun t=>vals.getD t undef,M.aH0 k.hp,fun t=>⟨M.tm t,M.nm t⟩,y.trans ⟨M.a.h,rfl,rfl,rfl,B9 _⟩,fun l o hl=>?_,rfl⟩
  ·have hm:=OV (pre:=[]) A rfl B;simp only [List.nil_append] at hm;unfold FP;rw [hm];unfold results;have e:(X.fn.results.mapM fun N=>(match N with | .tmp t=>pure (a.tmps.getD t undef) | .cell b t=>do loadVar t (← asAddr (a.tmps.getD b undef)):Sem Value)).run X.c.P w = .ok vals.toArray w:=by
    rw [Array.mapM_eq_mapM_toList,map_eq_pure_bind];simp only [Sem.run_bind,h1,Result.andThen_ok,Sem.run_pure]
   simp only [Sem.run_bind];refine (congrArg (fun z:Result (Array Value)=>z.andThen fun (a:Array Value) w'=>Sem.run X.c.P (pure (if h:a.size=1 then a[0] else .tuple a)) w') e).trans ?_;simp only [Result.andThen_ok,Sem.run_pure];congr 1
   match vals with
   |[]=>rfl
   |[v]=>rfl
   |v::v'::vs=>simp
  ·have I:=M.pre l o hl;have S:=j l o hl;subst S;obtain⟨R,k4⟩:=i o o hl;exact⟨by simp only [yN,I,Option.getD_some];exact R,by simp only [yN,I,Option.getD_some];exact k4⟩
 ·cases h
def Ax {st:St}{b:Bool}{out:List D}(h:finish X.c.P X.fn.results.toList X.I6 X.pre st=some (b,out)):b=true:=by
 unfold finish at h;obtain⟨_,h⟩:=J6 h;split at h
 ·cases h;rfl
 ·cases h
def HC:∀ {df:List (Nat×List (Nat×Nat))} {st:St} {b:Bool} {out:List D},tA X.c rec X.fn.results.toList X.I6 X.pre df st=some (b,out)→b=true
 |[],st,b,out,h=>Ax h
 |(f,zs)::r,st,b,out,h=>by simp only [tA] at h;rw [EV] at h;obtain⟨⟨v,st'⟩,_,h⟩:=AD h;exact HC h
def Jd {g:G}(a:VU X.pre X.g0 g):∀ {zs:List (Nat×Nat)},(∀ l∈zs,W4 X.pre l.1=some l.1)→F2 (VV g) (zs.map fun x=>V.ptr x.1 x.2) (zs.map fun l=>Value.pointer (some ⟨X.g0.blk l.1,l.2,none⟩))
 |[],_=> .nil
 |x::zs,h=>by refine .cons ?_ (Jd a fun l hl=>h l (by simp [hl]));show Value.pointer _ = .pointer (some ⟨g.blk x.1,x.2,none⟩);rw [(a _ _ (h x (by simp))).1]
def SE (M:mK X.c)(S:X.c.IS X.g0.h)(E:yL X.c rec)(O:∀ l o,W4 X.pre l=some o→o=l){b:Bool}{out:List D}:∀ (df:List (Nat×List (Nat×Nat))) (st:St) (a:Act) (w:World) (g:G),tA X.c rec X.fn.results.toList X.I6 X.pre df st=some (b,out)→At X.u (·<st.n) g st a w→Ext X.g0 X.w0 g w→VU X.pre X.g0 g→(∀ l o,W4 X.pre l=some o→l<st.n)→(∀ d∈df,∀ l∈d.2,W4 X.pre l.1=some l.1)→Leaves X.c.P X.fn a.tmps (fun e w'=>∃ v,e = .returned v∧Um X out v w') (Vi X.g0 df) .returning w:=by
 intro df
 induction df with
 |nil=>intro st a w g h A z i p B;obtain⟨v,h1,h2⟩:=XC O A z i h;exact⟨v,h1,v,rfl,h2⟩
 |cons d r ih=>
  obtain⟨C,zs⟩:=d;intro st a w g h A z i p B;simp only [tA] at h;have F:=B (C,zs) (by simp);have hF:=Jd (g:=g) i F;have hu:∀ x∈(zs.map fun x=>V.ptr x.1 x.2),x.aU (·<st.n):=by intro x J;obtain⟨y,hy,rfl⟩:=List.mem_map.1 J;exact p _ _ (F y hy)
  obtain⟨fn,I,hb,vv,mJ,N,hc⟩:=KY (CL:=Xu X.c.P) (q:=(·<st.n+32)) (fun f a w R R' h hr=>CallsD.mono h fun e u' w' k=>⟨k.1,hr _ _ k.2⟩) (no:=true) M.2.2.1 (M.2.2.1 _ _ z.h S) (fun sk ds out h K=>(E _ _ _ _ h).2 (K rfl)) A.hp (fun x J=>(Nat.lt_add_right 32 J:x<st.n+32)) (fun k N=>⟨Nat.not_lt.2 (Nat.le_add_right _ _),(Nat.add_lt_add_left N _:st.n+k<st.n+32)⟩) hF hu h;have e0:Vi X.g0 ((C,zs)::r)={ target:= .fn (.func C) #[],args:=(zs.map fun l=>Value.pointer (some ⟨X.g0.blk l.1,l.2,none⟩)).toArray }::Vi X.g0 r:=rfl;rw [e0];generalize (zs.map fun l=>Value.pointer (some ⟨X.g0.blk l.1,l.2,none⟩)).toArray=vals at hc;generalize Vi X.g0 r=ds0 at ih;refine leaves_cons (f:=C) (args:=vals) (u:= .returning) (by simp) ?_ (CallsD.mono hc ?_)
  ·(have j:=M.1 C fn I;have j:fn.name≠"runtime.NumGoroutine":=by simpa using j);have T:fn.body≠none:=by intro h;rw [h] at hb;cases hb
   simp [invoke,callFunc,I,j,T]
  ·rintro e u' w' ⟨rfl,v,rfl,g',s1,s2,s3,s4,s5,s6,s7⟩;show Leaves _ _ _ _ _ .returning w';refine ih { mJ with m:=⟨st.n+32,mJ.m.df⟩ } a w' g' N ⟨s1,fun t=>?_,fun t=>?_⟩ (z.trans s3) (i.agree s2 p) (fun l o hl=>Nat.lt_of_lt_of_le (p l o hl) (by show st.n≤st.n+32;omega)) (fun d hd=>B d (by simp [hd]))
   ·show VV g' (mJ.t t) _;rw [s6];exact (A.tm t).agree s2 (A.nm t)
   ·show (mJ.t t).aU _;rw [s6];exact (A.nm t).mono (fun x J=>by show x<st.n+32;omega)
def ND (k:mK X.c)(j:X.c.IS X.g0.h)(d:yL X.c rec)(i:∀ l o,W4 X.pre l=some o→o=l){b:Bool}{out:List D}{st:St}{a:Act}{w:World}{g:G}(h:tA X.c rec X.fn.results.toList X.I6 X.pre st.m.df st=some (b,out))(N:GB X (·<st.n) g st a w):b=true∧Fin X out a w:=by refine⟨HC h,?_⟩;unfold Fin;rw [N.def_.1];exact SE k j d i _ _ _ _ _ h N.at_ N.ext N.keep N.pre N.def_.2
def WY (A:mK X.c)(p:X.c.IS X.g0.h)(i:yL X.c rec){m:Nat}(d:Zu m X.c rec)(k:∀ l o,W4 X.pre l=some o→o=l)(B:X.c.P.funcs[f]? = some X.fn){code:Code}{st:St}{a:Act}{w:World}{g:G}{K:Ex→St→Out}{Q:Exit→Act→World→Prop} (h:Ey X.c rec f X.fn.ntmps X.I6 X.pre code st K=some r) (N:GB X (·<st.n) g st a w) (E:∀ e st' q w' g',K e st'=some r→GB X (·<st'.n) g' st' q w'→Q (aP0 e) q w') (C:∀ out,r=(true,out)→∀ q w',Fin X out q w'→Q .ret q w'):code.wp X.c.P Q a w:=by
 unfold Ey at h;split at h
 ·rename_i x y z;split at h
  ·rename_i b u;have j:=N.at_.ev x;rw [u] at j;have j:=GD j
   cases b with
   |true=>simp only [cond_true] at h;rw [xS N u] at h;exact wp_cond_true j (iV A p i d k B y h N E C)
   |false=>simp only [cond_false] at h;rw [xS N u] at h;exact wp_cond_false j (iV A p i d k B z h N E C)
  ·cases h
 ·cases h
def Fa (args:Array Value)(n t:Nat):(args++Array.replicate n undef).getD t undef=args.getD t undef:=by
 simp only [D2,Array.getElem?_append];split
 ·rfl
 ·rename_i a;rw [Array.getElem?_eq_none (by omega:args.size≤t),Array.getElem?_replicate];split<;>rfl
def VC {c:sN}(hn:mK c)(horc:∀ f sk ds r,c.SQ f sk ds=some r→tN c f sk ds r):∀ n,yL c (run c n)∧Zu n c (run c n)
 |0=>⟨fun f sk ds out h=>by simp [run] at h,fun f I6 pre df once id body sk ds b out h=>by simp [run] at h⟩
 |n+1=>by
  obtain⟨C,O⟩:=VC hn horc n;refine⟨fun f sk ds out h=>?_,fun f I6 pre df once id body sk ds b out h=>?_⟩
  ·simp only [run] at h;split at h
   ·rename_i r hr;cases h;exact⟨horc f sk ds _ hr,fun hno=>by rw [hno] at hr;cases hr⟩
   ·split at h
    ·rename_i fn z;split at h
     ·rename_i body J;obtain⟨F,h⟩:=J6 h;have main:∀ (u:Nat→Option Obj) (g:G),c.IS g.h→∀ (args:Array Value) (w:World),args.size=sk.slots.length→aS u (·<sk.objs.length) g (W3 E0 sk ds).h w→(∀ t,VV g ((W3 E0 sk ds).t t) (args.getD t undef)∧((W3 E0 sk ds).t t).aU (·<sk.objs.length))→body.wp c.P (bodyPostD c.P fn fun e w'=>∃ v,e = .returned v∧Um ⟨c,fn,u,oB c.P (c.dres f) fn.resultTypes.toList sk,eU 0 sk.objs,g,w⟩ out v w') { tmps:=args++Array.replicate (fn.ntmps-args.size) undef,defers:=[] } w:=by
       intro u g p args w A S T;let X:FX:=⟨c,fn,u,oB c.P (c.dres f) fn.resultTypes.toList sk,eU 0 sk.objs,g,w⟩;have q:∀ l o,W4 X.pre l=some o→o=l:=fun l o hl=>(rI.1 hl).1;have N0:GB X (·<sk.objs.length) g ((W3 E0 sk ds).later []) { tmps:=args++Array.replicate (fn.ntmps-args.size) undef,defers:=[] } w:=by
        refine⟨⟨S,fun t=>?_,fun t=>(T t).2⟩,?_,⟨rfl,fun d hd=>by cases hd⟩,Ext.refl g w,fun l o _=>⟨rfl,rfl⟩,fun l o hl=>?_⟩
        ·show VV g _ ((args++Array.replicate (fn.ntmps-args.size) undef).getD t undef);rw [Fa];exact (T t).1
        ·show fn.ntmps≤(args++Array.replicate (fn.ntmps-args.size) undef).size;simp;omega
        ·obtain⟨_,k,s,h1,M,_⟩:=rI.1 hl;have:=(List.getElem?_eq_some_iff.1 M).1;omega
       refine iV (X:=X) hn p C O q z body h (NB N0 F) (fun e st' E w' g' h1 M=>?_) (fun R ho E w' i=>?_)
       ·cases e with
        |ret=>exact (ND hn p C q h1 M).2
        |normal=>exact (ND hn p C q h1 M).2
        |exit j=>cases h1
       ·cases ho;exact i
      refine⟨fun fn' B u g p args w A S T=>?_,fun _ fn' B u g p args w A S T=>?_⟩
      ·rw [z] at B;cases B;exact calls_of_wp_defers z J (main u g p args w A S T)
      ·rw [z] at B;cases B;exact DH rfl z J (main u g p args w A S T)
     ·cases h
    ·cases h
  ·simp only [run] at h;split at h
   ·rename_i fn z;obtain⟨F,h⟩:=J6 h;intro X hX p hXf hXo hXp q a w g N Q hQ K;subst hX;rw [z] at hXf;simp only [B1] at hXf;subst hXf;subst hXo;subst hXp;have N1:=NB N F
    cases once with
    |true=>
     simp only [cond_true] at h;simp only [if_true];refine WY hn p C O q z h N1 (fun e st' E w' g' h1 M=>?_) (fun R ho E w' i=>?_)
     ·cases e with
      |ret=>obtain⟨hb,i⟩:=ND hn p C q h1 M;exact K hb E w' i
      |normal=>
       simp only [] at h1;replace h1:=N9 h1;obtain⟨y,h1⟩:=h1;rw [Bool.not_eq_false'] at y;have y:=DA y;subst y;split at h1
       ·rename_i cf I;simp only [cond_true,B1,C7] at h1;obtain⟨h1,h3⟩:=h1;obtain⟨g2,N2⟩:=AP M q I;rw [h3] at N2;exact hQ h1.symm E w' g2 N2
       ·cases h1
      |exit j=>simp at h1
     ·cases ho;exact K rfl E w' i
    |false=>
     simp only [cond_false] at h;simp only [D6,if_false,rounds_succ];refine iV hn p C O q z body h N1 (fun e st' E w' g' h1 M=>?_) (fun R ho E w' i=>?_)
     ·cases e with
      |ret=>obtain⟨hb,i⟩:=ND hn p C q h1 M;exact K hb E w' i
      |normal=>
       simp only [] at h1;replace h1:=N9 h1;obtain⟨y,h1⟩:=h1;rw [Bool.not_eq_false'] at y;have y:=DA y;subst y;split at h1
       ·rename_i cf I;obtain⟨g2,N2⟩:=AP M q I;have:=O _ _ _ _ _ _ _ _ _ _ _ h1 X rfl p z rfl rfl q E w' g2 N2 Q hQ K;simp only [D6,if_false] at this;exact this
       ·cases h1
      |exit j=>
       replace h1:=J6 h1;obtain⟨hj,h1⟩:=h1;simp only [Bool.not_false,Bool.and_true,A9] at hj;have y:=DA hj.2;subst y;have hj:j=id:=beq_iff.1 hj.1;subst hj;split at h1
       ·rename_i cf I;cases h1;obtain⟨g2,N2⟩:=AP M q I;show Exit.inBlock j Q (.exit j) E w';simp only [Exit.inBlock,if_true];exact hQ rfl E w' g2 N2
       ·cases h1
     ·cases ho;exact K rfl E w' i
   ·cases h
end
end Go.AE
namespace Go.AE
open Go.RowKit
def PH:List D→Option (Bool×List D)
 |[.int .u64 x,.int .u64 y,.int .u64 c]=>some (decide (0≤x)&&decide (0≤y)&&decide (0≤c)&&decide (c≤1),[.int .u64 ((x+y+c) % 18446744073709551616),.int .u64 ((x+y+c) / 18446744073709551616)])
 |_=>none
def jD (c:UInt8):G1→Nat→Int
 |[],_=>-1
 |x::xs,j=>bif x==c then (j:Int) else jD c xs (j+1)
def xB:List D→Option (Bool×List D)
 |[.str s,.int .u8 c]=>some (true,[.int .i64 (jD c.toNat.toUInt8 s 0)])
 |_=>none
def EJ (gv:Nat)(h:Nat→Option Obj):Prop:=∃ m:Int,tS h ⟨gv,0,none⟩=some (.int .i64 m)
def Dw (c:sN)(f:Nat)(x:List D→Option (Bool×List D)):Prop:=∀ (ds r:List D),x ds=some (true,r)→∀ (g:G) (vals:Array Value) (w:World),F2 (VV g) (ds.map V.d) vals.toList→
 ∃ v,(callFunc f vals).run c.P w = .ok (.value v) w∧VV g (XW (r.map V.d)) v
def XA:List (Nat×(List D→Option (Bool×List D)))→Nat→List D→Option (Bool×List D)
 |[],_,_=>none
 |(a,x)::r,f,ds=>bif Nat.beq f a then x ds else XA r f ds
def Aw {c:sN}:∀ (l:List (Nat×(List D→Option (Bool×List D)))),(∀ p∈l,Dw c p.1 p.2)→(∀ f ds,c.ext f ds=XA l f ds)→Gw c:=by
 intro l hl b f ds r h;rw [b] at h;clear b
 induction l with
 |nil=>cases h
 |cons p l ih=>
  obtain⟨a,x⟩:=p;simp only [XA] at h;by_cases e:f=a
  ·subst e;rw [beq_iff.2 rfl,cond_true] at h;exact hl (f,x) (by simp) ds r h
  ·rw [beq_false e,cond_false] at h;exact ih (fun p hp=>hl p (by simp [hp])) h
def Lf {c:sN}{f:Nat}{fn:Func}(p:c.P.funcs[f]? = some fn)(b:(fn.name=="runtime.NumGoroutine")=false)(u:fn.body.isNone=true)(o:Extern.findNext fn=none)(q:Extern.find fn=some add64Entry):Dw c f PH:=by
 intro ds r h g vals w a;unfold PH at h;split at h
 ·rename_i x y z
  cases h1:(decide (0≤x)&&decide (0≤y)&&decide (0≤z)&&decide (z≤1)) with
  |false=>rw [h1] at h;cases h
  |true=>
   rw [h1] at h;simp only [A9,decide_eq_true_eq] at h1;cases h;have d:vals=#[.int .u64 x,.int .u64 y,.int .u64 z]:=by
    obtain⟨l,d⟩:∃ l,vals.toList=l:=⟨_,rfl⟩;rw [d] at a
    cases a with
    |@cons _ k _ _ a1 a=>cases a with
     |@cons _ j _ _ a2 a=>cases a with
      |@cons _ i _ _ a3 a=>cases a with
       |nil=>apply Array.ext';rw [d];have C:k = .int .u64 x:=a1;have B:j = .int .u64 y:=a2;have A:i = .int .u64 z:=a3;rw [C,B,A]
   subst d;refine⟨.tuple #[.int .u64 ((x+y+z) % 18446744073709551616),.int .u64 ((x+y+z) / 18446744073709551616)],?_,?_⟩
   ·rw [run_callFunc_extern p b u o q,run_add64 x y z h1.1.1.1 h1.1.1.2 h1.1.2 h1.2];rfl
   ·exact⟨_,rfl,.cons rfl (.cons rfl .nil)⟩
 ·cases h
def XH (c:UInt8)(s:G1)(b:ByteArray)(o:b.data.toList=s):firstIdx b c=jD c s 0:=by
 have key:∀ (l:G1) (j:Nat),(∀ k,k<l.length→b[j+k]! = l[k]!)→jD c l j=match (List.range' j l.length).find? (fun i=>b[i]! == c) with|some i=>(i:Int)|none=>-1:=by
  intro l
  induction l with
  |nil=>intro j _;rfl
  |cons x xs ih=>
   intro j d;simp only [jD,A0,List.range'_succ,List.find?_cons];have h0:=d 0 (by simp);simp at h0;rw [h0]
   cases x==c with
   |true=>rfl
   |false=>simp only [cond_false];rw [ih (j+1) fun k g=>by have:=d (k+1) (by simpa using g);rw [show j+(k+1)=j+1+k by omega] at this;rw [this];simp]
 have a:b.size=s.length:=by rw [← o];simp
 unfold firstIdx;rw [key s 0 fun k d=>by
  rw [C5];subst o;have h:k<b.size:=by rw [a];exact d
  rw [getElem!_pos b k h,getElem!_pos b.data.toList k d];simp [ByteArray.getElem_eq_getElem_data],a,List.range_eq_range']
 cases List.find? (fun i=>b[i]! == c) (List.range' 0 s.length)<;>rfl
def SD {c:sN}{f:Nat}{fn:Func}(q:c.P.funcs[f]? = some fn)(a:(fn.name=="runtime.NumGoroutine")=false)(y:fn.body.isNone=true)(p:Extern.findNext fn=none)(u:Extern.find fn=some Extern.BytealgIndexByte.indexByte):Dw c f xB:=by
 intro ds r h g vals w d;unfold xB at h;split at h
 ·rename_i s n;cases h;have i:∃ b:ByteArray,b.data.toList=s∧vals=#[.string b,.int .u8 n]:=by
   obtain⟨l,i⟩:∃ l,vals.toList=l:=⟨_,rfl⟩;rw [i] at d
   cases d with
   |@cons _ k _ _ a1 d=>cases d with
    |@cons _ j _ _ a2 d=>cases d with
     |nil=>obtain⟨b,B,A⟩:=(show VD g.h (.str s) k from a1);have z:j = .int .u8 n:=a2;refine⟨b,A,?_⟩;apply Array.ext';rw [i,B,z]
  obtain⟨b,o,rfl⟩:=i;refine⟨.int .i64 (firstIdx b n.toNat.toUInt8),?_,?_⟩
  ·rw [run_callFunc_extern q a y p u,run_indexByte_string];rfl
  ·show Value.int .i64 _=_;rw [XH _ s b o]
 ·cases h
end Go.AE
namespace Go.AE
open Go.ChangeShapes Go.WideShapes Go.ChangeAt Go.RowKit
def snap (W:World):Nat→Option Obj:=fun b=>W.heap[b]?
mutual
def GH:D→Nat
 | .str s=>s.length+1
 | .Z _ xs=>kZ xs+1
 | .agg cs=>kZ cs
 |_=>1
def kZ:List D→Nat
 |[]=>0
 |x::xs=>GH x+kZ xs
end
structure Dy {H:Type} (m:DataW H→Nat) (ma:List (DataW H)→Nat):Prop where
 one:∀ d,1≤m d
 str:∀ b,b.length+1≤m (.lit (.string b))
 slice:∀ e s,ma e+1≤m (.slice e s)
 agg:∀ p,ma p≤m (.agg p)
 nil:ma []=0
 cons:∀ d r,ma (d::r)=m d+ma r
def Ii (P:Program)(total:Nat):Nat→List Field→Bool
 |off,[]=>Nat.beq off total
 |off,f::fs=>Nat.beq f.offset off&&Ii P total (off+P.cellsOf f.type) fs
def kD (P:Program):Nat→TypeId→Bool
 |0,_=>false
 |n+1,t=>match P.underlying t with
  |some .bool=>true
  |some (.int _)=>true
  |some .string=>true
  |some (.slice e)=>kD P n e&&IV P e
  |some (.struct fs)=>Ii P (P.cellsOf t) 0 fs.toList&&fs.toList.all fun f=>kD P n f.type
  |some (.array k e)=>Nat.beq (P.cellsOf t) (k*P.cellsOf e)&&kD P n e
  |_=>false
def RQ (P:Program):Nat→TypeId→List D→Prop
 |0,_,_=>False
 |n+1,t,xs=>match P.underlying t with
  |some .bool=>∃ b,xs=[.bool b]
  |some (.int k)=>∃ i,xs=[.int k i]∧(Lit.int k i).wf=true
  |some .string=>∃ s,xs=[.str s]
  |some (.slice e)=>∃ ys,xs=[.Z (cA P e) ys]∧∀ y∈ys,if X7 P e=true then ∃ cs,y = .agg cs∧RQ P n e cs else RQ P n e [y]
  |some (.struct fs)=>∃ parts:List (List D),xs=parts.flatten∧F2 (fun f p=>RQ P n f.type p) fs.toList parts
  |some (.array k e)=>∃ parts:List (List D),xs=parts.flatten∧parts.length=k∧∀ p∈parts,RQ P n e p
  |_=>False
def Du (P:Program)(n:Nat)(t:TypeId)(x:D):Prop:=if X7 P t=true then ∃ cs,x = .agg cs∧RQ P n t cs else RQ P n t [x]
def Dg (P:Program)(t:TypeId):cA P t=P.cellsOf t:=by unfold cA Program.cellsOf;cases P.info? t<;>rfl
def GI (xs ys:List D):kZ (xs++ys)=kZ xs+kZ ys:=by
 induction xs with
 |nil=>simp [kZ]
 |cons x xs ih=>simp only [List.cons_append,kZ,ih];omega
def NV {h:Nat→Option Obj}{xs ys:List D}{us a:List Value}(h1:yW h xs us)(b:yW h ys a):yW h (xs++ys) (us++a):=(mS h _ _).2 (((mS h _ _).1 h1).append ((mS h _ _).1 b))
section
variable {H:Type} {enc:TypeId×Value→H} {P:Program} {W:World} {base:Nat} {sp:Nat→Bool} {held:Bool} {m:DataW H→Nat} {ma:List (DataW H)→Nat}
def Leaves (P:Program)(W:World)(n:Nat)(t:TypeId)(cs:List Value)(b:Nat):Prop:=
 ∃ xs,yW (snap W) xs cs∧RQ P n t xs∧kZ xs≤b∧∀ u∈cs,u.oneCell'=true
def qA {α β:Type}{f:α→Option β}{x:α}{l:List α}{r:List β}(h:(x::l).mapM f=some r):∃ y ys,f x=some y∧l.mapM f=some ys∧r=y::ys:=by
 rw [List.mapM_cons] at h
 cases hx:f x with
 |none=>rw [hx] at h;cases h
 |some y=>
  rw [hx] at h
  cases hl:l.mapM f with
  |none=>rw [hl] at h;cases h
  |some ys=>rw [hl] at h;cases h;exact⟨y,ys,rfl,rfl,rfl⟩
def DO (M:Dy m ma){n fuel:Nat}(ih:∀ t cs d ps,DataW.trod enc P W base sp held fuel t cs=some (d,ps)→kD P n t=true→Leaves P W n t cs (m d)){cs:List Value}{total:Nat}(b:cs.length=total) :∀ (fs:List Field) (off:Nat) (ys:List (DataW H×List MemPlace)),Ii P total off fs=true→(fs.all fun f=>kD P n f.type)=true→(fs.mapM fun f=>DataW.trod enc P W base sp held fuel f.type ((cs.drop f.offset).take (P.cellsOf f.type)))=some ys→∃ parts:List (List D),F2 (fun f p=>RQ P n f.type p) fs parts∧yW (snap W) parts.flatten (cs.drop off)∧kZ parts.flatten≤ma (ys.map (·.1))∧∀ u∈cs.drop off,u.oneCell'=true
 |[],off,ys,hl,_,h=>by have:off=total:=beq_iff.1 hl;subst this;have e:cs.drop off=[]:=D4 (by omega);cases h;rw [e];exact⟨[],.nil,rfl,by simp [kZ],fun u a=>by cases a⟩
 |f::fs,off,ys,hl,hp,h=>by
  simp only [Ii,A9] at hl;simp only [List.all_cons,A9] at hp;have z:f.offset=off:=beq_iff.1 hl.1;obtain⟨y,g,h1,A,rfl⟩:=qA h;obtain⟨d,ps⟩:=y;obtain⟨xs,i,k,j,k4⟩:=ih _ _ _ _ h1 hp.1;obtain⟨parts,w,q,o,l⟩:=DO M ih b fs (off+P.cellsOf f.type) g hl.2 hp.2 A;rw [z] at i k4;have e:cs.drop off=(cs.drop off).take (P.cellsOf f.type)++cs.drop (off+P.cellsOf f.type):=by rw [← List.drop_drop,List.take_append_drop]
  refine⟨xs::parts,.cons k w,?_,?_,fun u a=>?_⟩
  ·rw [e,List.flatten_cons];exact NV i q
  ·rw [List.flatten_cons,GI,List.map_cons,M.cons];exact Nat.add_le_add j o
  ·rw [e] at a;rcases D3.1 a with a|a
   ·exact k4 u a
   ·exact l u a
def GG (M:Dy m ma){n fuel:Nat}(ih:∀ t cs d ps,DataW.trod enc P W base sp held fuel t cs=some (d,ps)→kD P n t=true→Leaves P W n t cs (m d)){cs:List Value}{e:TypeId}(g:kD P n e=true) :∀ (k s:Nat) (ys:List (DataW H×List MemPlace)),cs.length=(s+k)*P.cellsOf e→((List.range' s k).mapM fun i=>DataW.trod enc P W base sp held fuel e ((cs.drop (i*P.cellsOf e)).take (P.cellsOf e)))=some ys→∃ parts:List (List D),parts.length=k∧(∀ p∈parts,RQ P n e p)∧yW (snap W) parts.flatten (cs.drop (s*P.cellsOf e))∧kZ parts.flatten≤ma (ys.map (·.1))∧∀ u∈cs.drop (s*P.cellsOf e),u.oneCell'=true
 |0,s,ys,hl,h=>by have e:cs.drop (s*P.cellsOf e)=[]:=D4 (by rw [hl];simp);cases h;rw [e];refine⟨[],rfl,fun p hp=>(by cases hp),rfl,by simp [kZ],fun u a=>(by cases a)⟩
 |k+1,s,ys,hl,h=>by
  rw [List.range'_succ] at h;obtain⟨y,b,h1,C,rfl⟩:=qA h;obtain⟨d,ps⟩:=y;obtain⟨xs,o,l,j,k4⟩:=ih _ _ _ _ h1 g;obtain⟨parts,B,A,z,w,q⟩:=GG M ih g k (s+1) b (by rw [hl];congr 1;omega) C;have e:cs.drop (s*P.cellsOf e)=(cs.drop (s*P.cellsOf e)).take (P.cellsOf e)++cs.drop ((s+1)*P.cellsOf e):=by rw [Nat.succ_mul,← List.drop_drop,List.take_append_drop]
  refine⟨xs::parts,by simp [B],fun p hp=>?_,?_,?_,fun u a=>?_⟩
  ·rcases B7.1 hp with rfl|hp
   ·exact l
   ·exact A p hp
  ·rw [e,List.flatten_cons];exact NV o z
  ·rw [List.flatten_cons,GI,List.map_cons,M.cons];exact Nat.add_le_add j w
  ·rw [e] at a;rcases D3.1 a with a|a
   ·exact k4 u a
   ·exact q u a
def Bs {α β:Type}{f:α→Option β}:∀ {l:List α} {r:List β},l.mapM f=some r→∀ (j:Nat) (y:β),r[j]? = some y→∃ x,l[j]? = some x∧f x=some y
 |[],r,h,j,y,a=>by cases h;simp at a
 |x::l,r,h,j,y,a=>by
  obtain⟨d,ys,h1,b,rfl⟩:=qA h
  cases j with
  |zero=>simp at a;subst a;exact⟨x,rfl,h1⟩
  |succ j=>simpa using Bs b j y (by simpa using a)
def UU {n:Nat}{t:TypeId}{cs:List Value}{b:Nat}(h:Leaves P W n t cs b):∃ (x:D) (v:Value),VD (snap W) x v∧Du P n t x∧GH x≤b∧v.cells.toList=cs:=by
 obtain⟨xs,h1,d,i,l⟩:=h;unfold Du
 cases n with
 |zero=>exact d.elim
 |succ n=>
  cases hg:X7 P t with
  |true=>refine⟨.agg xs,.agg cs.toArray,⟨cs.toArray,rfl,by simpa using h1⟩,by rw [if_pos rfl];exact⟨xs,rfl,d⟩,by simpa [GH] using i,by simp [Value.cells]⟩
  |false=>
   have one:∀ x,xs=[x]→∃ (x:D) (v:Value),VD (snap W) x v∧(if false=true then ∃ cs,x = .agg cs∧RQ P (n+1) t cs else RQ P (n+1) t [x])∧GH x≤b∧v.cells.toList=cs:=by
    intro x k;subst k;obtain⟨u,r,rfl,j,g⟩:=h1;have g:r=[]:=g;subst g;refine⟨x,u,j,by rw [if_neg (by simp)];exact d,?_,?_⟩
    ·simpa [kZ] using i
    ·rw [CO (l u (by simp))]
   have a:=d;simp only [RQ] at a;split at a
   ·obtain⟨b,rfl⟩:=a;exact one _ rfl
   ·obtain⟨b,rfl,_⟩:=a;exact one _ rfl
   ·obtain⟨b,rfl⟩:=a;exact one _ rfl
   ·obtain⟨b,rfl,_⟩:=a;exact one _ rfl
   ·rename_i e;simp [X7,e,iC] at hg
   ·rename_i e;simp [X7,e,iC] at hg
   ·exact a.elim
def IF (M:Dy m ma){n fuel:Nat}(ih:∀ t cs d ps,DataW.trod enc P W base sp held fuel t cs=some (d,ps)→kD P n t=true→Leaves P W n t cs (m d)){a:Addr}{e:TypeId}(A:kD P n e=true) :∀ (k s:Nat) (ys:List (DataW H×List MemPlace)),((List.range' s k).mapM fun i=>(W.cells? base (a.add (i*P.cellsOf e)) (P.cellsOf e)).bind (DataW.trod enc P W base sp held fuel e))=some ys→∃ xs:List D,xs.length=k∧ZJ (snap W) (P.cellsOf e) xs (a.add (s*P.cellsOf e))∧(∀ x∈xs,Du P n e x)∧kZ xs≤ma (ys.map (·.1))
 |0,s,ys,h=>by cases h;exact⟨[],rfl,trivial,fun x K=>(by cases K),by simp [kZ]⟩
 |k+1,s,ys,h=>by
  rw [List.range'_succ] at h;obtain⟨y,o,h1,O,rfl⟩:=qA h;obtain⟨d,ps⟩:=y;obtain⟨xs,J,w,I,G⟩:=IF M ih A k (s+1) o O
  cases hc:W.cells? base (a.add (s*P.cellsOf e)) (P.cellsOf e) with
  |none=>rw [hc] at h1;cases h1
  |some cs=>
   rw [hc] at h1;have B:=ih _ _ _ _ h1 A;have N:∀ u∈cs,u.oneCell'=true:=B.choose_spec.2.2.2;obtain⟨x,v,F,E,C,k4⟩:=UU B;unfold World.cells? at hc;split at hc
   ·have g:cs.length=P.cellsOf e:=by
     have:=Go.mapM_some_length hc;simpa using this
    refine⟨x::xs,by simp [J],⟨⟨v,?_,fun j u z=>?_,?_,F⟩,?_⟩,fun y p=>?_,?_⟩
    ·rw [← E4,k4,g]
    ·rw [← D0,k4] at z;obtain⟨i,l,b⟩:=Bs hc j u z;have:i=j:=by
      have q:j<P.cellsOf e:=by
       rcases Nat.lt_or_ge j (P.cellsOf e) with h|h
       ·exact h
       ·rw [List.getElem?_eq_none (by simpa using h)] at l;cases l
      rw [List.getElem?_range q] at l;cases l;rfl
     subst this;exact b
    ·rw [k4];exact N
    ·rw [fN];rw [show (s+1)*P.cellsOf e=s*P.cellsOf e+P.cellsOf e from Nat.succ_mul _ _] at w;exact w
    ·rcases B7.1 p with rfl|p
     ·exact E
     ·exact I y p
    ·simp only [kZ,List.map_cons,M.cons];exact Nat.add_le_add C G
   ·cases hc
def ME (M:Dy m ma):∀ (fuel n:Nat) (t:TypeId) (cs:List Value) (d:DataW H) (ps:List MemPlace),DataW.trod enc P W base sp held fuel t cs=some (d,ps)→kD P n t=true→Leaves P W n t cs (m d)
 |0,n,t,cs,d,ps,h,hp=>by simp [DataW.trod] at h
 |fuel+1,0,t,cs,d,ps,h,hp=>by simp [kD] at hp
 |fuel+1,n+1,t,cs,d,ps,h,hp=>by
  have ih:=fun t cs d ps=>ME M fuel n t cs d ps;unfold Leaves;simp only [kD] at hp;split at hp
  ·rename_i g;obtain⟨b,rfl,l⟩:=DataW.trod_bool g h;refine⟨[.bool b],⟨_,_,rfl,rfl,rfl⟩,by simp only [RQ,g];exact⟨b,rfl⟩,by simpa [kZ,GH] using M.one d,fun u g=>by simp at g;subst g;rfl⟩
  ·rename_i k g;obtain⟨i,rfl,l,O⟩:=DataW.trod_int g h;exact⟨[.int _ _],⟨_,_,rfl,rfl,rfl⟩,by simp only [RQ,g];exact⟨_,rfl,O⟩,by simpa [kZ,GH] using M.one d,fun u g=>by simp at g;subst g;rfl⟩
  ·rename_i g;obtain⟨s,rfl,l,O⟩:=DataW.trod_string g h;cases l;exact⟨[.str _],⟨_,_,rfl,⟨_,rfl,rfl⟩,rfl⟩,by simp only [RQ,g];exact⟨_,rfl⟩,by simp only [kZ,GH];exact M.str _,fun u g=>by simp at g;subst g;rfl⟩
  ·rename_i e g;simp only [A9] at hp;rcases DataW.trod_slice g h with ⟨rfl,l⟩|⟨a,len,cap,elems,rest,K,A,rfl,l,hb,hl,hc,I,j,_,_⟩
   ·cases l;refine⟨[.Z (cA P e) []],⟨_,_,rfl,⟨none,0,rfl,B9 _,by unfold maxLen;omega,.inl rfl⟩,rfl⟩,by simp only [RQ,g];exact⟨[],rfl,fun y T=>(by cases T)⟩,by simpa [kZ,GH] using M.one _,fun u g=>by simp at g;subst g;rfl⟩
   ·cases l;cases A;have hm:(List.range len).mapM (fun i=>(W.cells? base (a.add (i*P.cellsOf e)) (P.cellsOf e)).bind (DataW.trod enc P W base sp held fuel e))=some elems:=mapM_some_of_get _ _ (by simp [I]) fun i x z=>by
      obtain⟨p,w⟩:=List.getElem?_eq_some_iff.1 z;simp at p w;subst w;exact j i p
    (rw [List.range_eq_range'] at hm;obtain⟨xs,S,F,R,k4⟩:=IF M ih hp.1 len 0 elems hm;rw [Nat.zero_mul] at F;have J:a.add 0=a:=by simp [Addr.add]);rw [J] at F;refine⟨[.Z (cA P e) xs],⟨_,_,rfl,⟨some a,cap,by rw [S],by omega,hc,.inr ⟨a,rfl,by rw [Dg];exact F⟩⟩,rfl⟩,?_,?_,fun u g=>by simp at g;subst g;rfl⟩
    ·simp only [RQ,g];exact⟨xs,rfl,R⟩
    ·have:=M.slice (elems.map (·.1)) (rest.map (·.1));simp only [kZ,GH];omega
  ·rename_i fs g;simp only [A9] at hp;obtain⟨ys,K,A,l,q,o,j⟩:=DataW.trod_struct g h;cases A;cases l;have hm:(fs.toList.mapM fun f=>DataW.trod enc P W base sp held fuel f.type ((cs.drop f.offset).take (P.cellsOf f.type)))=some ys:=mapM_some_of_get _ _ (by simp [o]) fun i x z=>j i x (by simpa using z);obtain⟨parts,G,E,C,B⟩:=DO M ih q fs.toList 0 ys hp.1 hp.2 hm;rw [List.drop_zero] at E B;exact⟨parts.flatten,E,by simp only [RQ,g];exact⟨parts,rfl,G⟩,Nat.le_trans C (M.agg _),B⟩
  ·rename_i k e g;simp only [A9] at hp;obtain⟨ys,K,A,l,q,o,j⟩:=DataW.trod_array g h;cases A;cases l;have hm:((List.range k).mapM fun i=>DataW.trod enc P W base sp held fuel e ((cs.drop (i*P.cellsOf e)).take (P.cellsOf e)))=some ys:=mapM_some_of_get _ _ (by simp [o]) fun i x z=>by
     obtain⟨p,w⟩:=List.getElem?_eq_some_iff.1 z;simp at p w;subst w;exact j i p
   rw [List.range_eq_range'] at hm;have o:P.cellsOf t=k*P.cellsOf e:=beq_iff.1 hp.1;obtain⟨parts,G,E,C,B,N⟩:=GG M ih hp.2 k 0 ys (by rw [q,o];simp) hm;rw [Nat.zero_mul,List.drop_zero] at C N;exact⟨parts.flatten,C,by simp only [RQ,g];exact⟨parts,rfl,G,E⟩,Nat.le_trans B (M.agg _),N⟩
  ·cases hp
end
end Go.AE
namespace Go.AE
open Go.ChangeShapes Go.WideShapes Go.ChangeAt Go.RowKit Go.WideElems
def uD (P:Program):Nat→List TypeId→List (Nat×SV)
 |_,[]=>[]
 |i,t::ts=>(i,.d (zF P t))::uD P (i+1) ts
def LL (P:Program)(ts:List TypeId):Sk:=⟨uD P 0 ts,[]⟩
def QF (P:Program)(t:TypeId):Bool:=kD P 8 t&&P.readableRec t&&decide (t<P.types.size)
section
variable {H:Type} {enc:TypeId×Value→H} {P:Program} {W W':World} {base:Nat} {m:DataW H→Nat} {ma:List (DataW H)→Nat}
def En {r:Reach}{t:TypeId}{v:Value}(a:X7 P t=false)(hp:kD P 8 t=true)(b:Value.okWide P W r base t v):v.cells=#[v]:=by
 unfold Value.okWide at b;unfold X7 at a;simp only [kD] at hp
 cases v with
 |agg cs=>split at hp<;>rename_i d<;>first|(rw [d] at a;simp [iC] at a;done)|(simp [d,Cell.okWide,Cell.ok] at b;done)|(cases hp;done)
 |_=>rfl
def XL {h:Nat→Option Obj}{n:Nat}{t:TypeId}{x:D}{v:Value}(g:X7 P t=false)(a:Du P n t x)(d:VD h x v)(cs:Array Value):v≠ .agg cs:=by
 rintro rfl;unfold Du at a;rw [g,if_neg (by simp)] at a
 cases n with
 |zero=>exact a
 |succ n=>
  simp only [RQ] at a;split at a
  ·obtain⟨b,e⟩:=a;cases e;cases d
  ·obtain⟨b,e,_⟩:=a;cases e;cases d
  ·obtain⟨b,e⟩:=a;cases e;obtain⟨_,e,_⟩:=d;cases e
  ·obtain⟨b,e,_⟩:=a;cases e;obtain⟨_,_,e,_⟩:=d;cases e
  ·rename_i e;simp [X7,e,iC] at g
  ·rename_i e;simp [X7,e,iC] at g
  ·exact a
def KR (M:Dy m ma){r:Reach}{sp:Nat→Bool}{held:Bool}:∀ {ts:List TypeId} {k:List Value} {ds:List (DataW H)} {ps:List MemPlace},DataW.TrodAll enc P W base sp held ts k ds ps→(ts.all (QF P))=true→(∀ (j:Nat) (t:TypeId) (v:Value),ts[j]? = some t→k[j]? = some v→∃ r b,Value.okWide P W r b t v)→∃ xs,F2 (VD (snap W)) xs k∧F2 (Du P 8) ts xs∧kZ xs≤ma ds
 |[],[],[],_,_,_,_=>⟨[],.nil,.nil,by simp [kZ]⟩
 |t::ts,v::k,d::ds,ps,⟨p,q,h1,O,_⟩,hp,A=>by
  simp only [List.all_cons,A9] at hp;obtain⟨xs,G,F,E⟩:=KR M (r:=r) O hp.2 fun j t v K y=>A (j+1) t v (by simpa using K) (by simpa using y);obtain⟨fuel,h1⟩:=h1;have i:kD P 8 t=true:=by have:=hp.1;simp only [QF,A9] at this;exact this.1.1
  have B:=ME M _ 8 _ _ _ _ h1 i;obtain⟨x,z,o,g,I,l⟩:=UU B;obtain⟨R,b',a⟩:=A 0 t v rfl rfl;have w:z=v:=by
   cases hg:X7 P t with
   |true=>
    have:∃ cs,v = .agg cs:=by
     unfold Value.okWide at a;unfold X7 at hg;split at hg
     ·rename_i d J;rw [J] at a;cases d<;>simp [iC] at hg<;>(obtain⟨cs,h,_⟩:=a;exact⟨cs,h⟩)
     ·cases hg
    obtain⟨cs,rfl⟩:=this;unfold Du at g;rw [hg,if_pos rfl] at g;obtain⟨ys,rfl,_⟩:=g;obtain⟨us,rfl,_⟩:=o;congr 1;apply Array.ext';exact l
   |false=>
    have C:=En hg i a;rw [C] at l;have N:∀ u∈v.cells.toList,u.oneCell'=true:=B.choose_spec.2.2.2;have S:v.oneCell'=true:=N v (by rw [C];simp)
    cases z with
    |agg cs=>exact absurd rfl (XL hg g o cs)
    |_=>exact (List.cons.inj l).1
  subst w;refine⟨x::xs,.cons o G,.cons g F,?_⟩;simp only [kZ];rw [M.cons];exact Nat.add_le_add I E
 |[],_::_,_,_,h,_,_=>h.elim
 |[],[],_::_,_,h,_,_=>h.elim
 |_::_,[],_,_,h,_,_=>h.elim
 |_::_,_::_,[],_,h,_,_=>h.elim
def EG (hl:laidOutB P=true){sp:Nat→Bool}:∀ {ts:List TypeId} {g:List Value} {ds:List (DataW H)} {ps:List MemPlace},DataW.TrodAll enc P W 0 (fun _=>true) true ts g ds ps→(ts.all (QF P))=true→(∀ p∈ps,W.sameAt W' p)→(∀ p∈ps,sp p.block=true)→DataW.TrodAll enc P W' 0 sp true ts g ds ps
 |[],[],[],_,h,_,_,_=>h
 |t::ts,v::g,d::ds,ps,⟨p,q,h1,j,e⟩,hp,i,b=>by simp only [List.all_cons,A9] at hp;have h0:=hp.1;simp only [QF,A9,decide_eq_true_eq] at h0;refine⟨p,q,Trod_stays hl h0.1.2 h0.2 h1 (fun x a=>i x (by rw [e];simp [a])) (fun x a=>b x (by rw [e];simp [a])),EG hl j hp.2 (fun x a=>i x (by rw [e];simp [a])) (fun x a=>b x (by rw [e];simp [a])),e⟩
 |[],_::_,_,_,h,_,_,_=>h.elim
 |[],[],_::_,_,h,_,_,_=>h.elim
 |_::_,[],_,_,h,_,_,_=>h.elim
 |_::_,_::_,[],_,h,_,_,_=>h.elim
def Gb {f:Func}{s:ChangeSpec}{apart fresh handsOn again:Bool}{args:Array Value}{v:Value}{ds gs:List (DataW H)}{before pa pv:List MemPlace} (o:DataW.Whole enc P f.params.toList s.vars apart W args.toList ds gs before) (h:∀ (b:Nat) (sp:Nat→Bool) (y:Bool),DataW.TrodAll enc P W' b sp y f.resultTypes.toList (v.resultList f.resultTypes.size) (s.fn H (ds++gs)).results []) (d:∀ sp:Nat→Bool,(∀ p∈before,sp p.block=true)→DataW.TrodAll enc P W' 0 sp true f.params.toList args.toList (s.fn H (ds++gs)).args pa) (a:∀ sp:Nat→Bool,(∀ p∈before,sp p.block=true)→DataW.TrodVars enc P W' sp s.vars (s.fn H (ds++gs)).vars pv) (g:before=pa++pv) (q:Below W.heap.size W W') (l:∀ (j:Nat) (t:TypeId) (r:Value),f.resultTypes[j]? = some t→(v.resultList f.resultTypes.size)[j]? = some r→Value.okWide P W' .any 0 t r) :s.post enc P f apart fresh handsOn again W args v W':=by
 have i:∀ p∈before,p.block<W.heap.size:=fun p hp=>o.lt p hp;have hold:∀ p∈before,(fun b=>decide (b<W.heap.size)) p.block=true:=fun p hp=>by simpa using i p hp
 refine⟨ds,gs,before,[],pa,pv,o,h _ _ _,d _ hold,a _ hold,World.keptBut_mono (fun p hp=>⟨hp,?_⟩) (q.frame (·∈before)),fun _=>?_⟩
 ·rw [g,D3] at hp;exact Or.inr hp
 ·obtain⟨_,_,_,_,_,u,w⟩:=o;refine⟨l,_,_,([]++pa)++pv,⟨[]++pa,pv,trodAll_append (d _ (fun _ _=>rfl)) (h _ _ _),a _ (fun _ _=>rfl),rfl,?_,?_⟩,?_⟩
  ·(intro b off hp;have k:MemPlace.cell b off∈before:=by rw [g];simpa using hp);rw [q.frozen (i _ k)];exact u b off k
  ·intro z;have:=w z;rw [g] at this;simpa using this
  ·intro p hp _;rw [g];simpa using hp
def HM:∀ (ts:List TypeId) (i:Nat),(uD P i ts).length=ts.length
 |[],_=>rfl
 |t::ts,i=>by simp [uD,HM ts (i+1)]
def HL {g:G}{q:Nat→Prop}:∀ {ts:List TypeId} {i j:Nat} {xs pre:List D} {a prev:List Value},F2 (VD g.h) xs a→ts.length=xs.length→pre.length=j→prev.length=i→∀ t,VV g ((bF E0 (pre++xs) (uD P i ts) j).1 t) ((prev++a).getD t undef)∧((bF E0 (pre++xs) (uD P i ts) j).1 t).aU q
 |[],i,j,xs,pre,a,prev,_,_,_,_,t=>⟨trivial,trivial⟩
 |ty::ts,i,j,[],pre,a,prev,_,hl,_,_,t=>by simp at hl
 |ty::ts,i,j,x::xs,pre,_,prev,.cons (b:=v) (bs:=a) h1 h2,hl,hp,hq,t=>by
  have ih:=HL (q:=q) (ts:=ts) (i:=i+1) (j:=j+1) (pre:=pre++[x]) (prev:=prev++[v]) h2 (by simpa using hl) (by simp [hp]) (by simp [hq]) t;simp only [C1,List.singleton_append] at ih;simp only [uD,bF,kG,dG];have d:Y (pre++x::xs) j=x:=by rw [← hp];exact QS pre x xs
  by_cases e:t=i
  ·subst e;rw [beq_iff.2 rfl,cond_true,d];refine⟨?_,trivial⟩;have:(prev++v::a).getD t undef=v:=by
    rw [← hq];simp
   rw [this];exact h1
  ·rw [beq_false e,cond_false];exact ih
def Lm {c:sN}(hn:mK c)(N:∀ f sk ds r,c.SQ f sk ds=some r→tN c f sk ds r){f:Nat}{fn:Func}(hf:c.P.funcs[f]? = some fn){tb:TypeId}(u:fn.resultTypes=#[tb])(hb:c.P.underlying tb=some .bool) (hd:c.dres f 0=0) (T:c.IS (snap W)) (hl:laidOutB c.P=true) (J:fn.params.toList.all (QF c.P)=true) {B:Nat} (l:∀ xs,F2 (Du c.P 8) fn.params.toList xs→kZ xs≤B→∃ n,run c n (.call f (LL c.P fn.params.toList) xs)=some (true,[.bool true])) (M:Dy m ma) {args:Array Value} {ds gs:List (DataW H)} {before:List MemPlace} {s:ChangeSpec} {apart fresh handsOn again:Bool} (G:∀ (j:Nat) t v,fn.params[j]? = some t→args[j]? = some v→Value.okWide c.P W .any base t v) (a:s.vars=[]) (hW:DataW.Whole enc c.P fn.params.toList s.vars apart W args.toList ds gs before) (hB:ma (ds++gs)≤B) (F:gs=[]→s.fn H (ds++gs)={ results:=[.lit (.bool true)],args:=ds }) :Calls c.P f args W fun e W'=>∃ v,e = .returned v∧s.post enc c.P fn apart fresh handsOn again W args v W':=by
 have hW0:=hW;obtain⟨p,q,hA,hV,I,hz,hnd⟩:=hW;rw [a] at hV;obtain⟨rfl,rfl⟩:=trodVars_none hV;have F:=F rfl;simp only [D5] at F hB I;subst I;obtain⟨xs,k1,k2,k3⟩:=KR M (r:= .any) hA J fun j t v ht hv=>⟨.any,base,G j t v (by simpa using ht) (by simpa using hv)⟩;obtain⟨n,l⟩:=l xs k2 (Nat.le_trans k3 hB);have C:=((VC hn N n).1 f _ _ _ l).1 fn hf (fun _=>none) ⟨snap W,fun _=>0,fun _=>undef⟩ T args W;have z:fn.params.toList.length=xs.length:=k2.length;have E:xs.length=args.toList.length:=k1.length;have S:(W3 E0 (LL c.P fn.params.toList) xs).h=fun _=>none:=rfl;refine (C ?_ ?_ ?_).mono ?_
 ·simp only [LL,HM];rw [z,E];simp
 ·refine⟨fun b x h=>h,fun b x h=>(by cases h),fun o x h=>?_,fun o x b h=>?_,fun o o' x x' b h=>?_,fun o x h=>?_,fun b=> .inr rfl⟩;all_goals (rw [S] at h;cases h)
 ·intro t;have:=HL (P:=c.P) (g:=⟨snap W,fun _=>0,fun _=>undef⟩) (q:=(·<(LL c.P fn.params.toList).objs.length)) (ts:=fn.params.toList) (i:=0) (j:=0) (pre:=[]) (prev:=[]) k1 z rfl rfl t;simp only [List.nil_append] at this;have e:args.getD t undef=args.toList.getD t undef:=by simp [D2,List.getD_eq_getElem?_getD]
  rw [e];exact this
 ·rintro e W' ⟨v,he,g',tm',h1,h2,h3,h4,h5⟩;refine⟨v,he,?_⟩;have w:Below W.heap.size W W':=by
   refine⟨h3.os,h3.tape,h3.output,h3.size,fun k hk=>?_⟩;have R:W.heap[k]? = some W.heap[k]:=C8 hk;rw [h1.frz k _ (h3.h k _ R),R]
  have hel:oI c.P tb=none:=by simp [oI,hb]
  have K:(oB c.P (c.dres f) fn.resultTypes.toList (LL c.P fn.params.toList))=⟨[(0,.d (.leaf .bool))],[]⟩:=by (have:zF c.P tb = .leaf .bool:=by simp [zF,X7,hb,iC,kF]);simp only [u,oB,QV,hd,hel,LL,BU,this];rfl
  rw [K] at h5 h2;have hv:v = .bool true:=by rw [h5];have:=(h2 0).1;exact this
  subst hv;have A:∀ sp:Nat→Bool,(∀ x∈before,sp x.block=true)→DataW.TrodAll enc c.P W' 0 sp true fn.params.toList args.toList ds before:=fun sp y=>EG hl hA J (fun x hx=>?_) y
  ·refine Gb (pa:=before) (pv:=[]) hW0 (fun b sp hd=>?_) (fun sp y=>?_) (fun sp y=>?_) (by simp) w ?_
   ·rw [u];simp only [D5];rw [F];exact trodAll_mk1 (shut_bool hb _)
   ·simp only [D5];rw [F];exact A sp y
   ·simp only [D5];rw [F,a];exact rfl
   ·exact ok_one u rfl (okWide_bool_mk hb _)
  ·have O:=hW0.lt x hx
   cases x with
   |cell b off=>have:=w.block b O;simp only [World.sameAt,World.cell?,this]
   |map b=>exact w.block b O
end
section
variable {P:Program} {n:Nat} {t e:TypeId} {x:D} {xs:List D}
def LI (h:P.underlying t=some .bool∨(∃ k,P.underlying t=some (.int k))∨P.underlying t=some .string∨∃ e,P.underlying t=some (.slice e)):X7 P t=false:=by rcases h with h|⟨k,h⟩|h|⟨e,h⟩<;>simp [X7,h,iC]
def Dr (a:X7 P t=false)(h:Du P n t x):RQ P n t [x]:=by
 unfold Du at h
 rwa [a,if_neg (by simp)] at h
def Kb {k:IntKind}(a:P.underlying t=some (.int k))(h:Du P (n+1) t x):∃ i,x = .int k i∧(Lit.int k i).wf=true:=by have:=Dr (LI (.inr (.inl ⟨k,a⟩))) h;simp only [RQ,a] at this;obtain⟨b,e,d⟩:=this;cases e;exact⟨b,rfl,d⟩
def Nb (a:P.underlying t=some (.slice e))(h:Du P (n+1) t x):∃ ys,x = .Z (cA P e) ys∧∀ y∈ys,Du P n e y:=by have:=Dr (LI (.inr (.inr (.inr ⟨e,a⟩)))) h;simp only [RQ,a] at this;obtain⟨ys,e,b⟩:=this;cases e;exact⟨ys,rfl,b⟩
def wf_u8 {i:Int}(h:(Lit.int .u8 i).wf=true):0≤i∧i≤255:=by simpa [Lit.wf,IntKind.min,IntKind.max,IntKind.signed,IntKind.bits] using h
end
end Go.AE
namespace Go.AE
def U (t:Nat→Out)(P:Bool×List D→Prop):Prop:=∃ r,P r∧∃ N,∀ n,N≤n→t n=some r
def U.mono {t:Nat→Out}{P Q:Bool×List D→Prop}(h:U t P)(hp:∀ r,P r→Q r):U t Q:=⟨h.choose,hp _ h.choose_spec.1,h.choose_spec.2⟩
def H8 {P:Bool×List D→Prop}{b:Bool}{ds:List D}(h:P (b,ds)):U (fun _=>some (b,ds)) P:=⟨_,h,0,fun _ _=>rfl⟩
def I5 {t u:Nat→Out}{P:Bool×List D→Prop}(a:∀ n,t (n+1)=u n)(h:U u P):U t P:=by obtain⟨r,h1,N,b⟩:=h;refine⟨r,h1,N+1,fun n d=>?_⟩;obtain⟨k,rfl⟩:∃ k,n=k+1:=⟨n-1,by omega⟩;rw [a];exact b k (by omega)
def H6 {t:Nat→Out}{k:List D→Nat→Out}{P Q:Bool×List D→Prop}(h:U t Q)(a:∀ b ds,Q (b,ds)→b=true∧U (k ds) P):U (fun n=>AE.J3 (t n) fun ds=>k ds n) P:=by obtain⟨⟨b,ds⟩,h1,N,i⟩:=h;obtain⟨rfl,r,g,M,d⟩:=a b ds h1;refine⟨r,g,N+M,fun n j=>?_⟩;simp only [i n (by omega),AE.J3];exact d n (by omega)
def L4 {t:Nat→Out}{k:List D→Nat→Out}{P Q:Bool×List D→Prop}(h:U t Q)(g:∀ ds,Q (true,ds)→P (true,ds))(i:∀ ds,Q (false,ds)→U (k ds) P):U (fun n=>AE.gM (t n) fun ds=>k ds n) P:=by
 obtain⟨⟨b,ds⟩,h1,N,d⟩:=h
 cases b with
 |true=>exact⟨(true,ds),g _ h1,N,fun n a=>by simp only [d n a,AE.gM]⟩
 |false=>obtain⟨r,l,M,j⟩:=i ds h1;refine⟨r,l,N+M,fun n a=>?_⟩;simp only [d n (by omega),AE.gM];exact j n (by omega)
def K0 {c:Bool}{x y:Nat→Out}{P:Bool×List D→Prop}(a:c=true→U x P)(b:c=false→U y P):U (fun n=>bif c then x n else y n) P:=by
 cases c with
 |true=>exact a rfl
 |false=>exact b rfl
def I4 {c:Bool}{x y:Nat→Out}{P:Bool×List D→Prop}(a:c=true)(h:U x P):U (fun n=>bif c then x n else y n) P:=by subst a;exact h
def N8 {c:Bool}{x y:Nat→Out}{P:Bool×List D→Prop}(a:c=false)(h:U y P):U (fun n=>bif c then x n else y n) P:=by subst a;exact h
def U.run {t:Nat→Out}{P:Bool×List D→Prop}(h:U t P):∃ r,P r∧∃ n,t n=some r:=by obtain⟨r,h1,N,a⟩:=h;exact⟨r,h1,N,a N (B9 _)⟩
mutual
def D.Hx:∀ x:D,D.eq x x=true
 | .top=>rfl
 | .bool _=>by simp [D.eq]
 | .int _ _=>by simp [D.eq]
 | .str _=>by simp [D.eq]
 | .Z _ xs=>by simp [D.eq,D.GZ xs]
 | .nils _ _=>by simp [D.eq]
 | .und=>rfl
 | .agg xs=>by simp [D.eq,D.GZ xs]
 | .fn _=>by simp [D.eq]
 | .nilp=>rfl
 | .nilf=>rfl
 | .nilm=>rfl
 | .nili=>rfl
 | .ub=>rfl
 | .iface _ x=>by simp [D.eq,D.Hx x]
def D.GZ:∀ xs:List D,D.eqs xs xs=true
 |[]=>rfl
 |x::xs=>by simp [D.eqs,D.Hx x,D.GZ xs]
end
def U.agree {t u:Nat→Out}{r:Bool×List D}{P:Bool×List D→Prop}(h:U t fun x=>x=r)(h':U u fun x=>x=r)(b:P r):U (fun n=>AE.agree (t n) (u n)) P:=by obtain⟨_,rfl,N,d⟩:=h;obtain⟨_,rfl,g,a⟩:=h';refine⟨_,b,N+g,fun n i=>?_⟩;simp only [d n (by omega),a n (by omega),AE.agree,D.GZ,F3,Bool.and_self,cond_true]
def U.same {t:Nat→Out}{P Q:Bool×List D→Prop}(h:U t P)(h':U t Q):U t fun r=>P r∧Q r:=by
 obtain⟨r,h1,N,i⟩:=h;obtain⟨k,g,j,d⟩:=h';have:r=k:=by have a:=i (N+j) (by omega);have b:=d (N+j) (by omega);rw [a] at b;exact Option.some.inj b
 subst this;exact⟨r,⟨h1,g⟩,N,i⟩
end Go.AE
namespace Go.AE
def YF:List (Nat×(Sk→List D→Option (List D)))→Nat→Sk→List D→Option (List D)
 |[],_,_,_=>none
 |(a,x)::r,f,sk,ds=>bif Nat.beq f a then x sk ds else YF r f sk ds
def bZ (sub:G1):G1→Nat→Int
 |[],j=>bif sub.isEmpty then (j:Int) else -1
 |b::l,j=>bif sub.isPrefixOf (b::l) then (j:Int) else bZ sub l (j+1)
def vD:Sk→List D→Option (List D)
 |⟨[(0,.d (.leaf .str)),(1,.d (.leaf .str))],[]⟩,[.str s,.str t]=>bif Nat.ble s.length 4294967280 then some [.bool (decide (0≤bZ t s 0))] else none
 |_,_=>none
def mX (s t:G1):G1×G1×Bool:=match bZ t s 0 with
 | .ofNat i=>(s.take i,s.drop (i+t.length),true)
 | .negSucc _=>(s,[],false)
def YD:Sk→List D→Option (List D)
 |⟨[(0,.d (.leaf .str)),(1,.d (.leaf .str))],[]⟩,[.str s,.str t]=>bif Nat.ble s.length 4294967280 then some [.str (mX s t).1,.str (mX s t).2.1,.bool (mX s t).2.2] else none
 |_,_=>none
def HY (e:Nat):Sk→List D→Option (List D)
 |⟨[(0,.d (.leaf .str)),(1,.d (.leaf .str))],[]⟩,[.str s,.str t]=>bif Nat.ble s.length 4294967280&&Nat.ble 1 t.length then some [.Z 1 ((Lib.split s t).map D.str)] else none
 |_,_=>none
end Go.AE
namespace Go.AE
open Go.RowKit Go.Sort Go.Proofs
section
variable {c:sN} {f:Nat}
def VW (c:sN)(f:Nat)(x:Sk→List D→Option (List D)):Prop:=∀ sk ds r,x sk ds=some r→tN c f sk ds r
def LU {c:sN}:∀ (l:List (Nat×(Sk→List D→Option (List D)))),(∀ p∈l,VW c p.1 p.2)→∀ f sk ds r,YF l f sk ds=some r→tN c f sk ds r
 |[],_,_,_,_,_,h=>by cases h
 |(a,x)::l,hl,f,sk,ds,r,h=>by
  simp only [YF] at h;by_cases e:f=a
  ·subst e;rw [beq_iff.2 rfl,cond_true] at h;exact hl (f,x) (by simp) sk ds r h
  ·rw [beq_false e,cond_false] at h;exact LU l (fun p hp=>hl p (by simp [hp])) f sk ds r h
end
end Go.AE
namespace Go.AE
open Go.RowKit
section
variable {c:sN} {f:Nat}
def UZ {sk:Sk}{ds out:List D}{slots:List (Nat×SV)}(A:sk.objs=[])(k:∀ fn,c.P.funcs[f]? = some fn→oB c.P (c.dres f) fn.resultTypes.toList sk=⟨slots,[]⟩) (h:∀ (g:G) (args:Array Value) (w:World),c.IS g.h→(∀ b x,g.h b=some x→w.heap[b]? = some x)→(∀ t,VV g ((W3 E0 sk ds).t t) (args.getD t undef))→args.size=sk.slots.length→Calls c.P f args w fun e w'=>∃ v,e = .returned v∧Below w.heap.size w w'∧∃ i,v=FP slots i∧∀ t,VV g ((W3 E0 ⟨slots,[]⟩ out).t t) (i t)∧((W3 E0 ⟨slots,[]⟩ out).t t).aU (·<0)):tN c f sk ds out:=by
 intro fn C u g B args w q S z;rw [k fn C];refine (h g args w B S.frz (fun t=>(z t).1) q).mono ?_;rintro e w' ⟨v,E,j,i,y,p⟩;have a:∀ o x,(W3 E0 ⟨slots,[]⟩ out).h o=some x→False:=fun o x d=>by cases d
 refine⟨v,E,g,i,⟨fun b x d=>?_,fun b x d=>?_,fun o x d=>(a o x d).elim,fun o x b d=>(a o x d).elim,fun o o' x x' b d=>(a o x d).elim,fun o x d=>(a o x d).elim,S.dj⟩,p,⟨fun _ _ h=>h,j.os,j.tape,j.output,j.size⟩,fun l o hl=>?_,y⟩
 ·have:=S.frz b x d;rw [j.block b (tD this)];exact this
 ·have:=S.unt b x d;rw [j.block b (tD this)];exact this
 ·rw [A] at hl;cases hl
def Ju {h:Nat→Option Obj}{s:G1}{v:Value}(a:VD h (.str s) v):∃ b:ByteArray,v = .string b∧b.data.toList=s:=a
def Oj {a b:Value}{args:Array Value}(h0:args.getD 0 undef=a)(h1:args.getD 1 undef=b)(g:args.size=2):args=#[a,b]:=by
 apply Array.ext
 ·simpa using g
 ·intro i d h;have:i=0∨i=1:=by omega
  rcases this with rfl|rfl
  ·rw [D2,C8 d] at h0;simpa using h0
  ·rw [D2,C8 d] at h1;simpa using h1
def UF (sub:G1):∀ (s:G1) (j:Nat),bZ sub s j=if Lib.index s sub=-1 then -1 else (j:Int)+Lib.index s sub
 |[],j=>by unfold bZ Lib.index;cases sub.isEmpty<;>simp
 |b::l,j=>by
  have ih:=UF sub l (j+1);have a:=Lib.index_ge l sub;unfold bZ Lib.index
  cases hp:sub.isPrefixOf (b::l) with
  |true=>simp
  |false=>
   simp only [cond_false,ih];by_cases h:Lib.index l sub=-1
   ·simp [h]
   ·(have d:¬ Lib.index l sub+1=-1:=by omega);simp [h,d];omega
def HH (s sub:G1):bZ sub s 0=Lib.index s sub:=by
 rw [UF];split
 ·rename_i h;rw [h]
 ·simp
def JH (s t:G1):mX s t=Lib.cut s t:=by
 unfold mX Lib.cut;rw [HH]
 cases Lib.index s t with
 |ofNat i=>simp
 |negSucc i=>simp
def Az {gv:Nat}{h h':Nat→Option Obj}(hh:∀ b x,h b=some x→h' b=some x)(k:EJ gv h):EJ gv h':=by obtain⟨m,e⟩:=k;exact⟨m,KV hh e⟩
def BD {gv:Nat}{h:Nat→Option Obj}{w:World}(a:∀ b x,h b=some x→w.heap[b]? = some x)(k:EJ gv h):∃ m:Int,w.cell? ⟨gv,0,none⟩=some (.int .i64 m):=by obtain⟨m,e⟩:=k;exact⟨m,tT a e⟩
def RJ {g:G}{s t:G1}{args:Array Value}(j:∀ i,VV g ((W3 E0 ⟨[(0,.d (.leaf .str)),(1,.d (.leaf .str))],[]⟩ [.str s,.str t]).t i) (args.getD i undef))(k:args.size=2) :∃ a b:ByteArray,args=#[.string a,.string b]∧a.data.toList=s∧b.data.toList=t:=by obtain⟨a,h1,p⟩:=Ju (show VD g.h (.str s) _ from j 0);obtain⟨b,o,l⟩:=Ju (show VD g.h (.str t) _ from j 1);exact⟨a,b,Oj h1 o k,p,l⟩
def KB {gv:Nat}(j:∀ h,c.IS h→EJ gv h) (h1:∀ (s sub:ByteArray) (m:Int) (w:World),s.size<4294967281→w.cell? ⟨gv,0,none⟩=some (.int .i64 m)→Calls c.P f #[.string s,.string sub] w fun e w'=>e = .returned (.bool (Lib.contains s.data.toList sub.data.toList))∧w'=w) (u:∀ fn,c.P.funcs[f]? = some fn→oB c.P (c.dres f) fn.resultTypes.toList ⟨[(0,.d (.leaf .str)),(1,.d (.leaf .str))],[]⟩=⟨[(0,.d (.leaf .bool))],[]⟩):VW c f vD:=by
 intro sk ds r h;unfold vD at h;split at h
 ·rename_i s t;replace h:=J6 h;obtain⟨hl,h⟩:=h;have hl:s.length≤4294967280:=B3 hl;cases h;refine UZ rfl u fun g args w y l p q=>?_;obtain⟨a,b,rfl,o,z⟩:=RJ p q;obtain⟨m,hm⟩:=BD l (j _ y);have k:a.size<4294967281:=by
   (have:a.size=s.length:=by rw [← o];simp);omega
  refine (h1 a b m w k hm).mono ?_;rintro e w' ⟨rfl,rfl⟩;refine⟨_,rfl,Below.refl _ _,fun _=> .bool (Lib.contains a.data.toList b.data.toList),rfl,fun i=>?_⟩
  cases i with
  |zero=>refine⟨?_,trivial⟩;show Value.bool _=Value.bool _;rw [o,z,HH];rfl
  |succ i=>exact⟨trivial,trivial⟩
 ·cases h
def Ci {gv:Nat}(j:∀ h,c.IS h→EJ gv h) (h1:∀ (s sep:ByteArray) (m:Int) (w:World),s.size<4294967281→w.cell? ⟨gv,0,none⟩=some (.int .i64 m)→Calls c.P f #[.string s,.string sep] w fun e w'=>
   e = .returned (.tuple #[.string ⟨(Lib.cut s.data.toList sep.data.toList).1.toArray⟩,.string ⟨(Lib.cut s.data.toList sep.data.toList).2.1.toArray⟩,.bool (Lib.cut s.data.toList sep.data.toList).2.2])∧∃ n,w'=w.drewN n)
  (u:∀ fn,c.P.funcs[f]? = some fn→oB c.P (c.dres f) fn.resultTypes.toList ⟨[(0,.d (.leaf .str)),(1,.d (.leaf .str))],[]⟩=⟨[(0,.d (.leaf .str)),(1,.d (.leaf .str)),(2,.d (.leaf .bool))],[]⟩):VW c f YD:=by
 intro sk ds r h;unfold YD at h;split at h
 ·rename_i s t;replace h:=J6 h;obtain⟨hl,h⟩:=h;have hl:s.length≤4294967280:=B3 hl;cases h;refine UZ rfl u fun g args w y l p q=>?_;obtain⟨a,b,rfl,o,z⟩:=RJ p q;obtain⟨m,hm⟩:=BD l (j _ y);have k:a.size<4294967281:=by
   (have:a.size=s.length:=by rw [← o];simp);omega
  refine (h1 a b m w k hm).mono ?_;rintro e w' ⟨rfl,n,rfl⟩;rw [o,z];refine⟨_,rfl,⟨rfl,rfl,rfl,B9 _,fun _ _=>rfl⟩,fun i=>match i with|0=> .string ⟨(Lib.cut s t).1.toArray⟩|1=> .string ⟨(Lib.cut s t).2.1.toArray⟩|2=> .bool (Lib.cut s t).2.2|_=>undef,rfl,fun i=>?_⟩
  match i with
  |0=>exact⟨⟨_,rfl,by rw [JH]⟩,trivial⟩
  |1=>exact⟨⟨_,rfl,by rw [JH]⟩,trivial⟩
  |2=>refine⟨?_,trivial⟩;show Value.bool _=Value.bool _;rw [JH]
  |(i+3)=>exact⟨trivial,trivial⟩
 ·cases h
def SR {gv C:Nat}(F:∀ h,c.IS h→EJ gv h) (h1:∀ (s sep:ByteArray) (m:Int) (w:World),s.size<4294967281→w.cell? ⟨gv,0,none⟩=some (.int .i64 m)→1≤sep.size→Calls c.P f #[.string s,.string sep] w fun e w'=>
   e = .returned (.slice (some ⟨w.heap.size,0,none⟩) (Lib.countB s sep+1) (Lib.countB s sep+1))∧w'=w.alloc (.cells ((Lib.splitB sep 0 (Lib.countB s sep) s).map Value.string).toArray C))
  (T:∀ fn,c.P.funcs[f]? = some fn→oB c.P (c.dres f) fn.resultTypes.toList ⟨[(0,.d (.leaf .str)),(1,.d (.leaf .str))],[]⟩=⟨[(0,.row 0)],[.row C 1 0]⟩):VW c f (HY C):=by
 intro sk ds r h fn hf u g J args w I S N;unfold HY at h;split at h
 ·rename_i s t;replace h:=J6 h;obtain⟨hl,h⟩:=h;simp only [A9] at hl;have hl1:s.length≤4294967280:=B3 hl.1;have hl2:1≤t.length:=B3 hl.2;cases h;obtain⟨a,b,rfl,K,B⟩:=RJ (fun t=>(N t).1) I;obtain⟨m,hm⟩:=BD S.frz (F _ J);have R:a.size=s.length:=by rw [← K];simp
  have O:b.size=t.length:=by rw [← B];simp
  rw [T fn hf];refine (h1 a b m w (by omega) hm (by omega)).mono ?_;rintro e w' ⟨rfl,rfl⟩;have hcl:=Lib.countB_le b (by omega) a.size a (B9 _);have j:=Lib.splitB_all b (by omega) 0 _ a rfl;have z:(Lib.splitB b 0 (Lib.countB a b) a).map (·.data.toList)=Lib.split s t:=by rw [Lib.splitB_data,K,B];simp only [Lib.split,Lib.countB,K,B]
  have p:∀ l:List ByteArray,sO g.h 1 ((l.map (·.data.toList)).map D.str) (l.map Value.string):=by
   intro l
   induction l with
   |nil=>rfl
   |cons x l ih=>exact⟨.string x,l.map Value.string,rfl,rfl,fun y M=>(by simp [Value.cells] at M;subst M;rfl),⟨x,rfl,rfl⟩,ih⟩
  have G:=p (Lib.splitB b 0 (Lib.countB a b) a);rw [z] at G;have hn:((Lib.split s t).map D.str).length=Lib.countB a b+1:=by rw [← z,List.length_map,List.length_map,j]
  obtain⟨g',a1,a2,a3,a4,a5⟩:=kB (h':=(W3 E0 ⟨[(0,.row 0)],[.row C 1 0]⟩ [.Z 1 ((Lib.split s t).map D.str)]).h) (q:=fun x=>x<1) S (fun x E=>absurd E (Nat.not_lt_zero x)) (no:=0) (Nat.lt_irrefl 0) Nat.zero_lt_one (e:=C) (sz:=1) (xs:=(Lib.split s t).map D.str) (row:=none) (v:= .slice (some ⟨w.heap.size,0,none⟩) (Lib.countB a b+1) (Lib.countB a b+1)) (us:=(Lib.splitB b 0 (Lib.countB a b) a).map Value.string) (w':=w.alloc (.cells ((Lib.splitB b 0 (Lib.countB a b) a).map Value.string).toArray C)) ⟨rfl,rfl,rfl,by simp,fun k hk _=>heap_alloc_old w _ hk⟩ (by
    rw [hn];refine⟨by simp [j],.inr ⟨w.heap.size,Lib.countB a b+1,_,rfl,C4 _,heap_alloc_new w _,B9 _,by simp only [maxLen];omega,by simp [j],?_⟩⟩;simp only [Nat.mul_one];rw [List.take_of_length_le (by simp [j])]) Nat.one_pos G (fun b B=>by cases B) (fun b B=>by
     simp only [Value.ownBlock,B1] at B;exact .inr (by omega)) (fun o' x E A=>by
     match o',E,A with
     |0,_,A=>exact absurd rfl A
     |(o+1),E,_=>cases E) rfl
  refine⟨_,rfl,g',fun _=> .slice (some ⟨w.heap.size,0,none⟩) (Lib.countB a b+1) (Lib.countB a b+1),a5,fun i=>?_,⟨a1.h,rfl,rfl,rfl,by simp⟩,fun l o h=>(by cases h),rfl⟩
  match i with
  |0=>exact⟨⟨a4.symm,rfl⟩,Nat.zero_lt_one⟩
  |(i+1)=>exact⟨trivial,trivial⟩
 ·cases h
end
end Go.AE
namespace Go.AE
open Go.RowKit
end Go.AE
namespace Go.AE
def Q3 {x:Int}(h1:-9223372036854775808≤x:=by omega)(a:x≤9223372036854775807:=by omega):IntKind.i64.wrap x=x:=IntWalk.i64_in x ⟨h1,a⟩
abbrev ix (xs:List D)(i:Int):D:=xs[i.toNat]?.getD .top
def Fb {P:D→Prop}{xs:List D}(h:∀ x∈xs,P x){v:Int}(h0:0≤v)(h1:v<xs.length):P (ix xs v):=by
 unfold ix;have:v.toNat<xs.length:=by omega
 rw [C2 this];exact h _ (C6 this)
def Bytes (b:List D):Prop:=∀ y∈b,∃ i:Int,y = .int .u8 i∧0≤i∧i≤255
def L0 {a b:Bool}(g:a=true)(d:b=true):(a&&b)=true:=by rw [g,d];rfl
def P4 {j:Nat}(h:j<4611686018427387904:=by omega):IntKind.i64.wrap ((j:Int)+1)=((j+1:Nat):Int):=by rw [Q3];omega
def bS {xs:List D}{j:Nat}(h:j<xs.length):ix xs (j:Int)=xs[j]:=by rw [ix,E1,C2 h];rfl
def drop_cons {α:Type}{xs:List α}{j:Nat}(h:j<xs.length):xs.drop j=xs[j]::xs.drop (j+1):=List.drop_eq_getElem_cons h
abbrev inr (i n:Int):Bool:=decide (0≤i)&&decide (i<n)
def P1 {j m:Nat}(h:j<m):inr (j:Int) (m:Int)=true:=L0 (E6 (by omega)) (E6 (by omega))
def Ye {t:Nat→Out}{ds:List D}{k:List D→Nat→Out}{P:Bool×List D→Prop}(h:U t fun r=>r=(true,ds))(a:U (fun n=>k ds n) P):U (fun n=>AE.J3 (t n) fun ds=>k ds n) P:=H6 h fun _ _ h=>by cases h;exact⟨rfl,a⟩
def J5 {x y:Nat→Out}{P:Bool×List D→Prop}(h:U x P):U (fun n=>bif true then x n else y n) P:=h
def L3 {x y:Nat→Out}{P:Bool×List D→Prop}(h:U y P):U (fun n=>bif false then x n else y n) P:=h
def aX8 {p:Prop}[Decidable p](h:p:=by omega):decide p=true:=E6 h
def aY0 {p:Prop}[Decidable p](h:¬p:=by omega):decide p=false:=E8 h
def M3 {t:Nat→Out}{ds:List D}{c:List D→Bool}{x y:List D→Nat→Out}{P:Bool×List D→Prop}(h:U t fun r=>r=(true,ds))(a:U (fun n=>x ds n) P)(b:c ds=true:=by exact rfl):U (fun n=>AE.J3 (t n) fun ds=>bif c ds then x ds n else y ds n) P:=Ye h (I4 b a)
end Go.AE
