import Derived.Test.YtpmjplpnpnmlcaaGreatDoorQaM
import Derived.Test.YtpmjplpnpnmlcaaGreatDoorEng
import Derived.KernelRfl
set_option linter.all false
namespace Go.Proofs.YtpmjplpnpnmlcaaGreatDoor
open Go.AE
open Go.AE.Q Go.AE.Dc
set_option maxRecDepth 100000
theorem aA7 {d:D}:HP U6 5 [] d↔TH (HP U6) Zp [] d:=by rw [← aE4];exact eB
theorem Vz {d:D}:HP U6 25 [] d↔TH (HP U6) Rb [] d:=by rw [← Xs];exact eB
theorem ZV {n:Int}(h0:0≤n)(h1:n≤255):HP U6 5 [] (.int .u8 n):=by
 refine aA7.2 ⟨⟨n,rfl⟩,fU ?_ (fU ?_ vA)⟩
 ·rw [V2,Y4,show nu (pw 0 [] fun _=>D.int .u8 n) 0 0=n from AX (a:=0)];omega
 ·rw [V2,Y4,show nu (pw 0 [] fun _=>D.int .u8 n) 0 0=n from AX (a:=0)];omega
theorem Yw {δ:Nat→D}:Gh 0 δ:=fun i h=>by omega
theorem Pf:Q.Good U6 R 3 Yx:=aA5▸IN 3
theorem Pg:Q.Good U6 R 4 Yy:=aA6▸IN 4
theorem YF {b:List D}(hb:∀ x∈b,HP U6 5 [] x):∃ c,Ru 2 [.Z 1 b] (true,[.Z 1 c])∧(∀ x∈c,HP U6 5 [] x)∧c.length≤300:=by
 by_cases h:300<b.length
 ·refine⟨b.take 300,R9 q2 (by kernel_rfl) ⟨0,fun n _=>?_⟩,fun x hx=>hb x (List.mem_of_mem_take hx),by simp;omega⟩
  refine (R6 (by show decide ((b.length:Int)>300)=true;exact E6 (by omega))).trans ?_
  refine (gA (by show (true&&decide ((300:Int)≤b.length))=true;rw [E6 (by omega)];rfl)).trans ?_
  rfl
 ·refine⟨b,R9 q2 (by kernel_rfl) ⟨0,fun n _=>?_⟩,hb,by omega⟩
  refine (Q5 (by show decide ((b.length:Int)>300)=false;exact E8 (by omega))).trans ?_
  rfl
theorem Bo {b:List D}(hb:∀ x∈b,HP U6 5 [] x)(hlen:b.length≤300):∃ l,Ru 3 [.Z 1 b] (true,[.Z 7 l])∧(∀ x∈l,HP U6 25 [] x)∧l.length≤68719476736∧bR (.Z 7 l)≤541200:=by
 have h0:nw (fun _=> .top) 0 [.Z 1 b] 0 = .Z 1 b:=Z2 0
 have e0:nu (nw (fun _=> .top) 0 [.Z 1 b]) 0 1=(b.length:Nat):=(gO (a:=0)).trans (by rw [h0];rfl)
 obtain⟨⟨zb,zr⟩,hz,N,hN⟩:=Pf (nw (fun _=> .top) 0 [.Z 1 b]) [.Z 1 b] (aB rfl) Yw
  ⟨[.Z 1 b],⟨[],rfl,rfl⟩,⟨h0,⟨b,rfl,eO.2 hb⟩,trivial⟩,fun c hc=>(by cases hc),fU (by rw [V2,Y4,e0];omega) (fU (by rw [V2,Y4,e0];omega) vA)⟩
 rcases hz with ⟨h1,δ',_,_,ls,hfl,hl,_,hfm⟩|⟨h1,_⟩
 ·have h1:zb=true:=h1
  subst h1
  obtain⟨x,e,rfl⟩:=mT hfl
  have e:zr=[x]:=e
  subst e
  obtain⟨k0,⟨l,rfl,hE⟩,_⟩:=hl
  have k0:δ' 1 = .Z 7 l:=k0
  have e1:nu δ' 0 9=(l.length:Nat):=(gO (a:=1)).trans (by rw [k0];rfl)
  have e2:nu δ' 0 10=(bR (.Z 7 l):Nat):=(JI (a:=1)).trans (by rw [k0])
  have b0:=R0 hfm 0 rfl
  have b1:=R0 hfm 1 rfl
  rw [V2,Y4,e1] at b0
  rw [V2,Y4,e2] at b1
  exact⟨l,⟨N,hN⟩,eO.1 hE,by omega,by omega⟩
 ·cases h1
theorem Ao {xs ls:List D}(h:eP [8,4,0] xs ls):∃ a0 a1 a2 a3 a4 a5 a6 p0 p1 p2 e,xs=[.agg [a0,a1,a2,a3,a4,a5,a6],.agg [p0,p1,p2],e]∧ls=[a0,a1,a2,a3,a4,a5,a6,p0,p1,p2,e]:=by
 cases xs with
 |nil=>exact h.elim
 |cons x xs=>
  obtain⟨cs,r,rfl,hc,rfl,h⟩:=h
  cases xs with
  |nil=>exact h.elim
  |cons y xs=>
   obtain⟨cs',r',rfl,hc',rfl,h⟩:=h
   obtain⟨z,rfl,rfl⟩:=mT h
   match cs,hc,cs',hc' with
   |[a0,a1,a2,a3,a4,a5,a6],_,[p0,p1,p2],_=>exact⟨a0,a1,a2,a3,a4,a5,a6,p0,p1,p2,z,rfl,rfl⟩
theorem OL {l:List D}{top:G0}(hl:∀ x∈l,HP U6 25 [] x)(hlen:l.length≤68719476736)(hsz:bR (.Z 7 l)≤541200)(ht:top.length≤32768) :
  ∃ (s a2 a3 p a5 a6 b:List D) (x y z e:Int),Ru 4 [.Z 7 l,.str top] (true,[.agg [.Z 4 s,.Z 3 b,.Z 1 a2,.Z 1 a3,.Z 5 p,.Z 1 a5,.Z 3 a6],.agg [.int .i64 x,.int .i64 y,.int .i64 z],.int .i64 e])∧(e≠0→s=[]∧p=[]):=by
 have h0:nw (fun _=> .top) 0 [.Z 7 l,.str top] 0 = .Z 7 l:=Z2 0
 have h1:nw (fun _=> .top) 0 [.Z 7 l,.str top] 1 = .str top:=Z2 1
 have e0:nu (nw (fun _=> .top) 0 [.Z 7 l,.str top]) 0 1=(l.length:Nat):=(gO (a:=0)).trans (by rw [h0];rfl)
 have e1:nu (nw (fun _=> .top) 0 [.Z 7 l,.str top]) 0 12=(top.length:Nat):=(MM (a:=1)).trans (by rw [h1];rfl)
 have e2:nu (nw (fun _=> .top) 0 [.Z 7 l,.str top]) 0 2=(bR (.Z 7 l):Nat):=(JI (a:=0)).trans (by rw [h0])
 obtain⟨⟨zb,zr⟩,hz,N,hN⟩:=Pg (nw (fun _=> .top) 0 [.Z 7 l,.str top]) [.Z 7 l,.str top] (aB rfl) Yw
  ⟨[.Z 7 l,.str top],⟨_,rfl,_,rfl,rfl⟩,⟨h0,⟨l,rfl,eO.2 hl⟩,h1,⟨_,rfl⟩,trivial⟩,fun c hc=>(by cases hc),
   fU (by rw [V2,Y4,e0];omega) (fU (by rw [V2,Y4,e1];omega) (fU (by rw [V2,Y4,e2];omega) (fU (by rw [V2,Y4,e1];omega) vA)))⟩
 rcases hz with ⟨h2,δ',_,_,ls,hfl,hL,_,hfm⟩|⟨h2,_⟩
 ·have h2:zb=true:=h2
  subst h2
  obtain⟨a0,a1,a2,a3,a4,a5,a6,p0,p1,p2,ee,e9,rfl⟩:=Ao hfl
  have e9:zr=_:=e9
  subst e9
  obtain⟨k0,⟨s,rfl,_⟩,k1,⟨b,rfl,_⟩,k2,⟨c2,rfl,_⟩,k3,⟨c3,rfl,_⟩,k4,⟨p,rfl,_⟩,k5,⟨c5,rfl,_⟩,k6,⟨c6,rfl,_⟩,k7,⟨x,rfl⟩,k8,⟨y,rfl⟩,k9,⟨z,rfl⟩,Fq,⟨e,rfl⟩,_⟩:=hL
  have k0:δ' 2 = .Z 4 s:=k0
  have k4:δ' 6 = .Z 5 p:=k4
  have Fq:δ' 12 = .int .i64 e:=Fq
  have f0:nu δ' 0 17=(s.length:Nat):=(gO (a:=2)).trans (by rw [k0];rfl)
  have f4:nu δ' 0 49=(p.length:Nat):=(gO (a:=6)).trans (by rw [k4];rfl)
  have f10:nu δ' 0 96=e:=(AX (a:=12)).trans (by rw [Fq];rfl)
  have g7:=hfm.at 7
  have g8:=hfm.at 8
  refine⟨s,c2,c3,p,c5,c6,b,x,y,z,e,⟨N,hN⟩,fun he=>⟨?_,?_⟩⟩
  ·have g7:(Fm.or (.ge (.m 17 (-1) (.c 0))) (.an (.ge (.m 96 (-1) (.c 0))) (.ge (.m 96 1 (.c 0))))).bv δ'=true:=g7
   rw [Fm.T4,Fm.T3,Fm.I7,Fm.I7,Fm.I7,V2,V2,V2,Y4,f0,f10] at g7
   exact D3 (by omega)
  ·have g8:(Fm.or (.ge (.m 49 (-1) (.c 0))) (.an (.ge (.m 96 (-1) (.c 0))) (.ge (.m 96 1 (.c 0))))).bv δ'=true:=g8
   rw [Fm.T4,Fm.T3,Fm.I7,Fm.I7,Fm.I7,V2,V2,V2,Y4,f4,f10] at g8
   exact D3 (by omega)
 ·cases h2
def ZN (d:D):Prop:=∃ (s:G0) (i j k:Int) (l1 l2 l3:List D),s.length≤32768∧d = .agg [.str s,.int .i64 i,.int .i64 j,.int .i64 k,.Z 14 l1,.Z 14 l2,.Z 14 l3]
theorem Iz {d:D}(h:HP U6 25 [] d):ZN d:=by
 obtain⟨⟨cs,rfl,hl⟩,hk,hfm⟩:=Vz.1 h
 have hl:cs.length=7:=hl
 match cs,hl with
 |[c0,c1,c2,c3,c4,c5,c6],_=>
  obtain⟨s,rfl⟩:∃ x,c0 = .str x:=hk 0 (by show 0<7;omega)
  obtain⟨i,rfl⟩:∃ x,c1 = .int .i64 x:=hk 1 (by show 1<7;omega)
  obtain⟨j,rfl⟩:∃ x,c2 = .int .i64 x:=hk 2 (by show 2<7;omega)
  obtain⟨k,rfl⟩:∃ x,c3 = .int .i64 x:=hk 3 (by show 3<7;omega)
  obtain⟨l1,rfl⟩:∃ x,c4 = .Z 14 x:=by
   obtain⟨xs,e,_⟩:=hk 4 (by show 4<7;omega)
   exact⟨xs,e⟩
  obtain⟨l2,rfl⟩:∃ x,c5 = .Z 14 x:=by
   obtain⟨xs,e,_⟩:=hk 5 (by show 5<7;omega)
   exact⟨xs,e⟩
  obtain⟨l3,rfl⟩:∃ x,c6 = .Z 14 x:=by
   obtain⟨xs,e,_⟩:=hk 6 (by show 6<7;omega)
   exact⟨xs,e⟩
  have b:=R0 hfm 3 rfl
  rw [V2,Y4] at b
  have e:nu (pw 0 [] fun j=>(D.agg [.str s,.int .i64 i,.int .i64 j,.int .i64 k,.Z 14 l1,.Z 14 l2,.Z 14 l3]).at_ j) 0 4=(s.length:Nat):=MM (a:=0)
  refine⟨s,i,j,k,l1,l2,l3,?_,rfl⟩
  have b:0≤-1*nu (pw 0 [] fun jj=>(D.agg [.str s,.int .i64 i,.int .i64 j,.int .i64 k,.Z 14 l1,.Z 14 l2,.Z 14 l3]).at_ jj) 0 4+32768:=b
  rw [show nu (pw 0 [] fun jj=>(D.agg [.str s,.int .i64 i,.int .i64 j,.int .i64 k,.Z 14 l1,.Z 14 l2,.Z 14 l3]).at_ jj) 0 4=(s.length:Nat) from MM (a:=0)] at b
  omega
theorem WD {d:D}(h:ZN d):V9 Q1=true∧eG Q1 d=true∧L0 Q1 d=d∧d.at_ 0 = .str (d.at_ 0).s:=by
 obtain⟨s,i,j,k,l1,l2,l3,_,rfl⟩:=h
 exact⟨rfl,rfl,rfl,rfl⟩
end Go.Proofs.YtpmjplpnpnmlcaaGreatDoor
