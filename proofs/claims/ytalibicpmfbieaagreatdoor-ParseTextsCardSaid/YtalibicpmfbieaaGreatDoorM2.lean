import Derived.Test.YtalibicpmfbieaaGreatDoorM1
namespace Go.Proofs.YtalibicpmfbieaaGreatDoor
open Go.AE
set_option linter.unusedVariables false
set_option linter.unusedSimpArgs false
def lD:Zt:=[115,105,103,110,101,100]
def IM:Zt:=[103,101,110,118,97,114]
def pI:Zt:=[97,115,115,105,103,110]
def mD:Zt:=[97,108,119,97,121,115]
def GI:Zt:=[112,111,115,101,100,103,101]
def BI:Zt:=[102,117,110,99,116,105,111,110]
def lM:Zt:=[101,110,100,102,117,110,99,116,105,111,110]
def uT:Zt:=[109,111,100,117,108,101]
def nP:Zt:=[101,110,100,109,111,100,117,108,101]
def mM (es:List D):List Tk:=match es with
 |[]=>[]
 |[x]=>[(3,[91])]++(wE 4 x++[(3,[93])])
 |x::y::_=>[(3,[91])]++(wE 4 x++([(3,[58])]++(wE 4 y++[(3,[93])])))
def nW (nm ty:Zt)(sg:Bool)(es fs:List D):List Tk:=
 (bif ty==Y2 then [(1,kO),(1,iF)] else [(1,ty)])++((bif sg&&!(ty==eZ) then [(1,lD)] else [])++(mM (es.take 2)++([(1,nm)]++(mM (es.drop 2)++(bif fs.isEmpty then [] else [(3,[61])]++wE 4 (x0 fs))))))
def cW (c:D):List Tk:=[(3,[46]),(1,(c.at_ 0).s),(3,[40])]++(lW (wE 4) (c.at_ 1).l++[(3,[41])])
def mR (xs:List D):List Tk:=[(3,[40])]++(lW cW xs++[(3,[41])])
def FF (w:D→List Tk)(g:D):List Tk:=[(1,Q6),(3,[58]),(1,(g.at_ 1).s)]++((g.at_ 7).l.flatMap w++[(1,dD)])
def EY (q:D):List Tk:=nW (q.at_ 1).s (q.at_ 2).s (q.at_ 3).b (q.at_ 4).l (q.at_ 5).l++[(3,[59])]
def iW (w:D→List Tk)(k:Int)(nm ty:Zt)(sg:Bool)(es fs bs its els ps qs:List D):List Tk:=
 bif k==1 then nW nm ty sg es fs++[(3,[59])]
 else bif k==2 then [(1,ty),(1,nm),(3,[61])]++(wE 4 (x0 es)++[(3,[59])])
 else bif k==3 then [(1,IM),(1,nm),(3,[59])]
 else bif k==4 then [(1,pI)]++(wE 4 (x0 es)++([(3,[61])]++(wE 4 (x1 es)++[(3,[59])])))
 else bif k==5 then [(1,mD),(3,[64]),(3,[42])]++wS 4 (x0 bs)
 else bif k==6 then [(1,mD),(3,[64]),(3,[40]),(1,GI),(1,nm),(3,[41])]++wS 4 (x0 bs)
 else bif k==7 then [(1,BI)]++((bif sg then [(1,lD)] else [])++(mM es++([(1,nm),(3,[59])]++(its.flatMap EY++(wS 4 (x0 bs)++[(1,lM)])))))
 else bif k==8 then [(1,ty)]++((bif ps.isEmpty then [] else [(3,[35])]++mR ps)++([(1,nm)]++(mR qs++[(3,[59])])))
 else bif k==9 then Z9 nm es++its.flatMap (FF w)
 else [(1,vI)]++(pW (x0 es)++(its.flatMap (FF w)++(bif els.isEmpty then [] else [(1,cT)]++els.flatMap (FF w))))
def wI:Nat→D→List Tk
 |0,_=>[]
 |n+1,x=>iW (wI n) (x.at_ 0).i (x.at_ 1).s (x.at_ 2).s (x.at_ 3).b (x.at_ 4).l (x.at_ 5).l (x.at_ 6).l (x.at_ 7).l (x.at_ 8).l (x.at_ 9).l (x.at_ 10).l
def qE (p:D):List Tk:=[(1,(p.at_ 2).s),(1,(p.at_ 1).s),(3,[61])]++wE 4 (x0 (p.at_ 4).l)
def hU (q:D):List Tk:=nW (q.at_ 1).s (q.at_ 2).s (q.at_ 3).b (q.at_ 4).l (q.at_ 5).l
def mW (nm:Zt)(ps qs its:List D):List Tk:=
 [(1,uT),(1,nm)]++((bif ps.isEmpty then [] else [(3,[35]),(3,[40])]++(lW qE ps++[(3,[41])]))++([(3,[40])]++(lW hU qs++([(3,[41]),(3,[59])]++(its.flatMap (wI 4)++[(1,nP)])))))
def wM (x:D):List Tk:=mW (x.at_ 0).s (x.at_ 1).l (x.at_ 2).l (x.at_ 3).l
theorem RZ (w:D→List Tk)(x:D):∀ l:List D,lW w (l++[x])=lW w l++((bif l.isEmpty then [] else [(3,[44])])++w x)
 |[]=>rfl
 |[y]=>by
  show w y++((3,[44])::w x)=w y++([(3,[44])]++w x)
  rfl
 |y::z::r=>by
  have ih:=RZ w x (z::r)
  show w y++((3,[44])::lW w ((z::r)++[x]))=(w y++((3,[44])::lW w (z::r)))++([(3,[44])]++w x)
  rw [ih]
  simp
section
theorem RD {es:List D}(h:es.length=0∨es.length=2):(mM es).length≤sL (wE 4) es+(bif es.isEmpty then 0 else 3):=by
 match es,h with
 |[],_=>exact Yo _
 |[x,y],_=>
  show ([(3,[91])]++(wE 4 x++([(3,[58])]++(wE 4 y++[(3,[93])]))):List Tk).length≤_
  simp only [sL,List.isEmpty_cons,cond_false,Xx,Xw,Xy];omega
def Lc (ty:Zt):Nat:=bif ty==Y2 then 2 else 1
theorem Rh {nm ty:Zt}{sg:Bool}{es fs:List D}(h:es.length=0∨es.length=2∨es.length=4)(hf:fs.length≤1):(nW nm ty sg es fs).length≤Lc ty+(bif sg&&!(ty==eZ) then 1 else 0)+1+(sL (wE 4) es+(bif es.isEmpty then 0 else 6))+(sL (wE 4) fs+fs.length):=by
 have h0:((bif ty==Y2 then [(1,kO),(1,iF)] else [(1,ty)]):List Tk).length=Lc ty:=by unfold Lc;cases ty==Y2<;>rfl
 have h1:((bif sg&&!(ty==eZ) then [(1,lD)] else []):List Tk).length=(bif sg&&!(ty==eZ) then 1 else 0):=by cases sg&&!(ty==eZ)<;>rfl
 have h2:((bif fs.isEmpty then [] else [(3,[61])]++wE 4 (x0 fs)):List Tk).length≤sL (wE 4) fs+fs.length:=by
  match fs,hf with
  |[],_=>exact Yo _
  |[e],_=>
   show ([(3,[61])]++wE 4 e:List Tk).length≤_
   simp only [sL,Xx,Xw,Xy];omega
 have h3:(mM (es.take 2)).length+(mM (es.drop 2)).length≤sL (wE 4) es+(bif es.isEmpty then 0 else 6):=by
  match es,h with
  |[],_=>exact Yo _
  |[x,y],_=>
   have:=RD (es:=[x,y]) (.inr rfl)
   show (mM [x,y]).length+0≤_
   simp only [List.isEmpty_cons,cond_false] at this ⊢;omega
  |[x,y,z,w],_=>
   have g1:=RD (es:=[x,y]) (.inr rfl)
   have g2:=RD (es:=[z,w]) (.inr rfl)
   show (mM [x,y]).length+(mM [z,w]).length≤_
   simp only [sL,List.isEmpty_cons,cond_false] at g1 g2 ⊢;omega
 simp only [nW,Xx,h0,h1,Xw,Xy]
 omega
theorem Uv {k:Int}{nm ty:Zt}{sg:Bool}{es fs bs its els ps qs:List D}:hU (I k nm ty sg es fs bs its els ps qs)=nW nm ty sg es fs:=rfl
section
variable {b:List D} {a a0:Int}
theorem JM (hm:Mk b a){T:NT}{q:Nat}{f:Bool}(g:Bool)(r2:List D)(ty:Zt)(r3 r4:List D)(hT:(ty,q,f)∈T)(hi:ty≠eZ)(hn:(Y r2 0).s∈Z7)(hl0:(Y r4 2).l.length≤q)
  (hl1:(Y r4 2).l.length=0∨(Y r4 2).l.length=2∨(Y r4 2).l.length=4) (hg:g=true→f=true∧(Y r4 2).l.length≤2) (he:∀ e∈(Y r4 2).l,bS 4 e) (ha:a0≤a)
  (hwt:((Lc ty+(bif (Y r3 0).i==1 then 1 else 0)+1+(sL (wE 4) (Y r4 2).l+(bif (Y r4 2).l.isEmpty then 0 else 6))+(bif g then 3 else 0):Nat):Int)≤13*(a-a0)+(1+Lc ty:Nat)) :
  U (fun n=>X3 n g b a r2 ty r3 r4) (fun r=>∃ x a',r=(true,[x,.Z 1 b,.int .i64 a'])∧xN T x∧Mk b a'∧a0≤a'∧(((hU x).length:Nat):Int)≤13*(a'-a0)+(1+Lc ty:Nat)):=by
 refine G4 (fun n=>X3.eq_1 n _ _ _ _ _ _ _) ?_
 cases g with
 |false=>
  refine U.no rfl (U.ret ⟨_,a,rfl,⟨_,_,q,f,_,_,[],rfl,hn,hT,fun h=>absurd h hi,hl0,hl1,.inl rfl,he,D9⟩,hm,ha,?_⟩)
  have hw:=Rh (nm:=(Y r2 0).s) (ty:=ty) (sg:=(Y r3 0).i==1) (es:=(Y r4 2).l) (fs:=[]) hl1 (by decide)
  have hi':(ty==eZ)=false:=Zn.2 hi
  simp only [hi',Bool.not_false,Bool.and_true,sL,Xy,cond_false] at hw hwt
  show (((nW (Y r2 0).s ty ((Y r3 0).i==1) (Y r4 2).l []).length:Nat):Int)≤_
  omega
 |true=>
  refine U.Xu rfl ?_
  (refine U.A0 (Z4 1 (by decide) (c:=1) (by decide) (by decide) (by assumption)) ?_;rintro _ _ ⟨xs,a,h,hl,hx,hm,hqc,hqd⟩;cases h;(try simp only [Y,D.i] at hqc hqd);refine⟨rfl,?_⟩;replace hx:∀ e∈xs,bS 4 e:=fun e h=>cS (by decide) (hx e h))
  refine U.Xu rfl (U.ret ⟨_,a,rfl,⟨_,_,q,f,_,_,xs,rfl,hn,hT,fun h=>absurd h hi,hl0,hl1,.inr ⟨(hg rfl).1,hl,(hg rfl).2⟩,he,hx⟩,hm,by omega,?_⟩)
  have hl:xs.length=1:=hl
  have hw:=Rh (nm:=(Y r2 0).s) (ty:=ty) (sg:=(Y r3 0).i==1) (es:=(Y r4 2).l) (fs:=xs) hl1 (by omega)
  have hi':(ty==eZ)=false:=Zn.2 hi
  simp only [hi',Bool.not_false,Bool.and_true,cond_true] at hw hwt
  show (((nW (Y r2 0).s ty ((Y r3 0).i==1) (Y r4 2).l xs).length:Nat):Int)≤_
  omega
theorem rK (ty:Zt){c:Int}{T:NT}(hc:c=1∨c=2)(hm:Mk b a0)(hok:Uo T c ty=true):U (fun n=>U9 n (.str ty) c (.Z 1 b) a0) (fun r=>∃ x a',r=(true,[x,.Z 1 b,.int .i64 a'])∧xN T x∧Mk b a'∧a0≤a'∧(((hU x).length:Nat):Int)≤13*(a'-a0)+(1+Lc ty:Nat)):=by
 obtain⟨⟨ty',q,f⟩,hT,hb⟩:=List.any_eq_true.1 hok
 simp only [Xz] at hb
 obtain⟨⟨hb1,hb2⟩,hb3⟩:=hb
 have hb1:ty'=ty:=eq_of_beq hb1
 subst hb1
 refine U.eq (fun n=>GK n ty' c b a0) ?_
 have hw:IntKind.i64.wrap (c+1)=c+1:=J0 (by omega) (by omega)
 rw [hw]
 refine U.A0 (G8 (by omega) (by omega) hm) ?_
 rintro _ _ ⟨v,a,h,hv0,hv1,hm,hqa,hqb⟩;cases h;(try simp only [Y,D.i] at hqa hqb);refine⟨rfl,?_⟩
 refine U.Xu rfl ?_
 refine U.Xv (fun hint=>?_) fun hint=>?_
 ·(refine U.A0 (fK (by assumption)) ?_;rintro _ _ ⟨s,a,h,hs,hm,hqe⟩;cases h;(try simp only [Y,D.i] at hqe);refine⟨rfl,?_⟩)
  refine U.Xu rfl (U.ret ⟨_,a,rfl,⟨_,_,q,f,_,[],[],rfl,hs,hT,fun _=>rfl,Yo _,.inl rfl,.inl rfl,D9,D9⟩,hm,by omega,?_⟩)
  have hw:=Rh (nm:=s) (ty:=ty') (sg:=true) (es:=[]) (fs:=[]) (.inl rfl) (by decide)
  have hi':(ty'==eZ)=true:=hint
  simp only [hi',Bool.not_true,Bool.and_false,sL,Xy,List.isEmpty_nil,cond_true,cond_false] at hw
  show (((nW s ty' true [] []).length:Nat):Int)≤_
  omega
 ·have hi:ty'≠eZ:=fun e=>by
   have hint:(ty'==eZ)=false:=hint
   rw [e] at hint;simp at hint
  have hq:(q:Int)=2*c:=by
   rw [show (ty'==eZ)=false from hint] at hb2
   exact Zj hb2
  have hf:c=2→(ty'==iF)=true∨(ty'==Y2)=true→f=true:=by
   intro h1 h2
   rw [show (ty'==iF||ty'==Y2)=true from by rcases h2 with h2|h2<;>simp [h2],Zi h1] at hb3
   simpa using hb3
  (refine U.A0 (fK (by assumption)) ?_;rintro _ _ ⟨s,a,h,hs,hm,hqe⟩;cases h;(try simp only [Y,D.i] at hqe);refine⟨rfl,?_⟩)
  refine U.Xu rfl ?_
  refine U.A0 (G8 (k:=3) (by decide) (by decide) hm) ?_
  rintro _ _ ⟨v3,a,h,_,_,hm,hqf,hqg⟩;cases h;(try simp only [Y,D.i] at hqf hqg);refine⟨rfl,?_⟩
  refine U.Xu rfl ?_
  have hw:IntKind.i64.wrap (2*v)=2*v:=J0 (by omega) (by omega)
  refine U.A0 (Z4 1 (by decide) (c:=IntKind.i64.wrap (2*v)) (by omega) (by omega) hm) ?_
  rintro _ _ ⟨xs,a,h,hl,hx,hm,hqh,hqi⟩;cases h;(try simp only [Y,D.i] at hqh hqi);refine⟨rfl,?_⟩
  rw [hw] at hl hqi
  have hl0:xs.length≤q:=by omega
  have hl1:xs.length=0∨xs.length=2∨xs.length=4:=by omega
  have hx:∀ e∈xs,bS 4 e:=fun e h=>cS (by decide) (hx e h)
  have hg0:(bif v3==1 then 1 else 0:Nat)≤1∧((bif v3==1 then 1 else 0:Nat)=0∨v3=1):=by
   cases hc:v3==1
   ·exact⟨by decide,.inl rfl⟩
   ·exact⟨by decide,.inr (eq_of_beq hc)⟩
  have hg1:(bif xs.isEmpty then 0 else 6:Nat)≤6∧((bif xs.isEmpty then 0 else 6:Nat)=0∨1≤v):=by
   cases xs with
   |nil=>exact⟨by decide,.inl rfl⟩
   |cons x xs=>exact⟨by show 6≤6;decide,.inr (by simp only [Xw] at hl;omega)⟩
  have hnt:((Lc ty'+(bif v3==1 then 1 else 0)+1+(sL (wE 4) xs+(bif xs.isEmpty then 0 else 6))+0:Nat):Int)≤13*(a-a0)+(1+Lc ty':Nat):=by omega
  refine U.Xu rfl ?_
  refine U.Xv (fun hr=>?_) fun _=>U.Xv (fun hr=>?_) fun _=>JM hm false _ ty' _ _ hT hi hs hl0 hl1 (fun h=>by cases h) hx (by omega) (by exact hnt)
  all_goals
   refine U.Xv (fun hc2=>U.Xv (fun h4=>?_) fun _=>JM hm false _ ty' _ _ hT hi hs hl0 hl1 (fun h=>by cases h) hx (by omega) (by exact hnt)) fun _=>JM hm false _ ty' _ _ hT hi hs hl0 hl1 (fun h=>by cases h) hx (by omega) (by exact hnt)
   have hc2:c=2:=eq_of_beq hc2
   have h4:IntKind.i64.wrap (2*v)<4:=Zj h4
   rw [hw] at h4
   refine U.A0 (G8 (k:=3) (by decide) (by decide) hm) ?_
   rintro _ _ ⟨v4,a,h,_,_,hm,hqj,hqk⟩;cases h;(try simp only [Y,D.i] at hqj hqk)
   exact⟨rfl,U.Xu rfl (JM hm _ _ ty' _ _ hT hi hs hl0 hl1 (fun _=>⟨hf hc2 (by first|exact .inl hr|exact .inr hr),by show xs.length≤2;omega⟩) hx (by omega) (by
    have hg2:(bif v4==2 then 3 else 0:Nat)≤3∧((bif v4==2 then 3 else 0:Nat)=0∨v4=2):=by
     cases hc:v4==2
     ·exact⟨by decide,.inl rfl⟩
     ·exact⟨by decide,.inr (eq_of_beq hc)⟩
    show ((Lc ty'+(bif v3==1 then 1 else 0)+1+(sL (wE 4) xs+(bif xs.isEmpty then 0 else 6))+(bif v4==2 then 3 else 0):Nat):Int)≤_
    omega))⟩
theorem XU (hm:Mk b a)(g:Bool)(x:D)(ds:List D)(h:xN kC x)(hg:g=true→(x.at_ 2).s=Y2∧(x.at_ 5).l.length≤1)(ha:a0≤a)(hwt:(((hU x).length+(bif g then 2 else 0):Nat):Int)≤13*(a-a0)+2):U (fun n=>iA n g b a (x::ds)) (fun r=>∃ x a',r=(true,[x,.Z 1 b,.int .i64 a'])∧xN kC x∧Mk b a'∧a0≤a'∧(((hU x).length:Nat):Int)≤13*(a'-a0)+2):=by
 refine G4 (fun n=>iA.eq_1 n _ _ _ _) ?_
 obtain⟨nm,ty,q,f,sg,es,fs,rfl,h1,h2,h3,h4,h5,h6,h7,h8⟩:=h
 cases g with
 |false=>exact U.no rfl (U.ret ⟨_,a,rfl,⟨nm,ty,q,f,sg,es,fs,rfl,h1,h2,h3,h4,h5,h6,h7,h8⟩,hm,ha,by simp only [cond_false,Nat.add_zero] at hwt;exact hwt⟩)
 |true=>
  have hty:ty=Y2:=(hg rfl).1
  subst hty
  have hq:q=2∧f=true:=by
   simp only [kC,Yh,Ys,List.not_mem_nil,or_false] at h2
   rcases h2 with ⟨h,_⟩|⟨h,_⟩|⟨_,h,h'⟩
   ·exact absurd h (by decide)
   ·exact absurd h (by decide)
   ·exact⟨h,h'⟩
  obtain⟨rfl,rfl⟩:=hq
  refine U.Xu rfl ?_
  (refine U.A0 (Z4 1 (by decide) (c:=1) (by decide) (by decide) (by assumption)) ?_;rintro _ _ ⟨xs,a,h,hl,hx,hm,hqc,hqd⟩;cases h;(try simp only [Y,D.i] at hqc hqd);refine⟨rfl,?_⟩;replace hx:∀ e∈xs,bS 4 e:=fun e h=>cS (by decide) (hx e h))
  refine U.Xu rfl (U.ret ⟨_,a,rfl,⟨nm,Y2,2,true,sg,es,xs,rfl,h1,h2,h3,h4,h5,.inr ⟨rfl,hl,h4⟩,h7,hx⟩,hm,by omega,?_⟩)
  have hl:xs.length=1:=hl
  have e1:(nW nm Y2 sg es xs).length≤(nW nm Y2 sg es fs).length+(sL (wE 4) xs+1):=by
   match xs,hl with
   |[e],_=>
    have:((bif ([e]:List D).isEmpty then [] else [(3,[61])]++wE 4 (x0 [e])):List Tk).length≤sL (wE 4) [e]+1:=by
     show ([(3,[61])]++wE 4 e:List Tk).length≤_
     simp only [sL,Xx,Xw,Xy];omega
    simp only [nW,Xx]
    omega
  rw [Uv] at hwt
  simp only [cond_true] at hwt
  show (((nW nm Y2 sg es xs).length:Nat):Int)≤_
  omega
theorem Vv {T:NT}{x:D}(h:xN T x):(x.at_ 5).l.length≤1:=by
 obtain⟨nm,ty,q,f,sg,es,fs,rfl,_,_,_,_,_,h6,_⟩:=h
 show fs.length≤1
 rcases h6 with rfl|⟨_,h,_⟩
 ·exact Yo _
 ·omega
theorem TU (hm:Mk b a0):U (fun n=>dK n (.Z 1 b) a0) (fun r=>∃ x a',r=(true,[x,.Z 1 b,.int .i64 a'])∧xN kC x∧Mk b a'∧a0≤a'∧(((hU x).length:Nat):Int)≤13*(a'-a0)+2):=by
 refine U.eq (fun n=>EJ n b a0) ?_
 refine U.A0 (G8 (k:=3) (by decide) (by decide) hm) ?_
 rintro _ _ ⟨v,a,h,hv0,hv1,hm,hqa,hqb⟩;cases h;(try simp only [Y,D.i] at hqa hqb);refine⟨rfl,?_⟩
 have hv:v=0∨v=1∨v=2:=by omega
 refine U.Xu rfl ?_
 rcases hv with rfl|rfl|rfl
 all_goals
  refine U.Xu rfl (U.Xu rfl (U.A0 (rK (T:=kC) _ (.inl rfl) hm rfl) ?_))
  rintro _ _ ⟨x,a,h,hx,hm,hqc,hqd⟩;cases h;(try simp only [Y,D.i] at hqc hqd);refine⟨rfl,?_⟩
  first|(replace hqd:((hU _).length:Int)≤_+((2:Nat):Int):=hqd)|(replace hqd:((hU _).length:Int)≤_+((3:Nat):Int):=hqd)
  have hx0:=hx
  obtain⟨nm1,ty1,sg1,es1,fs1,rfl⟩:=rJ hx
  refine U.Xu rfl (U.Xv (fun ht=>?_) fun _=>XU hm _ _ _ hx0 (fun h=>by cases h) (by omega) (by show ((_+0:Nat):Int)≤_;omega))
  refine U.A0 (G8 (k:=3) (by decide) (by decide) hm) ?_
  rintro _ _ ⟨v4,a,h,_,_,hm,hqe,hqf⟩;cases h;(try simp only [Y,D.i] at hqe hqf)
  have hg2:(bif v4==2 then 2 else 0:Nat)≤2∧((bif v4==2 then 2 else 0:Nat)=0∨v4=2):=by
   cases hc:v4==2
   ·exact⟨by decide,.inl rfl⟩
   ·exact⟨by decide,.inr (eq_of_beq hc)⟩
  exact⟨rfl,U.Xu rfl (XU hm _ _ _ hx0 (fun _=>⟨eq_of_beq ht,Vv hx0⟩) (by omega) (by show ((_+(bif v4==2 then 2 else 0):Nat):Int)≤_;omega))⟩
theorem Fm:∀ (c:Nat) (zs:List D) (a:Int),zs.length+c≤2→(∀ x∈zs,xC x)→Mk b a→U (fun n=>T7 n (c:Int) (.Z 1 b) a (.Z 2 zs))
  fun r=>∃ (q:Int) (zs':List D) (a':Int),r=(false,[.int .i64 q,.Z 1 b,.int .i64 a',.Z 2 zs'])∧zs'.length≤zs.length+c∧(∀ x∈zs',xC x)∧Mk b a'∧a≤a'∧(sL cW zs':Int)≤sL cW zs+13*(a'-a)+4*c:=by
 intro c
 induction c with
 |zero=>
  intro zs a hl hz hm
  exact U.eq (fun n=>mH n _ _ _ _) (U.no rfl (U.ret ⟨_,zs,a,rfl,by omega,hz,hm,by omega,by omega⟩))
 |succ c ih=>
  intro zs a hl hz hm
  have hw:IntKind.i64.wrap (((c+1:Nat):Int)-1)=(c:Int):=by rw [J0 (by omega) (by omega)];omega
  refine U.eq (fun n=>mH n _ _ _ _) (U.Xu (Zi (by omega)) ?_)
  rw [hw]
  (refine U.A0 (fK (by assumption)) ?_;rintro _ _ ⟨s,a,h,hs,hm,hqe⟩;cases h;(try simp only [Y,D.i] at hqe);refine⟨rfl,?_⟩)
  refine U.Xu rfl ?_
  (refine U.A0 (G8 (by decide) (by decide) (by assumption)) ?_;rintro _ _ ⟨v,a,h,hv0,hv1,hm,hqa,hqb⟩;cases h;(try simp only [Y,D.i] at hqa hqb);refine⟨rfl,?_⟩)
  refine U.Xu rfl ?_
  refine U.A0 (Z4 1 (by decide) (c:=v) hv0 (by omega) hm) ?_
  rintro _ _ ⟨xs,a,h,hl2,hx,hm,hqg,hqh⟩;cases h;(try simp only [Y,D.i] at hqg hqh);refine⟨rfl,?_⟩
  refine U.Xu rfl (U.Xu (Yc (by simp only [D8];omega)) ((ih _ a (by simp;omega) (EO hz ⟨_,xs,rfl,hs,by omega,fun e h=>cS (by decide) (hx e h)⟩) hm).mono fun r hr=>?_))
  obtain⟨q,zs',a',h1,h2,h3,h4,h5,h6⟩:=hr
  have hw1:=XC (wE 4) xs
  have hw2:(cW (D.agg [.str s,.Z 6 xs])).length=(lW (wE 4) xs).length+4:=by
   show ([(3,[46]),(1,s),(3,[40])]++(lW (wE 4) xs++[(3,[41])]):List Tk).length=_
   simp only [Xx,Xw,Xy];omega
  have hw3:xs.length≤1→(lW (wE 4) xs).length≤sL (wE 4) xs:=by
   intro hle
   match xs,hle with
   |[],_=>exact Yo _
   |[e],_=>simp [lW,sL]
  have hw3:=hw3 (by omega)
  rw [mC] at h6
  replace h6:(sL cW zs':Int)≤((sL cW zs+(cW (D.agg [.str s,.Z 6 xs])).length:Nat):Int)+13*(a'-a)+4*c:=h6
  exact⟨q,zs',a',h1,by simp at h2;omega,h3,h4,by omega,by omega⟩
theorem AP (hm:Mk b a):U (fun n=>W7 n (.Z 1 b) a) fun r=>∃ zs a',r=(true,[.Z 1 b,.int .i64 a',.Z 2 zs])∧zs.length≤2∧(∀ x∈zs,xC x)∧Mk b a'∧a≤a'∧((bif zs.isEmpty then 0 else (mR zs).length+1:Nat):Int)≤13*(a'-a)∧((mR zs).length:Int)≤13*(a'-a)+2:=by
 refine U.eq (fun n=>BU n b a) ?_
 (refine U.A0 (G8 (by decide) (by decide) (by assumption)) ?_;rintro _ _ ⟨v,a,h,hv0,hv1,hm,hqa,hqb⟩;cases h;(try simp only [Y,D.i] at hqa hqb);refine⟨rfl,?_⟩)
 obtain⟨c,rfl⟩:∃ c:Nat,v=(c:Int):=⟨v.toNat,by omega⟩
 refine U.Xu rfl (U.D4 (Fm c [] a (by simp;omega) D9 hm) (fun ds h=>by obtain⟨_,_,_,h,_⟩:=h;cases h) fun ds h=>?_)
 obtain⟨q,zs,a,h,h1,h2,hm,hqc,hqd⟩:=h
 cases h
 simp only [sL,Xy,Yp] at hqd h1
 have hw:=XC cW zs
 have hc:(mR zs).length=(lW cW zs).length+2:=by simp only [mR,Xx,Xw,Xy];omega
 refine U.Xu rfl (U.ret ⟨zs,a,rfl,by omega,h2,hm,by omega,?_,?_⟩)
 ·cases zs with
  |nil=>show ((0:Nat):Int)≤_;omega
  |cons z zs=>
   have hw:=uD cW (z::zs) (by simp)
   show (((mR (z::zs)).length+1:Nat):Int)≤_
   simp only [Xw] at h1 hw;omega
 ·cases zs with
  |nil=>rw [hc];show ((0+2:Nat):Int)≤_;omega
  |cons z zs=>
   have hw:=uD cW (z::zs) (by simp)
   simp only [Xw] at h1 hw;omega
theorem Fo (sg:Bool)(es:List D):∀ (c:Nat) (zs:List D) (a:Int),zs.length+c≤2→(∀ x∈zs,xN zH x)→Mk b a→
  U (fun n=>W0 n (c:Int) (.Z 1 b) a (0:Int) (.str []) (.str []) (.bool false) (7:Int) (.str [102]) (.str []) (.bool sg) (.Z 6 []) (.Z 6 []) (.Z 5 []) (.Z 11 []) (.Z 11 []) (.Z 2 []) (.Z 2 []) (.Z 6 es) (.Z 6 []) (.Z 5 []) (.Z 11 zs) (.Z 11 []) (.Z 2 []) (.Z 2 []))
  fun r=>∃ (q:Int) (zs':List D) (a':Int),r=(false,[.int .i64 q,.Z 1 b,.int .i64 a',.int .i64 0,.str [],.str [],.bool false,.int .i64 7,.str [102],.str [],.bool sg,.Z 6 [],.Z 6 [],.Z 5 [],.Z 11 [],.Z 11 [],.Z 2 [],.Z 2 [],.Z 6 es,.Z 6 [],.Z 5 [],.Z 11 zs',.Z 11 [],.Z 2 [],.Z 2 []])∧zs'.length=zs.length+c∧(∀ x∈zs',xN zH x)∧Mk b a'∧a≤a'∧(sL EY zs':Int)≤sL EY zs+13*(a'-a)+3*c:=by
 intro c
 induction c with
 |zero=>
  intro zs a hl hz hm
  exact U.eq (fun n=>oD n _ _ _ _ _ _ _ _ _ _ _ _ _ _ _ _ _ _ _ _ _ _ _ _ _) (U.no rfl (U.ret ⟨_,zs,a,rfl,rfl,hz,hm,by omega,by omega⟩))
 |succ c ih=>
  intro zs a hl hz hm
  have hw:IntKind.i64.wrap (((c+1:Nat):Int)-1)=(c:Int):=by rw [J0 (by omega) (by omega)];omega
  refine U.eq (fun n=>oD n _ _ _ _ _ _ _ _ _ _ _ _ _ _ _ _ _ _ _ _ _ _ _ _ _) (U.Xu (Zi (by omega)) ?_)
  rw [hw]
  refine U.A0 (G8 (k:=3) (by decide) (by decide) hm) ?_
  rintro _ _ ⟨v,a,h,hv0,hv1,hm,hqa,hqb⟩;cases h;(try simp only [Y,D.i] at hqa hqb);refine⟨rfl,?_⟩
  have hv:v=0∨v=1∨v=2:=by omega
  refine U.Xu rfl ?_
  rcases hv with rfl|rfl|rfl
  all_goals
   refine U.Xu rfl (U.Xu rfl (U.A0 (rK (T:=zH) _ (.inl rfl) hm rfl) ?_))
   rintro _ _ ⟨x,a,h,hx,hm,hqc,hqd⟩;cases h;(try simp only [Y,D.i] at hqc hqd);refine⟨rfl,?_⟩
   first|(replace hqd:((hU _).length:Int)≤_+((2:Nat):Int):=hqd)|(replace hqd:((hU _).length:Int)≤_+((3:Nat):Int):=hqd)
   have hx0:=hx
   obtain⟨nm1,ty1,sg1,es1,fs1,rfl⟩:=rJ hx
   refine U.Xu rfl (U.Xu (Yc (by simp only [D8];omega)) ?_)
   refine (ih _ a (by simp;omega) (EO hz hx0) hm).mono fun r hr=>?_
   obtain⟨q,zs',a',h1,h2,h3,h4,h5,h6⟩:=hr
   rw [mC] at h6
   have hn:(EY (I 1 nm1 ty1 sg1 es1 fs1 [] [] [] [] [])).length=(hU (I 1 nm1 ty1 sg1 es1 fs1 [] [] [] [] [])).length+1:=by
    show (nW nm1 ty1 sg1 es1 fs1++[(3,[59])]:List Tk).length=_
    rw [Xx];rfl
   replace h6:(sL EY zs':Int)≤((sL EY zs+(EY (I 1 nm1 ty1 sg1 es1 fs1 [] [] [] [] [])).length:Nat):Int)+13*(a'-a)+3*c:=h6
   exact⟨q,zs',a',h1,by rw [h2,Xx,Yu];omega,h3,h4,by omega,by omega⟩
def Pv (d:Nat)(deep:Int):Prop:=∀ (b:List D) (a c:Int),0≤c→c≤3→Mk b a→U (fun n=>L9 n (IntKind.i64.wrap (deep-1):Int) c (.Z 1 b) a)
 fun r=>∃ zs a',r=(true,[.Z 1 b,.int .i64 a',.Z 11 zs])∧zs.length≤c.toNat∧(∀ x∈zs,xI d x)∧Mk b a'∧a≤a'∧(sL (wI d) zs:Int)≤13*(a'-a)+3*c
end
theorem Qg {w:D→List Tk}{t:Zt}{its:List D}:([gB t its].flatMap (FF w)).length=sL w its+4:=by
 show (([(1,Q6),(3,[58]),(1,t)]++(its.flatMap w++[(1,dD)]))++[]:List Tk).length=_
 simp only [Xx,Xw,Xy,uC];omega
theorem Po {n:Nat}{nm ty:Zt}{sg:Bool}{es fs bs its els ps qs:List D}:(wI (n+1) (I 1 nm ty sg es fs bs its els ps qs)).length=(hU (I 1 nm ty sg es fs bs its els ps qs)).length+1:=by
 show (nW nm ty sg es fs++[(3,[59])]:List Tk).length=_
 rw [Xx];rfl
theorem Vf {n:Nat}{nm ty:Zt}{sg:Bool}{e:D}{fs bs its els ps qs:List D}:(wI (n+1) (I 2 nm ty sg [e] fs bs its els ps qs)).length=(wE 4 e).length+4:=by
 show ([(1,ty),(1,nm),(3,[61])]++(wE 4 e++[(3,[59])]):List Tk).length=_
 simp only [Xx,Xw,Xy];omega
theorem Vg {n:Nat}{nm ty:Zt}{sg:Bool}{l e:D}{fs bs its els ps qs:List D}:(wI (n+1) (I 4 nm ty sg [l,e] fs bs its els ps qs)).length=(wE 4 l).length+(wE 4 e).length+3:=by
 show ([(1,pI)]++(wE 4 l++([(3,[61])]++(wE 4 e++[(3,[59])]))):List Tk).length=_
 simp only [Xx,Xw,Xy];omega
theorem Vh {n:Nat}{nm ty:Zt}{sg:Bool}{s:D}{es fs its els ps qs:List D}:(wI (n+1) (I 5 nm ty sg es fs [s] its els ps qs)).length=(wS 4 s).length+3:=by
 show ([(1,mD),(3,[64]),(3,[42])]++wS 4 s:List Tk).length=_
 simp only [Xx,Xw,Xy];omega
theorem Vi {n:Nat}{nm ty:Zt}{sg:Bool}{s:D}{es fs its els ps qs:List D}:(wI (n+1) (I 6 nm ty sg es fs [s] its els ps qs)).length=(wS 4 s).length+6:=by
 show ([(1,mD),(3,[64]),(3,[40]),(1,GI),(1,nm),(3,[41])]++wS 4 s:List Tk).length=_
 simp only [Xx,Xw,Xy];omega
theorem Vj {n:Nat}{nm ty:Zt}{sg:Bool}{s:D}{es fs its els ps qs:List D}(h:es.length=0∨es.length=2):(wI (n+1) (I 7 nm ty sg es fs [s] its els ps qs)).length≤(bif sg then 1 else 0)+(sL (wE 4) es+(bif es.isEmpty then 0 else 3))+sL EY its+(wS 4 s).length+4:=by
 have h1:=RD h
 have h0:((bif sg then [(1,lD)] else []):List Tk).length=(bif sg then 1 else 0):=by cases sg<;>rfl
 show ([(1,BI)]++((bif sg then [(1,lD)] else [])++(mM es++([(1,nm),(3,[59])]++(its.flatMap EY++(wS 4 s++[(1,lM)]))))):List Tk).length≤_
 simp only [Xx,h0,Xw,Xy,uC];omega
theorem Vk {n:Nat}{nm ty:Zt}{sg:Bool}{es fs bs its els ps qs:List D}:(wI (n+1) (I 8 nm ty sg es fs bs its els ps qs)).length≤(bif ps.isEmpty then 0 else (mR ps).length)+(bif ps.isEmpty then 0 else 1)+(mR qs).length+3:=by
 show ([(1,ty)]++((bif ps.isEmpty then [] else [(3,[35])]++mR ps)++([(1,nm)]++(mR qs++[(3,[59])]))):List Tk).length≤_
 cases ps.isEmpty<;>simp only [cond_true,cond_false,Xx,Xw,Xy]<;>omega
theorem Vm {n:Nat}{nm ty t:Zt}{sg:Bool}{es fs bs its els ps qs:List D}(h:es.length=3):(wI (n+1) (I 9 nm ty sg es fs bs [gB t its] els ps qs)).length=sL (wE 4) es+sL (wI n) its+13:=by
 show (Z9 nm es++[gB t its].flatMap (FF (wI n)):List Tk).length=_
 rw [Xx,Bi h,Qg];omega
theorem Kq {n:Nat}{nm ty t:Zt}{sg:Bool}{e:D}{fs bs its els ps qs:List D}:(wI (n+1) (I 10 nm ty sg [e] fs bs [gB t its] els ps qs)).length≤(wE 4 e).length+sL (wI n) its+(bif els.isEmpty then 0 else 1+(els.flatMap (FF (wI n))).length)+7:=by
 show ([(1,vI)]++(pW e++([gB t its].flatMap (FF (wI n))++(bif els.isEmpty then [] else [(1,cT)]++els.flatMap (FF (wI n))))):List Tk).length≤_
 have:=Qg (w:=wI n) (t:=t) (its:=its)
 cases els.isEmpty<;>simp only [cond_true,cond_false,pW,this,Xx,Xw,Xy]<;>omega
section
variable {d:Nat} {deep:Int} {b:List D} {a a0 v:Int}
theorem uI (hS:2≤deep→Pv (d+1) deep)(hm:Mk b a){k:Int}(h0:0≤k)(h1:k≤11)(h2:8<k→2≤deep)(ha:a0≤a)(ha1:k=0∨a0+1≤a) :
  U (fun n=>I6 n k [.int .i64 v,.Z 1 b,.int .i64 a] deep) (fun r=>∃ x a',r=(true,[x,.Z 1 b,.int .i64 a'])∧xI (d+2) x∧Mk b a'∧a0≤a'∧(((wI (d+2) x).length:Nat):Int)≤13*(a'-a0)+3):=by
 have hk:k=0∨k=1∨k=2∨k=3∨k=4∨k=5∨k=6∨k=7∨k=8∨k=9∨k=10∨k=11:=by omega
 have vI:∀ k:Int,a0+1≤a→2≤deep→(k==0)=false→(k==1)=false→(k==2)=false→(k==3)=false→(k==4)=false→(k==5)=false→(k==6)=false→(k==7)=false→(k==8)=false→(k==9)=false→
   U (fun n=>I6 n k [.int .i64 v,.Z 1 b,.int .i64 a] deep) (fun r=>∃ x a',r=(true,[x,.Z 1 b,.int .i64 a'])∧xI (d+2) x∧Mk b a'∧a0≤a'∧(((wI (d+2) x).length:Nat):Int)≤13*(a'-a0)+3):=by
  intro k hac hdeep e0 e1 e2 e3 e4 e5 e6 e7 e8 e9
  have hS:=hS hdeep
  refine G4 (fun n=>I6.eq_1 n _ _ _) (U.no e0 (U.no e1 (U.no e2 (U.no e3 (U.no e4 (U.no e5 (U.no e6 (U.no e7 (U.no e8 (U.no e9 ?_))))))))))
  (refine U.A0 (Z4 1 (by decide) (c:=1) (by decide) (by decide) (by assumption)) ?_;rintro _ _ ⟨xs,a,h,hl,hx,hm,hqc,hqd⟩;cases h;(try simp only [Y,D.i] at hqc hqd);refine⟨rfl,?_⟩;replace hx:∀ e∈xs,bS 4 e:=fun e h=>cS (by decide) (hx e h))
  obtain⟨e,rfl⟩:∃ e,xs=[e]:=by
   match xs,hl with
   |[e],_=>exact⟨e,rfl⟩
  have he:=hx e (Yn.2 rfl)
  have hqd:((wE 4 e).length:Int)≤_:=Int.le_trans (by simp [sL]) hqd
  refine U.Xu rfl ?_
  refine U.A0 (G8 (k:=3) (by decide) (by decide) hm) ?_
  rintro _ _ ⟨c,a,h,hc0,hc1,hm,hqe,hqf⟩;cases h;(try simp only [Y,D.i] at hqe hqf);refine⟨rfl,?_⟩
  refine U.Xu rfl ?_
  refine U.A0 (hS b a c hc0 (by omega) hm) ?_
  rintro _ _ ⟨zs,a,h,hz1,hz,hm,hqk,hql⟩;cases h;(try simp only [Y,D.i] at hqk hql);refine⟨rfl,?_⟩
  refine U.Xu rfl ?_
  refine U.A0 (G8 (k:=2) (by decide) (by decide) hm) ?_
  rintro _ _ ⟨w,a,h,hw0,hw1,hm,hqg,hqh⟩;cases h;(try simp only [Y,D.i] at hqg hqh);refine⟨rfl,?_⟩
  refine U.Xu rfl (U.Xv (fun hv1=>?_) fun _=>U.ret ⟨_,a,rfl,(.inr (.inr (.inr (.inr (.inr (.inr (.inr (.inr (.inr (⟨e,zs,[],rfl,he,by omega,hz,.inl rfl⟩)))))))))),hm,by omega,by
   have hw:=Kq (n:=d+1) (nm:=[]) (ty:=[]) (t:=[116]) (sg:=false) (e:=e) (fs:=[]) (bs:=[]) (its:=zs) (els:=[]) (ps:=[]) (qs:=[])
   simp only [List.isEmpty_nil,cond_true] at hw
   exact Int.le_trans (Int.ofNat_le.2 hw) (by omega)⟩)
  have hv1:w=1:=by simpa [Y,D.i] using hv1
  refine U.A0 (G8 (k:=3) (by decide) (by decide) hm) ?_
  rintro _ _ ⟨c2,a,h,hc20,hc21,hm,hqi,hqj⟩;cases h;(try simp only [Y,D.i] at hqi hqj);refine⟨rfl,?_⟩
  refine U.Xu rfl ?_
  refine U.A0 (hS b a c2 hc20 (by omega) hm) ?_
  rintro _ _ ⟨ys,a,h,hy1,hy,hm,hqm,hqn⟩;cases h;(try simp only [Y,D.i] at hqm hqn);refine⟨rfl,?_⟩
  refine U.Xu rfl (U.ret ⟨_,a,rfl,(.inr (.inr (.inr (.inr (.inr (.inr (.inr (.inr (.inr (⟨e,zs,_,rfl,he,by omega,hz,.inr ⟨ys,rfl,by omega,hy⟩⟩)))))))))),hm,by omega,?_⟩)
  have hw:=Kq (n:=d+1) (nm:=[]) (ty:=[]) (t:=[116]) (sg:=false) (e:=e) (fs:=[]) (bs:=[]) (its:=zs) (els:=[gB [101] ys]) (ps:=[]) (qs:=[])
  rw [Qg] at hw
  simp only [List.isEmpty_cons,cond_false] at hw
  exact Int.le_trans (Int.ofNat_le.2 hw) (by omega)
 rcases hk with rfl|rfl|rfl|rfl|rfl|rfl|rfl|rfl|rfl|rfl|rfl|rfl
 ·refine G4 (fun n=>I6.eq_1 n _ _ _) (U.Xu rfl (U.A0 (rK (T:=sR) _ (.inl rfl) hm rfl) ?_))
  rintro _ _ ⟨x,a,h,hx,hm,hqc,hqd⟩;cases h;(try simp only [Y,D.i] at hqc hqd)
  first|(replace hqd:((hU _).length:Int)≤_+((2:Nat):Int):=hqd)|(replace hqd:((hU _).length:Int)≤_+((3:Nat):Int):=hqd)
  have hx0:=hx
  obtain⟨nm1,ty1,sg1,es1,fs1,rfl⟩:=rJ hx
  exact⟨rfl,U.Xu rfl (U.ret ⟨_,a,rfl,.inl (.inl hx0),hm,by omega,by
   show (((wI (d+1+1) (I 1 nm1 ty1 sg1 es1 fs1 [] [] [] [] [])).length:Nat):Int)≤_
   rw [Po];omega⟩)⟩
 ·refine G4 (fun n=>I6.eq_1 n _ _ _) (U.no rfl (U.Xu rfl ?_))
  refine U.A0 (G8 (k:=3) (by decide) (by decide) hm) ?_
  rintro _ _ ⟨w,a,h,hv0,hv1,hm,hqa,hqb⟩;cases h;(try simp only [Y,D.i] at hqa hqb);refine⟨rfl,?_⟩
  have hv:w=0∨w=1∨w=2:=by omega
  refine U.Xu rfl ?_
  rcases hv with rfl|rfl|rfl
  all_goals
   refine U.Xu rfl (U.Xu rfl (U.A0 (rK (T:=GL) _ (.inr rfl) hm rfl) ?_))
   rintro _ _ ⟨x,a,h,hx,hm,hqc,hqd⟩;cases h;(try simp only [Y,D.i] at hqc hqd)
   first|(replace hqd:((hU _).length:Int)≤_+((2:Nat):Int):=hqd)|(replace hqd:((hU _).length:Int)≤_+((3:Nat):Int):=hqd)
   have hx0:=hx
   obtain⟨nm1,ty1,sg1,es1,fs1,rfl⟩:=rJ hx
   exact⟨rfl,U.Xu rfl (U.ret ⟨_,a,rfl,.inl (.inr hx0),hm,by omega,by
   show (((wI (d+1+1) (I 1 nm1 ty1 sg1 es1 fs1 [] [] [] [] [])).length:Nat):Int)≤_
   rw [Po];omega⟩)⟩
 ·refine G4 (fun n=>I6.eq_1 n _ _ _) (U.no rfl (U.no rfl (U.Xu rfl ?_)))
  (refine U.A0 (fK (by assumption)) ?_;rintro _ _ ⟨s,a,h,hs,hm,hqe⟩;cases h;(try simp only [Y,D.i] at hqe);refine⟨rfl,?_⟩)
  refine U.Xu rfl ?_
  (refine U.A0 (Z4 1 (by decide) (c:=1) (by decide) (by decide) (by assumption)) ?_;rintro _ _ ⟨xs,a,h,hl,hx,hm,hqc,hqd⟩;cases h;(try simp only [Y,D.i] at hqc hqd);refine⟨rfl,?_⟩;replace hx:∀ e∈xs,bS 4 e:=fun e h=>cS (by decide) (hx e h))
  obtain⟨e,rfl⟩:∃ e,xs=[e]:=by
   match xs,hl with
   |[e],_=>exact⟨e,rfl⟩
  have hqd:((wE 4 e).length:Int)≤_:=Int.le_trans (by simp [sL]) hqd
  exact U.Xu rfl (U.ret ⟨_,a,rfl,(.inr (.inl ⟨s,e,rfl,hs,hx e (Yn.2 rfl)⟩)),hm,by omega,by
   show (((wI (d+1+1) (I 2 s mF false [e] [] [] [] [] [] [])).length:Nat):Int)≤_
   rw [Vf];omega⟩)
 ·refine G4 (fun n=>I6.eq_1 n _ _ _) (U.no rfl (U.no rfl (U.no rfl (U.Xu rfl ?_))))
  (refine U.A0 (fK (by assumption)) ?_;rintro _ _ ⟨s,a,h,hs,hm,hqe⟩;cases h;(try simp only [Y,D.i] at hqe);refine⟨rfl,?_⟩)
  exact U.Xu rfl (U.ret ⟨_,a,rfl,(.inr (.inr (.inl ⟨s,rfl,hs⟩))),hm,by omega,by show ((3:Nat):Int)≤_;omega⟩)
 ·refine G4 (fun n=>I6.eq_1 n _ _ _) (U.no rfl (U.no rfl (U.no rfl (U.no rfl (U.Xu rfl ?_)))))
  refine U.A0 (XT hm) ?_
  rintro _ _ ⟨l,a,h,hl,hm,hqa,hqb⟩;cases h;(try simp only [Y,D.i] at hqa hqb)
  have hl0:=hl
  obtain⟨k1,t1,ar1,rfl,_⟩:=hl
  refine⟨rfl,U.Xu rfl (U.A0 (QR 3 (by decide) hm) ?_)⟩
  rintro _ _ ⟨e,a,h,he,hm,hqc,hqd⟩;cases h;(try simp only [Y,D.i] at hqc hqd)
  have he0:=he
  obtain⟨k2,t2,ar2,rfl,_⟩:=he
  exact⟨rfl,U.Xu rfl (U.ret ⟨_,a,rfl,(.inr (.inr (.inr (.inl ⟨_,_,rfl,hl0,he0⟩)))),hm,by omega,by
   show (((wI (d+1+1) (I 4 [] [] false [E k1 t1 ar1,E k2 t2 ar2] [] [] [] [] [] [])).length:Nat):Int)≤_
   rw [Vg];omega⟩)⟩
 ·refine G4 (fun n=>I6.eq_1 n _ _ _) (U.no rfl (U.no rfl (U.no rfl (U.no rfl (U.no rfl (U.Xu rfl ?_))))))
  refine U.A0 (uJ 3 3 (by decide) (by decide) (by decide) b a hm) ?_
  rintro _ _ ⟨x,a,h,hx,hm,hqc,hqd⟩;cases h;(try simp only [Y,D.i] at hqc hqd)
  have hx0:=hx
  obtain⟨k1,t1,es1,bs1,as1,rfl,_⟩:=hx
  have hqd:((wS 4 (S k1 t1 es1 bs1 as1)).length:Int)≤_:=hqd
  exact⟨rfl,U.Xu rfl (U.ret ⟨_,a,rfl,(.inr (.inr (.inr (.inr (.inl ⟨_,rfl,hx0⟩))))),hm,by omega,by
   show (((wI (d+1+1) (I 5 [] [] false [] [] [S k1 t1 es1 bs1 as1] [] [] [] [])).length:Nat):Int)≤_
   rw [Vh];omega⟩)⟩
 ·refine G4 (fun n=>I6.eq_1 n _ _ _) (U.no rfl (U.no rfl (U.no rfl (U.no rfl (U.no rfl (U.no rfl (U.Xu rfl ?_)))))))
  refine U.A0 (uJ 3 4 (by decide) (by decide) (by decide) b a hm) ?_
  rintro _ _ ⟨x,a,h,hx,hm,hqc,hqd⟩;cases h;(try simp only [Y,D.i] at hqc hqd)
  have hx0:=hx
  obtain⟨k1,t1,es1,bs1,as1,rfl,_⟩:=hx
  have hqd:((wS 4 (S k1 t1 es1 bs1 as1)).length:Int)≤_:=hqd
  exact⟨rfl,U.Xu rfl (U.ret ⟨_,a,rfl,(.inr (.inr (.inr (.inr (.inr (.inl ⟨_,rfl,hx0⟩)))))),hm,by omega,by
   show (((wI (d+1+1) (I 6 wF [] false [] [] [S k1 t1 es1 bs1 as1] [] [] [] [])).length:Nat):Int)≤_
   rw [Vi];omega⟩)⟩
 ·refine G4 (fun n=>I6.eq_1 n _ _ _) (U.no rfl (U.no rfl (U.no rfl (U.no rfl (U.no rfl (U.no rfl (U.no rfl (U.Xu rfl ?_))))))))
  refine U.A0 (G8 (k:=2) (by decide) (by decide) hm) ?_
  rintro _ _ ⟨w2,a,h,_,_,hm,hq2,hq3⟩;cases h;(try simp only [Y,D.i] at hq2 hq3);refine⟨rfl,?_⟩
  refine U.Xu rfl ?_
  refine U.A0 (G8 (k:=2) (by decide) (by decide) hm) ?_
  rintro _ _ ⟨w3,a,h,h30,h31,hm,hq4,hq5⟩;cases h;(try simp only [Y,D.i] at hq4 hq5);refine⟨rfl,?_⟩
  refine U.Xu rfl ?_
  have hw:IntKind.i64.wrap (2*w3)=2*w3:=J0 (by omega) (by omega)
  refine U.A0 (Z4 1 (by decide) (c:=IntKind.i64.wrap (2*w3)) (by omega) (by omega) hm) ?_
  rintro _ _ ⟨xs,a,h,hl,hx,hm,hq6,hq7⟩;cases h;(try simp only [Y,D.i] at hq6 hq7);refine⟨rfl,?_⟩
  rw [hw] at hl hq7
  have hl:xs.length=0∨xs.length=2:=by omega
  have hx:∀ e∈xs,bS 4 e:=fun e h=>cS (by decide) (hx e h)
  refine U.Xu rfl ?_
  refine U.A0 (G8 (k:=2) (by decide) (by decide) hm) ?_
  rintro _ _ ⟨w,a,h,hw0,hw1,hm,hq8,hq9⟩;cases h;(try simp only [Y,D.i] at hq8 hq9)
  obtain⟨c,rfl⟩:∃ c:Nat,w=(c:Int):=⟨w.toNat,by omega⟩
  have hw:IntKind.i64.wrap (1+(c:Int))=((c+1:Nat):Int):=by rw [J0 (by omega) (by omega)];omega
  have L:=Fo (b:=b) (w2==1) xs (c+1) [] a (by simp;omega) D9 hm
  rw [← hw] at L
  refine⟨rfl,U.Xu rfl (U.D4 L (fun ds h=>by obtain⟨_,_,_,h,_⟩:=h;cases h) fun ds h=>?_)⟩
  obtain⟨q,zs,a,h,hz1,hz,hm,hq10,hq11⟩:=h
  cases h
  simp only [sL] at hq11
  refine U.Xu rfl (U.A0 (uJ 3 3 (by decide) (by decide) (by decide) b a hm) ?_)
  rintro _ _ ⟨x,a,h,hx',hm,hq12,hq13⟩;cases h;(try simp only [Y,D.i] at hq12 hq13)
  have hx0:=hx'
  obtain⟨k1,t1,es1,bs1,as1,rfl,_⟩:=hx'
  have hq13:((wS 4 (S k1 t1 es1 bs1 as1)).length:Int)≤_:=hq13
  refine⟨rfl,U.Xu rfl (U.ret ⟨_,a,rfl,(.inr (.inr (.inr (.inr (.inr (.inr (.inl ⟨w2==1,xs,zs,_,rfl,hl,hx,by simp at hz1;omega,by simp at hz1;omega,hz,hx0⟩))))))),hm,by omega,?_⟩)⟩
  have hk7:=Vj (n:=d+1) (nm:=[102]) (ty:=[]) (sg:=w2==1) (s:=S k1 t1 es1 bs1 as1) (es:=xs) (fs:=[]) (its:=zs) (els:=[]) (ps:=[]) (qs:=[]) hl
  have hg0:(bif w2==1 then 1 else 0:Nat)≤1∧((bif w2==1 then 1 else 0:Nat)=0∨w2=1):=by
   cases hc:w2==1
   ·exact⟨by decide,.inl rfl⟩
   ·exact⟨by decide,.inr (eq_of_beq hc)⟩
  have hg1:(bif xs.isEmpty then 0 else 3:Nat)≤3∧((bif xs.isEmpty then 0 else 3:Nat)=0∨xs.length=2):=by
   cases xs with
   |nil=>exact⟨by decide,.inl rfl⟩
   |cons x xs=>exact⟨by show 3≤3;decide,.inr (by rcases hl with h|h;simp at h;exact h)⟩
  exact Int.le_trans (Int.ofNat_le.2 hk7) (by omega)
 ·refine G4 (fun n=>I6.eq_1 n _ _ _) (U.no rfl (U.no rfl (U.no rfl (U.no rfl (U.no rfl (U.no rfl (U.no rfl (U.no rfl (U.Xu rfl ?_)))))))))
  refine U.A0 (G8 (k:=9) (by decide) (by decide) hm) ?_
  rintro _ _ ⟨w,a,h,hw0,hw1,hm,hq2,hq3⟩;cases h;(try simp only [Y,D.i] at hq2 hq3);refine⟨rfl,?_⟩
  refine U.Xu rfl ?_
  refine U.A0 (Ck (v:=w) hw0 (by omega)) ?_
  rintro _ _ h;cases h;refine⟨rfl,?_⟩
  refine U.Xu rfl (U.Xu (Zi (by show 1+1≤S6;simp only [S6];omega)) ?_)
  refine U.A0 (AP hm) ?_
  rintro _ _ ⟨ps,a,h,hp1,hp,hm,hq4,hq5,hq6⟩;cases h;(try simp only [Y,D.i] at hq4 hq5 hq6);refine⟨rfl,?_⟩
  refine U.Xu rfl ?_
  refine U.A0 (AP hm) ?_
  rintro _ _ ⟨qs,a,h,hq1,hq,hm,hq7,hq8,hq9⟩;cases h;(try simp only [Y,D.i] at hq1 hq7 hq8 hq9);refine⟨rfl,?_⟩
  exact U.Xu rfl (U.ret ⟨_,a,rfl,(.inr (.inr (.inr (.inr (.inr (.inr (.inr (.inl ⟨UInt8.ofNat w.toNat,ps,qs,rfl,by rw [UInt8.toNat_ofNat_of_lt' (by show w.toNat<256;omega)];omega,hp1,hq1,hp,hq⟩)))))))),hm,by omega,by
   have hk8:=Vk (n:=d+1) (nm:=[117,48+UInt8.ofNat w.toNat]) (ty:=sP) (sg:=false) (es:=[]) (fs:=[]) (bs:=[]) (its:=[]) (els:=[]) (ps:=ps) (qs:=qs)
   have hg1:(bif ps.isEmpty then 0 else (mR ps).length:Nat)+(bif ps.isEmpty then 0 else 1:Nat)=(bif ps.isEmpty then 0 else (mR ps).length+1:Nat):=by cases ps.isEmpty<;>rfl
   exact Int.le_trans (Int.ofNat_le.2 hk8) (by omega)⟩)
 ·have hdeep:=h2 (by decide)
  refine G4 (fun n=>I6.eq_1 n _ _ _) (U.no rfl (U.no rfl (U.no rfl (U.no rfl (U.no rfl (U.no rfl (U.no rfl (U.no rfl (U.no rfl (U.Xu rfl ?_))))))))))
  (refine U.A0 (Z4 1 (by decide) (c:=3) (by decide) (by decide) (by assumption)) ?_;rintro _ _ ⟨xs,a,h,hl,hx,hm,hqc,hqd⟩;cases h;(try simp only [Y,D.i] at hqc hqd);refine⟨rfl,?_⟩;replace hx:∀ e∈xs,bS 4 e:=fun e h=>cS (by decide) (hx e h))
  refine U.Xu rfl ?_
  refine U.A0 (G8 (k:=3) (by decide) (by decide) hm) ?_
  rintro _ _ ⟨c,a,h,hc0,hc1,hm,hq2,hq3⟩;cases h;(try simp only [Y,D.i] at hq2 hq3);refine⟨rfl,?_⟩
  refine U.Xu rfl ?_
  refine U.A0 (hS hdeep b a c hc0 (by omega) hm) ?_
  rintro _ _ ⟨zs,a,h,hz1,hz,hm,hq4,hq5⟩;cases h;(try simp only [Y,D.i] at hq4 hq5);refine⟨rfl,?_⟩
  exact U.Xu rfl (U.ret ⟨_,a,rfl,(.inr (.inr (.inr (.inr (.inr (.inr (.inr (.inr (.inl ⟨xs,zs,rfl,hl,hx,by omega,hz⟩))))))))),hm,by omega,by
   show (((wI (d+1+1) (I 9 [105] [] false xs [] [] [gB [103] zs] [] [] [])).length:Nat):Int)≤_
   rw [Vm hl];omega⟩)
 ·exact vI 10 (by omega) (h2 (by decide)) rfl rfl rfl rfl rfl rfl rfl rfl rfl rfl
 ·exact vI 11 (by omega) (h2 (by decide)) rfl rfl rfl rfl rfl rfl rfl rfl rfl rfl
end
theorem Fp {d:Nat}{deep:Int}(hI:∀ b a,Mk b a→U (fun n=>Y6 n deep (.Z 1 b) a) (fun r=>∃ x a',r=(true,[x,.Z 1 b,.int .i64 a'])∧xI d x∧Mk b a'∧a≤a'∧(((wI d x).length:Nat):Int)≤13*(a'-a)+3)){m:Nat}(hmm:m≤100){b:List D} :
  ∀ (c j:Nat) (zs:List D) (a:Int),j+c=m→zs.length=j→(∀ x∈zs,xI d x)→Mk b a→U (fun n=>T9 n deep (m:Int) (j:Int) (.Z 1 b) a (.Z 11 zs))
  fun r=>∃ (q:Int) (zs':List D) (a':Int),r=(false,[.int .i64 deep,.int .i64 (m:Int),.int .i64 q,.Z 1 b,.int .i64 a',.Z 11 zs'])∧zs'.length=m∧(∀ x∈zs',xI d x)∧Mk b a'∧a≤a'∧(sL (wI d) zs':Int)≤sL (wI d) zs+13*(a'-a)+3*c:=by
 intro c
 induction c with
 |zero=>
  intro j zs a hj hl hz hm
  exact U.eq (fun n=>mK n _ _ _ _ _ _) (U.no (Zk (by omega)) (U.ret ⟨_,zs,a,rfl,by omega,hz,hm,by omega,by omega⟩))
 |succ c ih=>
  intro j zs a hj hl hz hm
  refine U.eq (fun n=>mK n _ _ _ _ _ _) (U.Xu (Zi (by omega)) ?_)
  rw [H7 (by omega)]
  refine U.A0 (hI b a hm) ?_
  rintro _ _ ⟨x,a,h,hx,hm,hq1,hq2⟩;cases h;(try simp only [Y,D.i] at hq1 hq2);refine⟨rfl,?_⟩
  cases d with
  |zero=>exact hx.elim
  |succ d=>
   have hx0:=hx
   obtain⟨k1,nm1,ty1,sg1,es1,fs1,bs1,its1,els1,ps1,qs1,rfl⟩:=Og hx
   refine U.Xu rfl (U.Xu (Yc (by simp only [D8];omega)) ?_)
   refine (ih (j+1) _ a (by omega) (by simp;omega) (EO hz hx0) hm).mono fun r hr=>?_
   obtain⟨q,zs',a',h1,h2,h3,h4,h5,h6⟩:=hr
   rw [mC] at h6
   replace h6:(sL (wI (d+1)) zs':Int)≤((sL (wI (d+1)) zs+(wI (d+1) (I k1 nm1 ty1 sg1 es1 fs1 bs1 its1 els1 ps1 qs1)).length:Nat):Int)+13*(a'-a)+3*c:=h6
   exact⟨q,zs',a',h1,h2,h3,h4,by omega,by omega⟩
theorem AQ {d:Nat}{deep:Int}(hI:∀ b a,Mk b a→U (fun n=>Y6 n deep (.Z 1 b) a) (fun r=>∃ x a',r=(true,[x,.Z 1 b,.int .i64 a'])∧xI d x∧Mk b a'∧a≤a'∧(((wI d x).length:Nat):Int)≤13*(a'-a)+3)){b:List D}{a c:Int}(h0:0≤c)(h1:c≤100)(hm:Mk b a) :
  U (fun n=>L9 n deep c (.Z 1 b) a) fun r=>∃ zs a',r=(true,[.Z 1 b,.int .i64 a',.Z 11 zs])∧zs.length≤c.toNat∧(∀ x∈zs,xI d x)∧Mk b a'∧a≤a'∧(sL (wI d) zs:Int)≤13*(a'-a)+3*c:=by
 obtain⟨m,rfl⟩:∃ m:Nat,c=(m:Int):=⟨c.toNat,by omega⟩
 refine U.eq (fun n=>BW n _ _ b a) ?_
 refine U.D4 (Fp hI (m:=m) (by omega) m 0 [] a (by omega) rfl D9 hm) (fun ds h=>by obtain⟨_,_,_,h,_⟩:=h;cases h) fun ds h=>?_
 obtain⟨q,zs,a,h,h1,h2,hm,h3,h4⟩:=h
 cases h
 exact U.Xu rfl (U.ret ⟨zs,a,rfl,by omega,h2,hm,h3,by simp only [sL] at h4;omega⟩)
theorem TT:∀ (d:Nat) (deep:Int),d≤10→-1000≤deep→deep≤(d:Int)+1→∀ b a,Mk b a→U (fun n=>Y6 n deep (.Z 1 b) a) (fun r=>∃ x a',r=(true,[x,.Z 1 b,.int .i64 a'])∧xI (d+2) x∧Mk b a'∧a≤a'∧(((wI (d+2) x).length:Nat):Int)≤13*(a'-a)+3):=by
 intro d
 induction d with
 |zero=>
  intro deep hd h0 h1 b a hm
  refine U.eq (fun n=>rH n deep b a) ?_
  refine U.A0 (G8 (k:=12) (by decide) (by decide) hm) ?_
  rintro _ _ ⟨v,a,h,hv0,hv1,hm,hq1,hq2⟩;cases h;(try simp only [Y,D.i] at hq1 hq2);refine⟨rfl,?_⟩
  refine U.Xu rfl (U.Xu (Zi (by omega)) ?_)
  have e1:0≤v.tmod 9:=Int.tmod_nonneg 9 hv0
  have e2:v.tmod 9<9:=Int.tmod_lt_of_pos v (by decide)
  exact uI (fun h=>by omega) hm e1 (by show v.tmod 9≤11;omega) (fun h=>by have h:8<v.tmod 9:=h;omega) hq1 (by rcases hq2 with rfl|h;exact .inl rfl;exact .inr h)
 |succ d ih=>
  intro deep hd h0 h1 b a hm
  have hS:2≤deep→Pv (d+1+1) deep:=by
   intro h b a c hc0 hc1 hm
   rw [J0 (by omega) (by omega)]
   exact AQ (fun b a hm=>ih (deep-1) (by omega) (by omega) (by omega) b a hm) hc0 (by omega) hm
  refine U.eq (fun n=>rH n deep b a) ?_
  refine U.A0 (G8 (k:=12) (by decide) (by decide) hm) ?_
  rintro _ _ ⟨v,a,h,hv0,hv1,hm,hq1,hq2⟩;cases h;(try simp only [Y,D.i] at hq1 hq2);refine⟨rfl,?_⟩
  refine U.Xu rfl (U.Xv (fun _=>?_) fun hc=>?_)
  ·have e1:0≤v.tmod 9:=Int.tmod_nonneg 9 hv0
   have e2:v.tmod 9<9:=Int.tmod_lt_of_pos v (by decide)
   exact uI hS hm e1 (by show v.tmod 9≤11;omega) (fun h=>by have h:8<v.tmod 9:=h;omega) hq1 (by rcases hq2 with rfl|h;exact .inl rfl;exact .inr h)
  ·have hc:=Zl hc
   exact uI hS hm hv0 (by show v≤11;omega) (fun _=>by omega) hq1 hq2
section
variable {b b0:List D} {i0:Int} {ms its0:List D} {nm:Zt}
theorem Ac:∀ (c:Nat) (zs:List D) (a:Int),zs.length+c≤2→(∀ x∈zs,xP x)→Mk b a→U (fun n=>bN n (.Z 1 b0) i0 (c:Int) (.Z 1 b) a (.Z 4 ms) (.str nm) (.Z 11 zs) (.Z 11 []) (.Z 11 []))
  fun r=>∃ (q:Int) (zs':List D) (a':Int),r=(false,[.Z 1 b0,.int .i64 i0,.int .i64 q,.Z 1 b,.int .i64 a',.Z 4 ms,.str nm,.Z 11 zs',.Z 11 [],.Z 11 []])∧zs'.length≤zs.length+c∧(∀ x∈zs',xP x)∧Mk b a'∧a≤a'∧(sL qE zs':Int)≤sL qE zs+13*(a'-a)+4*c:=by
 intro c
 induction c with
 |zero=>
  intro zs a hl hz hm
  exact U.eq (fun n=>sK n _ _ _ _ _ _ _ _ _ _) (U.no rfl (U.ret ⟨_,zs,a,rfl,by omega,hz,hm,by omega,by omega⟩))
 |succ c ih=>
  intro zs a hl hz hm
  have hw:IntKind.i64.wrap (((c+1:Nat):Int)-1)=(c:Int):=by rw [J0 (by omega) (by omega)];omega
  refine U.eq (fun n=>sK n _ _ _ _ _ _ _ _ _ _) (U.Xu (Zi (by omega)) ?_)
  rw [hw]
  (refine U.A0 (fK (by assumption)) ?_;rintro _ _ ⟨s,a,h,hs,hm,hqe⟩;cases h;(try simp only [Y,D.i] at hqe);refine⟨rfl,?_⟩)
  refine U.Xu rfl ?_
  (refine U.A0 (Z4 1 (by decide) (c:=1) (by decide) (by decide) (by assumption)) ?_;rintro _ _ ⟨xs,a,h,hl,hx,hm,hqc,hqd⟩;cases h;(try simp only [Y,D.i] at hqc hqd);refine⟨rfl,?_⟩;replace hx:∀ e∈xs,bS 4 e:=fun e h=>cS (by decide) (hx e h))
  obtain⟨e,rfl⟩:∃ e,xs=[e]:=by
   match xs,hl with
   |[e],_=>exact⟨e,rfl⟩
  refine U.Xu rfl (U.Xu (Yc (by simp only [D8];omega)) ((ih _ a (by simp;omega) (EO hz ⟨_,e,rfl,hs,hx e (Yn.2 rfl)⟩) hm).mono fun r hr=>?_))
  obtain⟨q,zs',a',h1,h2,h3,h4,h5,h6⟩:=hr
  rw [mC] at h6
  have hw:(qE (I 2 s oM false [e] [] [] [] [] [] [])).length=(wE 4 e).length+3:=by
   show ([(1,oM),(1,s),(3,[61])]++wE 4 e:List Tk).length=_
   simp only [Xx,Xw,Xy];omega
  replace h6:(sL qE zs':Int)≤((sL qE zs+(qE (I 2 s oM false [e] [] [] [] [] [] [])).length:Nat):Int)+13*(a'-a)+4*c:=h6
  simp only [sL] at hqd
  exact⟨q,zs',a',h1,by simp at h2;omega,h3,h4,by omega,by omega⟩
theorem Fq (ps:List D):∀ (c:Nat) (zs:List D) (a:Int),zs.length+c≤3→(∀ x∈zs,xN kC x)→Mk b a→U (fun n=>bO n (.Z 1 b0) i0 (c:Int) (.Z 1 b) a (.Z 4 ms) (.str nm) (.Z 11 ps) (.Z 11 zs) (.Z 11 []))
  fun r=>∃ (q:Int) (zs':List D) (a':Int),r=(false,[.Z 1 b0,.int .i64 i0,.int .i64 q,.Z 1 b,.int .i64 a',.Z 4 ms,.str nm,.Z 11 ps,.Z 11 zs',.Z 11 []])∧zs'.length≤zs.length+c∧(∀ x∈zs',xN kC x)∧Mk b a'∧a≤a'∧(sL hU zs':Int)≤sL hU zs+13*(a'-a)+2*c:=by
 intro c
 induction c with
 |zero=>
  intro zs a hl hz hm
  exact U.eq (fun n=>sM n _ _ _ _ _ _ _ _ _ _) (U.no rfl (U.ret ⟨_,zs,a,rfl,by omega,hz,hm,by omega,by omega⟩))
 |succ c ih=>
  intro zs a hl hz hm
  have hw:IntKind.i64.wrap (((c+1:Nat):Int)-1)=(c:Int):=by rw [J0 (by omega) (by omega)];omega
  refine U.eq (fun n=>sM n _ _ _ _ _ _ _ _ _ _) (U.Xu (Zi (by omega)) ?_)
  rw [hw]
  refine U.A0 (TU hm) ?_
  rintro _ _ ⟨x,a,h,hx,hm,hqc,hqd⟩;cases h;(try simp only [Y,D.i] at hqc hqd);refine⟨rfl,?_⟩
  have hx0:=hx
  obtain⟨nm1,ty1,sg1,es1,fs1,rfl⟩:=rJ hx
  refine U.Xu rfl (U.Xu (Yc (by simp only [D8];omega)) ?_)
  refine (ih _ a (by simp;omega) (EO hz hx0) hm).mono fun r hr=>?_
  obtain⟨q,zs',a',h1,h2,h3,h4,h5,h6⟩:=hr
  rw [mC] at h6
  replace h6:(sL hU zs':Int)≤((sL hU zs+(hU (I 1 nm1 ty1 sg1 es1 fs1 [] [] [] [] [])).length:Nat):Int)+13*(a'-a)+2*c:=h6
  exact⟨q,zs',a',h1,by simp at h2;omega,h3,h4,by omega,by omega⟩
end
theorem Wn {nm:Zt}{ps qs its:List D}:(wM (M nm ps qs its)).length≤(bif ps.isEmpty then 0 else (lW qE ps).length+3)+(lW hU qs).length+sL (wI 4) its+6:=by
 show ([(1,uT),(1,nm)]++((bif ps.isEmpty then [] else [(3,[35]),(3,[40])]++(lW qE ps++[(3,[41])]))++([(3,[40])]++(lW hU qs++([(3,[41]),(3,[59])]++(its.flatMap (wI 4)++[(1,nP)]))))):List Tk).length≤_
 cases ps.isEmpty<;>simp only [cond_true,cond_false,Xx,Xw,Xy,uC]<;>omega
theorem Kz {b0:List D}:∀ (c:Nat) (ms b:List D) (a:Int),ms.length+c≤3→Fw ms→Mk b a→
  U (fun n=>W8 n (.Z 1 b0) (.int .i64 ((c:Int)-1)) (.Z 1 b) a (.Z 4 ms))
  fun r=>∃ ds ms',r=(false,ds)∧Y ds 4 = .Z 4 ms'∧B7 W8.sk ds=true∧(ms≠[]∨c≠0→ms'≠[])∧ms'.length≤3∧Fw ms'∧(sL wM ms':Int)≤sL wM ms+13*(300-a)+21*c:=by
 intro c
 have stop:∀ (i:Int) (ms b:List D) (a:Int),ms.length≤3→Fw ms→Mk b a→(c=0∨ms≠[])→U (fun n=>X4 n false ms b a b0 i)
   fun r=>∃ ds ms',r=(false,ds)∧Y ds 4 = .Z 4 ms'∧B7 W8.sk ds=true∧(ms≠[]∨c≠0→ms'≠[])∧ms'.length≤3∧Fw ms'∧(sL wM ms':Int)≤sL wM ms+13*(300-a)+21*c:=
  fun i ms b a hl hz hm hc=>G4 (fun n=>X4.eq_1 n _ _ _ _ _ _) (U.no rfl (U.ret ⟨_,ms,rfl,rfl,rfl,fun h=>by rcases hc with hc|hc;exact h.elim id (fun h=>absurd hc h);exact hc,hl,hz,by have:=hm.2.1;have:=hm.2.2.2;omega⟩))
 induction c with
 |zero=>
  intro ms b a hl hz hm
  exact U.eq (fun n=>sJ n _ _ _ _ _) (U.no rfl (stop _ ms b a (by omega) hz hm (.inl rfl)))
 |succ c ih=>
  intro ms b a hl hz hm
  have hw:IntKind.i64.wrap (((c+1:Nat):Int)-1-1)=(c:Int)-1:=by rw [J0 (by omega) (by omega)];omega
  have go:U (fun n=>X4 n true ms b a b0 (((c+1:Nat):Int)-1)) fun r=>∃ ds ms',r=(false,ds)∧Y ds 4 = .Z 4 ms'∧B7 W8.sk ds=true∧(ms≠[]∨c+1≠0→ms'≠[])∧ms'.length≤3∧Fw ms'∧(sL wM ms':Int)≤sL wM ms+13*(300-a)+21*((c+1:Nat):Int):=by
   refine G4 (fun n=>X4.eq_1 n _ _ _ _ _ _) (U.Xu rfl ?_)
   refine U.A0 (Ck (v:=(ms.length:Int)) (by omega) (by omega)) ?_
   rintro _ _ h;cases h;refine⟨rfl,?_⟩
   refine U.Xu rfl (U.Xu (Zi (by show 1+1≤S6;simp only [S6];omega)) ?_)
   refine U.A0 (G8 (k:=3) (by decide) (by decide) hm) ?_
   rintro _ _ ⟨w,a,h,hw0,hw1,hm,hq1,hq2⟩;cases h;(try simp only [Y,D.i] at hq1 hq2);refine⟨rfl,?_⟩
   obtain⟨w,rfl⟩:∃ m:Nat,w=(m:Int):=⟨w.toNat,by omega⟩
   refine U.Xu rfl (U.D4 (Ac w [] a (by simp;omega) D9 hm) (fun ds h=>by obtain⟨_,_,_,h,_⟩:=h;cases h) fun ds h=>?_)
   obtain⟨q,ps,a,h,hp1,hp,hm,hq7,hq8⟩:=h
   cases h
   simp only [sL,Xy,Yp] at hq8 hp1
   have hA1:=XC qE ps
   have hA2:(bif ps.isEmpty then 0 else (lW qE ps).length+3:Nat)≤(lW qE ps).length+3∧((bif ps.isEmpty then 0 else (lW qE ps).length+3:Nat)=0∨1≤ps.length):=by
    cases ps with
    |nil=>exact⟨Yo _,.inl rfl⟩
    |cons z zs=>exact⟨Yj _,.inr (by simp)⟩
   have hA3:=uD qE ps
   refine U.Xu rfl (U.A0 (G8 (k:=4) (by decide) (by decide) hm) ?_)
   rintro _ _ ⟨w,a,h,hw0,hw1,hm,hq3,hq4⟩;cases h;(try simp only [Y,D.i] at hq3 hq4);refine⟨rfl,?_⟩
   obtain⟨w,rfl⟩:∃ m:Nat,w=(m:Int):=⟨w.toNat,by omega⟩
   refine U.Xu rfl (U.D4 (Fq ps w [] a (by simp;omega) D9 hm) (fun ds h=>by obtain⟨_,_,_,h,_⟩:=h;cases h) fun ds h=>?_)
   obtain⟨q,qs,a,h,hqq1,hqq,hm,hq9,hq10⟩:=h
   cases h
   simp only [sL,Xy,Yp] at hq10 hqq1
   have hB1:=XC hU qs
   have hB3:=uD hU qs
   refine U.Xu rfl (U.A0 (G8 (k:=6) (by decide) (by decide) hm) ?_)
   rintro _ _ ⟨w,a,h,hw0,hw1,hm,hq5,hq6⟩;cases h;(try simp only [Y,D.i] at hq5 hq6);refine⟨rfl,?_⟩
   refine U.Xu rfl (U.A0 (AQ (d:=4) (fun b a hm=>TT 2 3 (by decide) (by decide) (by decide) b a hm) (c:=w) hw0 (by omega) hm) ?_)
   rintro _ _ ⟨its,a,h,hi1,hi,hm,hq11,hq12⟩;cases h;(try simp only [Y,D.i] at hq11 hq12);refine⟨rfl,?_⟩
   refine U.Xu rfl (U.Xu (Yc (by show ms.length+1≤D8;simp only [D8];omega)) ?_)
   have hx:xM ms.length (M ([109]++[48+UInt8.ofNat ((ms.length:Nat):Int).toNat]) ps qs its):=⟨ps,qs,its,rfl,by omega,by omega,by omega,hp,hqq,hi⟩
   have hW:=Wn (nm:=[109]++[48+UInt8.ofNat ((ms.length:Nat):Int).toNat]) (ps:=ps) (qs:=qs) (its:=its)
   have L:=ih (fun i ms b a hl hz hm hc=>G4 (fun n=>X4.eq_1 n _ _ _ _ _ _) (U.no rfl (U.ret ⟨_,ms,rfl,rfl,rfl,fun h=>by rcases hc with hc|hc;exact h.elim id (fun h=>absurd hc h);exact hc,hl,hz,by have:=hm.2.1;have:=hm.2.2.2;omega⟩))) (ms++[M ([109]++[48+UInt8.ofNat ((ms.length:Nat):Int).toNat]) ps qs its]) b a (by simp;omega) (Ku hz hx) hm
   rw [← hw] at L
   refine L.mono fun r hr=>?_
   obtain⟨ds,ms',h1,h2,h3,h4,h5,h6,h7⟩:=hr
   rw [mC] at h7
   exact⟨ds,ms',h1,h2,h3,fun _=>h4 (.inl (by simp)),h5,h6,by omega⟩
  refine U.eq (fun n=>sJ n _ _ _ _ _) (U.Xu (Zi (by omega)) (U.Xv (fun _=>go) fun hne=>?_))
  have hne:ms≠[]:=by
   rintro rfl
   exact absurd hne (by decide)
  refine (show ∀ g:Bool,U (fun n=>X4 n g ms b a b0 (((c+1:Nat):Int)-1)) _ from fun g=>?_) _
  cases g with
  |true=>exact go
  |false=>exact stop _ ms b a (by omega) hz hm (.inr hne)
theorem Ky {b:List D}(hb:Bytes b)(hl:b.length≤300):U (fun n=>eV n (.Z 1 b)) fun r=>∃ ms,r=(true,[.Z 4 ms])∧ms≠[]∧ms.length≤3∧Fw ms∧sL wM ms≤3963:=by
 refine U.eq (fun n=>NW n b) ?_
 refine U.A0 (G8 (k:=3) (by decide) (by decide) (a:=0) ⟨hb,hl,by decide,by omega⟩) ?_
 rintro _ _ ⟨v,a,h,hv0,hv1,hm,hq1,hq2⟩;cases h;(try simp only [Y,D.i] at hq1 hq2);refine⟨rfl,?_⟩
 obtain⟨c,rfl⟩:∃ c:Nat,v=((c+1:Nat):Int)-1:=⟨v.toNat,by omega⟩
 refine U.Xu rfl (U.D4 (Kz (c+1) [] b a (by simp;omega) Oh hm) (fun ds h=>by obtain⟨_,_,h,_⟩:=h;cases h) fun ds h=>?_)
 obtain⟨ds',ms,h,h1,h2,h3,h4,h5,h6⟩:=h
 cases h
 simp only [sL] at h6
 refine U.Xu h2 (U.ret ⟨ms,?_,h3 (.inr (by simp)),h4,h5,by omega⟩)
 rw [h1];rfl
end
section
def Nm (x:Zt)(a b e:Int):D:= .agg [.int .i64 2,.int .i64 a,.int .i64 b,.int .i64 e,.str x,.Z 6 []]
inductive BT where
 |nm (x:Zt)
 |bn (o:Zt) (l r:BT)
theorem Iu:(YZ.all fun s=>decide (s.length≤100))=true:=by kernel_rfl
theorem Re (s:Zt)(h:s∈YZ):s.length≤100:=Zj (Yg.1 Iu s h)
abbrev UA:=List (Zt×Zt)
inductive Bd:Zt→UA→List Zt→Prop
 |one (x:Zt):Bd x [] [x]
 |split {x:Zt} {q1:UA} {o y:Zt} {q2:UA} {w1 w2:List Zt}:Bd x q1 w1→Bd y q2 w2→(∀ p∈q1,IP o≤IP p.1)→(∀ p∈q2,IP o<IP p.1)→
   Bd x (q1++(o,y)::q2) ((bif q1.isEmpty then w1 else [[40]]++w1++[[41]])++[o]++(bif q2.isEmpty then w2 else [[40]]++w2++[[41]]))
def Eh (t:Zt):Bool:=oQ t&&!(t==[40])&&!(t==[123])&&!(t==[36,115,105,103,110,101,100])&&!(t==[36,117,110,115,105,103,110,101,100])
def Qb (l:List D):Nat→UA→Prop
 |i,[]=>∃ a b e,l[i]? = some (tk 3 [59] a b e)
 |i,(o,y)::r=>(∃ a b e,l[i]? = some (tk 3 o a b e))∧(∃ a b e,l[i+1]? = some (tk 1 y a b e))∧o∈xJ∧Eh y=true∧Qb l (i+2) r
theorem Pk:(xJ.all fun o=>!(o==[91])&&!(o==[40])&&!(o==[63])&&!(o==[94,126]))=true:=by kernel_rfl
theorem Jm {o:Zt}(ho:o∈xJ):U (fun n=>eM n (.str o)) fun r=>r=(true,[.str o]):=by
 have:=Yg.1 Pk o ho
 simp only [Xz,Zd] at this
 exact U.eq (fun n=>xU n o) (U.no this.2 (U.ret rfl))
theorem Qb.next {l:List D}{i:Nat}{ps:UA}(h:Qb l i ps):∃ t a b e,l[i]? = some (tk 3 t a b e)∧(t==[91])=false∧(t==[40])=false∧(t==[63])=false:=by
 match ps,h with
 |[],⟨a,b,e,h⟩=>exact⟨_,a,b,e,h,rfl,rfl,rfl⟩
 |(o,y)::r,⟨⟨a,b,e,h⟩,_,ho,_⟩=>
  have:=Yg.1 Pk o ho
  simp only [Xz,Zd] at this
  exact⟨o,a,b,e,h,this.1.1.1,this.1.1.2,this.1.2⟩
section
variable {l:List D} {d c p0 p1 p2:Int} (hl:l.length≤1000000)
include hl
theorem JG {i:Nat}{t t2:Zt}{k2 a b e a2 b2 e2:Int}(h:l[i]? = some (tk 1 t a b e))(hg:oQ t=true)(h2:l[i+1]? = some (tk k2 t2 a2 b2 e2))(hb:(t2==[91])=false) :
  U (fun n=>I4 n (.Z 5 l) (i:Int) d c p0 p1 p2 (0:Int)) fun r=>r=(true,[Nm t a b e,.Z 5 l,.int .i64 ((i+1:Nat):Int),.int .i64 d,.int .i64 c,.int .i64 p0,.int .i64 p1,.int .i64 p2,.int .i64 0]):=by
 refine U.eq (fun n=>iX n l i d c p0 p1 p2 0) (U.A0 (K8 h) ?_)
 intro _ ds h0;cases h0;refine⟨rfl,U.Xu rfl (U.A0 (gJ hl h hg) ?_)⟩
 intro _ ds h0;cases h0;refine⟨rfl,U.Xu rfl (U.A0 (C1 h2 (by rw [hb];rfl)) ?_)⟩
 intro _ ds h0;cases h0;exact⟨rfl,U.Xu rfl (U.Xu rfl (U.ret rfl))⟩
theorem Rq {i:Nat}{t t2:Zt}{k2 a b e a2 b2 e2:Int}(h:l[i]? = some (tk 1 t a b e))(hg:Eh t=true)(h2:l[i+1]? = some (tk k2 t2 a2 b2 e2))(hb:(t2==[91])=false)(hb2:(t2==[40])=false) :
  U (fun n=>Z8 n (.Z 5 l) (i:Int) d c p0 p1 p2 (0:Int)) fun r=>r=(true,[Nm t a b e,.Z 5 l,.int .i64 ((i+1:Nat):Int),.int .i64 d,.int .i64 c,.int .i64 p0,.int .i64 p1,.int .i64 p2,.int .i64 0]):=by
 simp only [Eh,Xz,Zd] at hg
 obtain⟨⟨⟨⟨g1,g2⟩,g3⟩,g4⟩,g5⟩:=hg
 refine U.eq (fun n=>V3 n l i d c p0 p1 p2 0) (U.A0 (K8 h) ?_)
 intro _ ds h0;cases h0;refine⟨rfl,U.Xu rfl (U.no rfl (U.A0 (C1 h (by rw [g2];rfl)) ?_))⟩
 intro _ ds h0;cases h0;refine⟨rfl,U.Xu rfl (U.no rfl (U.A0 (C1 h (by rw [g3];rfl)) ?_))⟩
 intro _ ds h0;cases h0;refine⟨rfl,U.Xu rfl (U.no rfl (U.A0 (dF _ h) ?_))⟩
 intro _ ds h0;cases h0;refine⟨rfl,U.Xu rfl (U.no (by show (_&&_)=false;rw [g4];rfl) (U.A0 (dF _ h) ?_))⟩
 intro _ ds h0;cases h0;refine⟨rfl,U.Xu rfl (U.no (by show (_&&_)=false;rw [g5];rfl) (U.A0 (JG hl h g1 h2 hb) ?_))⟩
 intro _ ds h0;cases h0;refine⟨rfl,U.Xu rfl (U.Xu rfl (U.A0 (dF [40] h2) ?_))⟩
 intro _ ds h0;cases h0;refine⟨rfl,U.Xu rfl (G4 (fun n=>cG.eq_1 n _ _ _ _ _ _ _ _ _ _ _) (U.no (by show (_&&_)=false;rw [hb2];rfl) (U.ret rfl)))⟩
end
end
section
section
variable {l:List D} {d c p0 p1 p2:Int}
theorem gN (i:Int)(hd:d<40)(hd0:0≤d):U (fun n=>P7 n (.Z 5 l) i d c p0 p1 p2 (0:Int)) fun r=>r=(true,[.bool true,.Z 5 l,.int .i64 i,.int .i64 (d+1),.int .i64 c,.int .i64 p0,.int .i64 p1,.int .i64 p2,.int .i64 0]):=by
 have w1:IntKind.i64.wrap (d+1)=d+1:=J0 (by omega) (by omega)
 exact U.eq (fun n=>BQ n l i d c p0 p1 p2 0) (U.no (Zk (by rw [w1];omega)) (U.ret (by rw [w1];rfl)))
theorem cM (i:Int)(hd:d<40)(hd0:0≤d):U (fun n=>C9 n (.Z 5 l) i (d+1:Int) c p0 p1 p2 (0:Int)) fun r=>r=(true,[.Z 5 l,.int .i64 i,.int .i64 d,.int .i64 c,.int .i64 p0,.int .i64 p1,.int .i64 p2,.int .i64 0]):=by
 have w2:IntKind.i64.wrap (d+1-1)=d:=by rw [J0 (by omega) (by omega)];omega
 exact U.eq (fun n=>zK n l i (d+1) c p0 p1 p2 0) (U.ret (by rw [w2]))
theorem P6 (i:Int)(hc:c<4000)(hc0:0≤c):U (fun n=>Q0 n (.Z 5 l) i d c p0 p1 p2 (0:Int)) fun r=>r=(true,[.Z 5 l,.int .i64 i,.int .i64 d,.int .i64 (c+1),.int .i64 p0,.int .i64 p1,.int .i64 p2,.int .i64 0]):=by
 have w1:IntKind.i64.wrap (c+1)=c+1:=J0 (by omega) (by omega)
 exact U.eq (fun n=>sG n l i d c p0 p1 p2 0) (U.no (Zk (by rw [w1];omega)) (U.ret (by rw [w1])))
theorem H8 {i:Nat}{k a b e:Int}{w:Zt}(h:l[i]? = some (tk k w a b e))(hk:(k !=2)=true):CI l i [w]:=by
 intro j hj
 have:j=0:=by simpa using hj
 subst this
 exact⟨k,a,b,e,h,hk⟩
def AI (a b e:Int)(u v:D):D:= .agg [.int .i64 4,.int .i64 a,.int .i64 b,.int .i64 e,.str [],.str [],.bool false,.Z 6 [u,v],.Z 6 [],.Z 8 [],.Z 14 [],.Z 14 [],.Z 5 [],.Z 5 []]
end
end
section
def C4 (l:List D):Nat→List Tk→Prop
 |_,[]=>True
 |i,w::ws=>(∃ a b e,l[i]? = some (tk w.1 w.2 a b e))∧C4 l (i+1) ws
theorem C7 {l:List D}:∀ {u:List Tk} {i:Nat} {v:List Tk},C4 l i (u++v)↔C4 l i u∧C4 l (i+u.length) v
 |[],i,v=>by simp [C4]
 |w::u,i,v=>by
  have:=C7 (l:=l) (u:=u) (i:=i+1) (v:=v)
  simp only [List.cons_append,C4,this,Xw,and_assoc]
  rw [show i+1+u.length=i+(u.length+1) from by omega]
def PE (k a b e:Int)(t:Zt)(ar:List D):D:= .agg [.int .i64 k,.int .i64 a,.int .i64 b,.int .i64 e,.str t,.Z 6 ar]
def Sm:Nat→D→D→Prop
 |0,_,_=>False
 |n+1,x,y=>∃ k t ar a b e ar',x=E k t ar∧y=PE k a b e t ar'∧F2 (Sm n) ar ar'
def JO (y:D):Prop:=∃ v0 v1 v2 v3 vt vs,y = .agg [.int .i64 v0,.int .i64 v1,.int .i64 v2,.int .i64 v3,.str vt,.Z 6 vs]
theorem bG {n:Nat}{x y:D}(h:Sm n x y):JO y:=by
 cases n with
 |zero=>exact h.elim
 |succ n=>obtain⟨k,t,ar,a,b,e,ar',_,rfl,_⟩:=h;exact⟨_,_,_,_,_,_,rfl⟩
abbrev PF:=Nat→D→D→D→D→D→D→D→D→Out
def Ph (F:PF)(l:List D)(i m:Nat)(R:D→Prop)(h:Nat):Prop:=
 ∀ d c p0 p1 p2:Int,0≤d→d+h≤40→U (fun n=>F n (.Z 5 l) (i:Int) d c p0 p1 p2 (0:Int)) fun r=>∃ y,R y∧r=(true,[y,.Z 5 l,.int .i64 ((i+m:Nat):Int),.int .i64 d,.int .i64 c,.int .i64 p0,.int .i64 p1,.int .i64 p2,.int .i64 0])
theorem Ph.mono {F:PF}{l:List D}{i m:Nat}{R R':D→Prop}{h h':Nat}(H:Ph F l i m R h)(hr:∀ y,R y→R' y)(hh:h≤h'):Ph F l i m R' h':=by
 intro d c p0 p1 p2 hd hd2
 exact (H d c p0 p1 p2 hd (by omega)).mono fun r ⟨y,hy,e⟩=>⟨y,hr y hy,e⟩
def Nx (l:List D)(i:Nat)(p:Zt→Bool):Prop:=∃ t a b e,l[i]? = some (tk 3 t a b e)∧p t=true
theorem Nx.mono {l:List D}{i:Nat}{p q:Zt→Bool}(h:Nx l i p)(hpq:∀ t,p t=true→q t=true):Nx l i q:=by
 obtain⟨t,a,b,e,h1,h2⟩:=h
 exact⟨t,a,b,e,h1,hpq t h2⟩
def Ql:List Zt:=[[41],[93],[125],[44],[59],[58],[123]]
def cl (t:Zt):Bool:=Ql.contains t
def cu (t:Zt):Bool:=Ql.contains t||xJ.contains t||t==[63]
theorem Tx (t:Zt)(h:cl t=true):cu t=true:=by unfold cu;rw [show Ql.contains t=true from h];rfl
def sD (j:Nat)(t:Zt):Bool:=decide (t.length≤3)&&(List.range 10).all fun i=>decide (i<j)||!decide (0≤X9 (([32]++t)++[32]) (YZ[i]?.getD []) 0)
theorem CU:(([63]::Ql).all (sD 0))=true:=by kernel_rfl
theorem CT {t:Zt}(h:cl t=true)(j:Nat):sD j t=true:=by
 have:=Yg.1 CU t (Yk _ (by simpa [cl] using h))
 simp only [sD,Xz,Yg,List.mem_range,Bool.or_eq_true] at this ⊢
 refine⟨this.1,fun i hi=>?_⟩
 rcases this.2 i hi with h|h
 ·exact absurd (Zj h) (by omega)
 ·exact .inr h
theorem Nt (j:Nat):sD j [63]=true:=by
 have:=Yg.1 CU [63] (Yi ..)
 simp only [sD,Xz,Yg,List.mem_range,Bool.or_eq_true] at this ⊢
 refine⟨this.1,fun i hi=>?_⟩
 rcases this.2 i hi with h|h
 ·exact absurd (Zj h) (by omega)
 ·exact .inr h
theorem Jl {o:Zt}(ho:o∈xJ):sD (IP o+1) o=true:=by
 simp only [sD,Xz,Yg,List.mem_range,Bool.or_eq_true]
 refine⟨Zi (SR ho),fun i hi=>?_⟩
 rw [Pa ho hi]
 by_cases h:i<IP o+1
 ·exact .inl (Zi h)
 ·refine .inr ?_
  rw [Zn.2 (by omega:IP o≠i)];rfl
theorem Jf {j i:Nat}{t:Zt}(h:sD j t=true)(hi:i<10)(hj:j≤i):decide (0≤X9 (([32]++t)++[32]) (YZ[i]?.getD []) 0)=false:=by
 simp only [sD,Xz,Yg,List.mem_range,Bool.or_eq_true] at h
 rcases h.2 i hi with h|h
 ·exact absurd (Zj h) (by omega)
 ·simpa using h
section
variable {l:List D} (hl:l.length≤1000000)
def Xd (l:List D)(i:Nat)(d c p0 p1 p2:Int)(j:Nat)(a b e:Int)(R:D→Prop)(r:Bool×List D):Prop:=
 ∃ u0 u1 u2 u3 su us,R (.agg [.int .i64 u0,.int .i64 u1,.int .i64 u2,.int .i64 u3,.str su,.Z 6 us])∧
  r=(false,[.int .i64 (j:Int),.Z 5 l,.int .i64 (i:Int),.int .i64 d,.int .i64 c,.int .i64 p0,.int .i64 p1,.int .i64 p2,.int .i64 0,.int .i64 0,.int .i64 0,.int .i64 0,.int .i64 0,.str [],.int .i64 a,.int .i64 b,.int .i64 e,.int .i64 u0,.int .i64 u1,.int .i64 u2,.int .i64 u3,.str su,.Z 6 us,.Z 6 []])
theorem Bl {j:Nat}(hj:j<10){i:Nat}{d c p0 p1 p2:Int}{t:Zt}{a1 b1 e1 a b e k0 k1 k2 k3:Int}{s0:Zt}{xs0:List D}{Q:Bool×List D→Prop}(ht:l[i]? = some (tk 3 t a1 b1 e1))(hlen:t.length≤3)
  (K:∀ r1,r1=[tk 3 t a1 b1 e1,.Z 5 l,.int .i64 (i:Int),.int .i64 d,.int .i64 c,.int .i64 p0,.int .i64 p1,.int .i64 p2,.int .i64 0]→U (fun n=>Y4 n (!decide (0≤X9 (([32]++t)++[32]) (YZ[j]?.getD []) 0)) (j:Int) r1 0 0 0 0 [] a b e k0 k1 k2 k3 s0 xs0 []) Q) :
  U (fun n=>L3 n (j:Int) (.Z 5 l) (i:Int) d c p0 p1 p2 (0:Int) (0:Int) (0:Int) (0:Int) (0:Int) (.str []) a b e k0 k1 k2 k3 (.str s0) (.Z 6 xs0) (.Z 6 [])) Q:=by
 have hX:((YZ.map D.str)[((j:Nat):Int).toNat]?.getD D.top) = .str (YZ[j]?.getD []):=by
  rw [show ((j:Nat):Int).toNat=j from rfl,List.getElem?_map,Ym (show j<YZ.length from hj)];rfl
 have hXs:((YZ.map D.str)[((j:Nat):Int).toNat]?.getD D.top).s=YZ[j]?.getD []:=congrArg D.s hX
 have hXl:((YZ.map D.str)[((j:Nat):Int).toNat]?.getD D.top).s.length≤4294967280:=by
  rw [hXs,Ym (show j<YZ.length from hj)]
  exact Nat.le_trans (Re _ (Yr _)) (by decide)
 refine U.eq (fun n=>rQ n _ l _ _ _ _ _ _ _ _ _ _ _ _ _ _ _ _ _ _ _ _ _ _) (U.Xu rfl (U.A0 (K8 (d:=d) (c:=c) (p0:=p0) (p1:=p1) (p2:=p2) ht) ?_))
 intro _ ds h0;cases h0
 refine⟨rfl,U.Xu rfl (U.no rfl (U.Xu (C6 (Zi (by omega)) (Zi (by omega))) (U.Xu (by exact congrArg (fun x=>D7 (.leaf .str)&&J3 (.leaf .str) x) hX) (U.Xu (Zi (by show 1+t.length≤S6;simp only [S6];omega)) (U.Xu (Zi (by show ([32]++t).length+1≤S6;simp only [S6,Xx,Yu];omega)) (U.A0 (fN (s:=((YZ.map D.str)[((j:Nat):Int).toNat]?.getD D.top).s) hXl (([32]++t)++[32])) ?_))))))⟩
 intro _ ds h0;cases h0
 refine⟨rfl,U.Xu rfl ?_⟩
 have:=K _ rfl
 rw [← hXs] at this
 exact this
theorem It {j:Nat}(hj:j<10){i:Nat}{d c p0 p1 p2:Int}{p:Zt→Bool}(hn:Nx l i p)(hp:∀ t,p t=true→sD j t=true){a b e k0 k1 k2 k3:Int}{s0:Zt}{xs0:List D}{R:D→Prop}
  (hr:R (.agg [.int .i64 k0,.int .i64 k1,.int .i64 k2,.int .i64 k3,.str s0,.Z 6 xs0])) :
  U (fun n=>L3 n (j:Int) (.Z 5 l) (i:Int) d c p0 p1 p2 (0:Int) (0:Int) (0:Int) (0:Int) (0:Int) (.str []) a b e k0 k1 k2 k3 (.str s0) (.Z 6 xs0) (.Z 6 [])) (Xd l i d c p0 p1 p2 j a b e R):=by
 obtain⟨t,a1,b1,e1,ht,h2⟩:=hn
 have hno:=hp t h2
 have hlen:t.length≤3:=by simp only [sD,Xz] at hno;exact Zj hno.1
 refine Bl hj (d:=d) (c:=c) (p0:=p0) (p1:=p1) (p2:=p2) ht hlen fun r1 hr1=>?_
 rw [Jf hno hj (Yj _)]
 subst hr1
 exact G4 (fun n=>Y4.eq_1 n _ _ _ _ _ _ _ _ _ _ _ _ _ _ _ _ _ _) (U.Xu rfl (U.ret ⟨k0,k1,k2,k3,s0,xs0,hr,rfl⟩))
noncomputable def YY (j:Nat):PF:=fun n=>L7 n (j:Int)
theorem sA {i m:Nat}{R:D→Prop}{h:Nat}(hR:∀ y,R y→JO y){p:Zt→Bool}(hn:Nx l (i+m) p)(hx:∃ k t a b e,l[i]? = some (tk k t a b e)):∀ (q j:Nat),j+q≤10→(∀ t,p t=true→sD j t=true)→Ph (YY (j+q)) l i m R h→Ph (YY j) l i m R h
 |0,j,_,_,H=>H
 |q+1,j,hq,hp,H=>by
  have H1:Ph (YY (j+1)) l i m R h:=sA hR hn hx q (j+1) (by omega) (fun t ht=>by
   have:=hp t ht
   simp only [sD,Xz,Yg,List.mem_range,Bool.or_eq_true] at this ⊢
   refine⟨this.1,fun i hi=>?_⟩
   rcases this.2 i hi with h|h
   ·exact .inl (Zi (by have:=Zj h;omega))
   ·exact .inr h) (by rw [show j+1+q=j+(q+1) from by omega];exact H)
  intro d c p0 p1 p2 hd hd2
  obtain⟨k,t,a,b,e,ht⟩:=hx
  have I:=H1 d c p0 p1 p2 hd hd2
  unfold YY at I ⊢
  rw [← H7 (by omega)] at I
  refine U.eq (fun n=>gX n _ l i d c p0 p1 p2 0) (U.no (Zn.2 (by omega)) (U.A0 (K8 (d:=d) (c:=c) (p0:=p0) (p1:=p1) (p2:=p2) ht) ?_))
  intro _ ds h0;cases h0
  refine⟨rfl,U.Xu rfl (U.A0 I ?_)⟩
  rintro _ ds ⟨y,hy,h0⟩
  cases h0
  obtain⟨v0,v1,v2,v3,vt,vs,rfl⟩:=hR y hy
  refine⟨rfl,U.Xu rfl (U.D4 (It (l:=l) (i:=i+m) (d:=d) (c:=c) (p0:=p0) (p1:=p1) (p2:=p2) (R:=R) (by omega) hn hp hy) (fun ds h=>by obtain⟨_,_,_,_,_,_,_,h⟩:=h;cases h) fun ds h=>?_)⟩
  obtain⟨u0,u1,u2,u3,su,us,hr,h⟩:=h
  cases h
  exact U.Xu rfl (U.ret ⟨_,hr,rfl⟩)
theorem qY {i m:Nat}{R:D→Prop}{h:Nat}(hR:∀ y,R y→JO y)(H:Ph (fun n=>L8 n) l i m R h):Ph (YY 10) l i m R h:=by
 intro d c p0 p1 p2 hd hd2
 refine U.eq (fun n=>gX n _ l i d c p0 p1 p2 0) (U.Xu rfl (U.A0 (H d c p0 p1 p2 hd hd2) ?_))
 rintro _ ds ⟨y,hy,h0⟩
 cases h0
 obtain⟨v0,v1,v2,v3,vt,vs,rfl⟩:=hR y hy
 exact⟨rfl,U.Xu rfl (U.ret ⟨_,hy,rfl⟩)⟩
include hl
theorem Dv {i m1 m2:Nat}{R1 R2:D→Prop}{h:Nat}{o:Zt}(ho:o∈xJ)(hR1:∀ y,R1 y→JO y)(hR2:∀ y,R2 y→JO y)(hx:∃ k t a b e,l[i]? = some (tk k t a b e))
  (H1:Ph (fun n=>L8 n) l i m1 R1 h) (hop:∃ a b e,l[i+m1]? = some (tk 3 o a b e)) (hx2:∃ k t a b e,l[i+m1+1]? = some (tk k t a b e))
  (H2:Ph (fun n=>L8 n) l (i+m1+1) m2 R2 h) (hn:Nx l (i+m1+1+m2) cl) :
  Ph (YY 0) l i (m1+1+m2) (fun y=>∃ a b e u v,y=PE 4 a b e o [u,v]∧R1 u∧R2 v) h:=by
 have hlo:=Rd ho
 have hR:∀ y,(∃ a b e u v,y=PE 4 a b e o [u,v]∧R1 u∧R2 v)→JO y:=fun y ⟨a,b,e,u,v,hy,_⟩=>⟨_,_,_,_,_,_,hy⟩
 have hnx:Nx l (i+(m1+1+m2)) cl:=by rw [show i+(m1+1+m2)=i+m1+1+m2 from by omega];exact hn
 refine sA hR hnx hx (IP o) 0 (by omega) (fun t ht=>CT ht _) ?_
 rw [Yp]
 obtain⟨a2,b2,e2,hop⟩:=hop
 have L1:Ph (YY (IP o+1)) l i m1 R1 h:=sA hR1 (p:=fun t=>t==o) ⟨o,a2,b2,e2,hop,Zm _⟩ hx (10-(IP o+1)) (IP o+1) (by omega) (fun t ht=>by rw [eq_of_beq ht];exact Jl ho) (by
  rw [show IP o+1+(10-(IP o+1))=10 from by omega];exact qY hR1 H1)
 have L2:Ph (YY (IP o+1)) l (i+m1+1) m2 R2 h:=sA hR2 hn hx2 (10-(IP o+1)) (IP o+1) (by omega) (fun t ht=>CT ht _) (by
  rw [show IP o+1+(10-(IP o+1))=10 from by omega];exact qY hR2 H2)
 intro d c p0 p1 p2 hd hd2
 obtain⟨k,t,a,b,e,ht⟩:=hx
 have I1:=L1 d c p0 p1 p2 hd hd2
 have I2:=L2 d c p0 p1 p2 hd hd2
 have hil:=EB hop
 unfold YY at I1 I2 ⊢
 rw [show i+m1+1+m2=i+(m1+1+m2) from by omega] at I2
 rw [← H7 (by omega)] at I1 I2
 rw [← H7 (j:=i+m1) (by omega)] at I2
 refine U.eq (fun n=>gX n _ l i d c p0 p1 p2 0) (U.no (Zn.2 (by omega)) (U.A0 (K8 (d:=d) (c:=c) (p0:=p0) (p1:=p1) (p2:=p2) ht) ?_))
 intro _ ds h0;cases h0
 refine⟨rfl,U.Xu rfl (U.A0 I1 ?_)⟩
 rintro _ ds ⟨y,hy,h0⟩
 cases h0
 obtain⟨v0,v1,v2,v3,vt,vs,rfl⟩:=hR1 y hy
 refine⟨rfl,U.Xu rfl (U.D4 (Q:=Xd l (i+(m1+1+m2)) d c p0 p1 p2 (IP o) a b e fun y=>∃ a b e u v,y=PE 4 a b e o [u,v]∧R1 u∧R2 v) ?_ (fun ds h=>by obtain⟨_,_,_,_,_,_,_,h⟩:=h;cases h) fun ds h=>?_)⟩
 ·refine Bl (l:=l) (i:=i+m1) (d:=d) (c:=c) (p0:=p0) (p1:=p1) (p2:=p2) (j:=IP o) (by omega) hop (SR ho) fun r1 hr1=>?_
  rw [Pa ho (by omega),Zm]
  subst hr1
  refine G4 (fun n=>Y4.eq_1 n _ _ _ _ _ _ _ _ _ _ _ _ _ _ _ _ _ _) (U.no rfl (U.A0 (Jm ho) ?_))
  intro _ ds h0;cases h0
  refine⟨rfl,U.Xu rfl (U.A0 I2 ?_)⟩
  rintro _ ds ⟨z,hz,h0⟩
  cases h0
  obtain⟨w0,w1,w2,w3,wt,ws,rfl⟩:=hR2 z hz
  refine⟨rfl,U.Xu rfl ?_⟩
  exact It (l:=l) (i:=i+(m1+1+m2)) (d:=d) (c:=c) (p0:=p0) (p1:=p1) (p2:=p2) (j:=IP o) (by omega) hnx (fun t ht=>CT ht _) ⟨_,_,_,_,_,rfl,hy,hz⟩
 ·obtain⟨u0,u1,u2,u3,su,us,hr,h⟩:=h
  cases h
  exact U.Xu rfl (U.ret ⟨_,hr,rfl⟩)
end
end
def Rl (R:D→D→Prop)(xs ys:List D):Prop:=xs.length=ys.length∧∀ (i:Nat) (h:i<xs.length) (h':i<ys.length),R xs[i] ys[i]
theorem Rl.refl {R:D→D→Prop}{xs:List D}(h:∀ x∈xs,R x x):Rl R xs xs:=⟨rfl,fun i hi _=>h _ (Yr hi)⟩
theorem yW {R:D→D→Prop}{Q:Bool×List D→Prop}{xs:List D}{T:Int→List D→Nat→Out}(hl:xs.length≤1000)
  (step:∀ (j:Nat) (acc:List D) (hj:j<xs.length),acc.length=j→(∀ y,R xs[j] y→U (T (IntKind.i64.wrap ((j:Int)+1)) (acc++[y])) Q)→U (T (j:Int) acc) Q)
  (fin:∀ acc,Rl R xs acc→U (T (xs.length:Int) acc) Q):U (T 0 []) Q:=by
 have aux:∀ (m j:Nat) (acc:List D),xs.length-j=m→j≤xs.length→acc.length=j→(∀ (i:Nat) (h:i<xs.length) (h':i<acc.length),R xs[i] acc[i])→U (T (j:Int) acc) Q:=by
  intro m
  induction m with
  |zero=>
   intro j acc hm hj ha hr
   have:j=xs.length:=by omega
   subst this
   exact fin acc ⟨ha.symm,hr⟩
  |succ m ih=>
   intro j acc hm hj ha hr
   refine step j acc (by omega) ha fun y hy=>?_
   rw [H7 (by omega)]
   refine ih (j+1) _ (by omega) (by omega) (by simp [ha]) fun i h h'=>?_
   by_cases hi:i<acc.length
   ·rw [Zp hi];exact hr i h hi
   ·have e:i=j:=by simp at h';omega
    subst e
    rw [List.getElem_append_right (by omega)]
    simpa [ha] using hy
 exact aux xs.length 0 [] rfl (Yo _) rfl fun i h h'=>absurd h' (by simp)
theorem oA {d:Nat}{xs:List D}(hl:xs.length≤10)(h:∀ x∈xs,bS d x):U (fun n=>J9 n (.Z 6 xs)) fun r=>r=(true,[.Z 6 xs]):=by
 refine U.eq (fun n=>qV n xs) ?_
 refine U.D4 (Q:=fun r=>∃ q ys,r=(false,[.Z 6 xs,.int .i64 (xs.length:Int),.int .i64 q,.Z 6 ys])∧Rl (fun x y=>y=x) xs ys) ?_ (fun ds h=>by obtain⟨_,_,h,_⟩:=h;cases h) fun ds h=>?_
 ·refine yW (xs:=xs) (R:=fun x y=>y=x) (T:=fun j acc n=>S9 n (.Z 6 xs) (xs.length:Int) j (.Z 6 acc)) (by omega) (fun j acc hj ha K=>?_) fun acc hr=>?_
  ·refine U.eq (fun n=>dZ n xs _ _ _) (U.Xu (Zi (by omega)) (U.Xu (G9 hj) ?_))
   have hw:=h xs[j] (Yr hj)
   obtain⟨e1,e2⟩:=Ci hw
   rw [X7 hj,e1,e2]
   refine U.Xu rfl (U.A0 (Rz d xs[j] hw) ?_)
   intro b ds h;cases h;refine⟨rfl,?_⟩
   refine U.Xu (show B7 Y0.B2 [xs[j]]=true by have:=e2;simp only [B7,Y0.B2,nN,IL,gZ,mQ] at this ⊢;simp [show J3 B1 xs[j]=true from e2]) ?_
   refine U.Xu (Yc (by simp only [D8];omega)) ?_
   rw [show C0 B1 (Y [xs[j]] 0)=xs[j] from e1]
   exact K _ rfl
  ·exact U.eq (fun n=>dZ n xs _ _ _) (U.no (Zk (by omega)) (U.ret ⟨_,acc,rfl,hr⟩))
 ·obtain⟨q,ys,h,hr⟩:=h
  cases h
  have:ys=xs:=List.ext_getElem hr.1.symm fun i h1 h2=>hr.2 i h2 h1
  subst this
  exact U.Xu rfl (U.ret rfl)
def Xk (es:List D):Prop:=es.length≤10∧∀ e∈es,bS 4 e
def OE:Nat→D→D→Prop
 |0,_,_=>False
 |n+1,x,y=>∃ k t ar a b e ar',x=E k t ar∧y=PE k a b e t ar'∧CB k t ar.length∧Rl (OE n) ar ar'
theorem Ah:∀ {n:Nat} {x:D},bS n x→OE n x x
 |0,_,h=>h.elim
 |n+1,_,⟨k,t,ar,e,h1,h2⟩=>by
  subst e
  exact⟨k,t,ar,0,0,0,ar,rfl,rfl,h1,Rl.refl fun x hx=>Ah (h2 x hx)⟩
theorem Y7 {n:Nat}{x y:D}(h:OE n x y):∃ k t ar a b e ar',x=E k t ar∧y=PE k a b e t ar':=by
 cases n with
 |zero=>exact h.elim
 |succ n=>obtain⟨k,t,ar,a,b,e,ar',h1,h2,_⟩:=h;exact⟨k,t,ar,a,b,e,ar',h1,h2⟩
theorem Ga {R:D→D→Prop}:∀ {xs ys:List D},F2 R xs ys→Rl R xs ys
 |_,_,.nil=>⟨rfl,fun i h=>absurd h (by simp)⟩
 |_,_,.cons h hs=>by
  obtain⟨h1,h2⟩:=Ga hs
  refine⟨by simp [h1],fun i hi hi'=>?_⟩
  cases i with
  |zero=>exact h
  |succ i=>exact h2 i (by simpa using hi) (by simpa using hi')
theorem Rl.mono {R Q:D→D→Prop}{xs ys:List D}(h:Rl R xs ys)(hq:∀ x∈xs,∀ y,R x y→Q x y):Rl Q xs ys:=
 ⟨h.1,fun i hi hi'=>hq _ (Yr hi) _ (h.2 i hi hi')⟩
theorem ON:∀ {n:Nat} {x y:D},bS n x→Sm n x y→OE n x y
 |0,_,_,h,_=>h.elim
 |n+1,_,_,⟨k,t,ar,e,h1,h2⟩,⟨k',t',ar',a,b,c,ar'',e',hy,hf⟩=>by
  subst e
  cases e'
  exact⟨k,t,ar,a,b,c,ar'',rfl,hy,h1,(Ga hf).mono fun x hx y h=>ON (h2 x hx) h⟩
def fL (es es':List D):Prop:=Xk es∧Rl (OE 4) es es'
theorem vL {es:List D}(h:Xk es):fL es es:=⟨h,Rl.refl fun x hx=>Ah (h.2 x hx)⟩
def AT (k i j l:Int)(t:Zt)(es bs zs:List D):D:= .agg [.int .i64 k,.int .i64 i,.int .i64 j,.int .i64 l,.str t,.Z 6 es,.Z 8 bs,.Z 9 zs]
def AA (es:List D)(k i j l:Int)(t:Zt)(fs bs zs:List D):D:= .agg [.Z 6 es,.int .i64 k,.int .i64 i,.int .i64 j,.int .i64 l,.str t,.Z 6 fs,.Z 8 bs,.Z 9 zs]
def OA (R:D→D→Prop)(x y:D):Prop:=∃ es es' k i j l t fs bs zs fs' bs' zs',x=arm es (S k t fs bs zs)∧y=AA es' k i j l t fs' bs' zs'∧fL es es'∧R (S k t fs bs zs) (AT k i j l t fs' bs' zs')
def OS:Nat→D→D→Prop
 |0,_,_=>False
 |n+1,x,y=>∃ k i j l t es bs zs es' bs' zs',x=S k t es bs zs∧y=AT k i j l t es' bs' zs'∧fL es es'∧bs.length≤10∧zs.length≤10∧Rl (OS n) bs bs'∧Rl (OA (OS n)) zs zs'
theorem Eo {n:Nat}{k:Int}{t:Zt}{es bs zs:List D}(h:Ka n k t es bs zs):es.length≤10∧bs.length≤10∧zs.length≤10:=by
 rcases h with ⟨_,_,rfl,h,rfl⟩|⟨_,_,⟨l,e,rfl,_⟩,rfl,rfl⟩|⟨_,_,h,⟨b,c,rfl,_⟩,rfl⟩|⟨_,_,h,rfl,_,h2⟩|⟨_,_,h,h2,rfl⟩|⟨_,_,h,rfl,rfl⟩|⟨_,_,rfl,rfl,rfl⟩<;>
  refine⟨?_,?_,?_⟩<;>first|decide|omega|(simp only [Xw,Xy];omega)
theorem Ez:∀ (d:Nat) (xs:List D),xs.length≤10→(∀ x∈xs,qL d x)→U (fun n=>Z5 n (.Z 5 xs)) fun r=>∃ ys,r=(true,[.Z 8 ys])∧Rl (OS d) xs ys:=by
 intro d
 induction d with
 |zero=>
  intro xs hl h
  cases xs with
  |cons x xs=>exact (h x Yi).elim
  |nil=>
   refine U.eq (fun n=>wZ n []) (U.D4 (Q:=fun r=>r=(false,[.Z 5 [],.int .i64 0,.int .i64 0,.Z 8 []])) (U.eq (fun n=>lP n _ _ _ _) (U.no rfl (U.ret rfl))) (fun ds h=>by cases h) fun ds h=>?_)
   cases h
   exact U.Xu rfl (U.ret ⟨[],rfl,rfl,fun i h=>absurd h (by simp)⟩)
 |succ d ih=>
  intro xs hl h
  refine U.eq (fun n=>wZ n xs) ?_
  refine U.D4 (Q:=fun r=>∃ q ys,r=(false,[.Z 5 xs,.int .i64 (xs.length:Int),.int .i64 q,.Z 8 ys])∧Rl (OS (d+1)) xs ys) ?_ (fun ds h=>by obtain⟨_,_,h,_⟩:=h;cases h) fun ds h=>?_
  ·refine yW (xs:=xs) (R:=OS (d+1)) (T:=fun j acc n=>aF n (.Z 5 xs) (xs.length:Int) j (.Z 8 acc)) (by omega) (fun j acc hj ha K=>?_) fun acc hr=>?_
   ·refine U.eq (fun n=>lP n xs _ _ _) (U.Xu (Zi (by omega)) (U.Xu (G9 hj) ?_))
    obtain⟨k,t,es,bs,zs,e,he,hb,hz,hsh⟩:=h xs[j] (Yr hj)
    obtain⟨le,lb,lz⟩:=Eo hsh
    rw [X7 hj,e]
    rw [e] at K
    refine U.Xu rfl (U.A0 (oA (xs:=es) le he) ?_)
    intro b ds h;cases h;refine⟨rfl,?_⟩
    refine U.Xu rfl (U.A0 (ih bs lb hb) ?_)
    rintro b ds ⟨bs',h,hbs⟩;cases h;refine⟨rfl,?_⟩
    refine U.Xu rfl (U.D4 (Q:=fun r=>∃ q zs',r=(false,[.Z 5 xs,.int .i64 (xs.length:Int),.int .i64 (j:Int),.Z 6 zs,.int .i64 (zs.length:Int),.int .i64 q,.Z 8 acc,.int .i64 k,.int .i64 0,.int .i64 0,.int .i64 0,.str t,.Z 6 es,.Z 8 bs',.Z 9 zs'])∧Rl (OA (OS d)) zs zs') ?_ (fun ds h=>by obtain⟨_,_,h,_⟩:=h;cases h) fun ds h=>?_)
    ·refine yW (xs:=zs) (R:=OA (OS d)) (T:=fun i acc2 n=>aG n (.Z 5 xs) (xs.length:Int) (j:Int) (.Z 6 zs) (zs.length:Int) i (.Z 8 acc) k (0:Int) (0:Int) (0:Int) (.str t) (.Z 6 es) (.Z 8 bs') (.Z 9 acc2)) (by omega) (fun i acc2 hi ha2 K2=>?_) fun acc2 hr=>?_
     ·refine U.eq (fun n=>qX n _ _ _ _ _ _ _ _ _ _ _ _ _ _ _) (U.Xu (Zi (by omega)) (U.Xu (G9 hi) ?_))
      obtain⟨es2,s,e2,l2,he2,hs⟩:=hz zs[i] (Yr hi)
      rw [X7 hi,e2]
      rw [e2] at K2
      cases d with
      |zero=>exact hs.elim
      |succ d=>
       have hs0:=hs
       obtain⟨k3,t3,fs,bs3,zs3,rfl,_⟩:=hs
       refine U.Xu rfl (U.A0 (oA (xs:=es2) (by omega) he2) ?_)
       intro b ds h;cases h;refine⟨rfl,?_⟩
       refine U.Xu rfl (U.A0 (ih [S k3 t3 fs bs3 zs3] (by simp) (oL hs0)) ?_)
       rintro b ds ⟨ys,h,hys⟩;cases h;refine⟨rfl,?_⟩
       obtain⟨y,rfl⟩:∃ y,ys=[y]:=by
        match ys,hys.1 with
        |[y],_=>exact⟨y,rfl⟩
       have hy:=hys.2 0 (by simp) (by simp)
       have hy:OS (d+1) (S k3 t3 fs bs3 zs3) y:=hy
       have hy0:=hy
       obtain⟨k4,i4,j4,l4,t4,fs4,bs4,zs4,fs5,bs5,zs5,e4,rfl,_⟩:=hy
       cases e4
       refine U.Xu rfl (U.Xu rfl (U.Xu rfl (U.Xu (Yc (by simp only [D8];omega)) ?_)))
       exact K2 (AA es2 k3 i4 j4 l4 t3 fs5 bs5 zs5) ⟨es2,es2,k3,i4,j4,l4,t3,fs,bs3,zs3,fs5,bs5,zs5,rfl,rfl,vL ⟨by omega,he2⟩,hy0⟩
     ·exact U.eq (fun n=>qX n _ _ _ _ _ _ _ _ _ _ _ _ _ _ _) (U.no (Zk (by omega)) (U.ret ⟨_,acc2,rfl,hr⟩))
    ·obtain⟨q,zs',h,hzs⟩:=h
     cases h
     refine U.Xu rfl (U.Xu (Yc (by show acc.length+1≤D8;simp only [D8];omega)) ?_)
     exact K (AT k 0 0 0 t es bs' zs') ⟨k,0,0,0,t,es,bs,zs,es,bs',zs',rfl,rfl,vL ⟨le,he⟩,lb,lz,hbs,hzs⟩
   ·exact U.eq (fun n=>lP n xs _ _ _) (U.no (Zk (by omega)) (U.ret ⟨_,acc,rfl,hr⟩))
  ·obtain⟨q,ys,h,hr⟩:=h
   cases h
   exact U.Xu rfl (U.ret ⟨ys,rfl,hr⟩)
def AC (nm:Zt)(i j l:Int)(es:List D):D:= .agg [.str nm,.int .i64 i,.int .i64 j,.int .i64 l,.Z 6 es]
def OC (x y:D):Prop:=∃ nm i j l es es',x = .agg [.str nm,.Z 6 es]∧y=AC nm i j l es'∧fL es es'
theorem OY {xs:List D}(hl:xs.length≤10)(h:∀ x∈xs,Wa x):U (fun n=>cU n (.Z 2 xs)) fun r=>∃ ys,r=(true,[.Z 5 ys])∧Rl OC xs ys:=by
 refine U.eq (fun n=>LH n xs) ?_
 refine U.D4 (Q:=fun r=>∃ q ys,r=(false,[.Z 2 xs,.int .i64 (xs.length:Int),.int .i64 q,.Z 5 ys])∧Rl OC xs ys) ?_ (fun ds h=>by obtain⟨_,_,h,_⟩:=h;cases h) fun ds h=>?_
 ·refine yW (xs:=xs) (R:=OC) (T:=fun j acc n=>aD n (.Z 2 xs) (xs.length:Int) j (.Z 5 acc)) (by omega) (fun j acc hj ha K=>?_) fun acc hr=>?_
  ·refine U.eq (fun n=>qW n xs _ _ _) (U.Xu (Zi (by omega)) (U.Xu (G9 hj) ?_))
   obtain⟨nm,es,e,le,he⟩:=h xs[j] (Yr hj)
   rw [X7 hj,e]
   rw [e] at K
   refine U.Xu rfl (U.A0 (oA (xs:=es) (by omega) he) ?_)
   intro b ds h;cases h;refine⟨rfl,?_⟩
   refine U.Xu rfl (U.Xu (Yc (by simp only [D8];omega)) ?_)
   exact K (AC nm 0 0 0 es) ⟨nm,0,0,0,es,es,rfl,rfl,vL ⟨by omega,he⟩⟩
  ·exact U.eq (fun n=>qW n xs _ _ _) (U.no (Zk (by omega)) (U.ret ⟨_,acc,rfl,hr⟩))
 ·obtain⟨q,ys,h,hr⟩:=h
  cases h
  exact U.Xu rfl (U.ret ⟨ys,rfl,hr⟩)
def gI:Nat→D→Prop
 |0,_=>False
 |n+1,x=>∃ k nm ty sg es fs bs its els ps qs,x=I k nm ty sg es fs bs its els ps qs∧Wo es fs bs [] els ps qs∧its.length≤10∧(∀ e∈es,bS 4 e)∧(∀ e∈fs,bS 4 e)∧(∀ e∈bs,qL 4 e)∧
  (∀ i∈its,gI n i)∧(∀ i∈els,gI n i)∧(∀ c∈ps,Wa c)∧∀ c∈qs,Wa c
def AJ (k i j l:Int)(nm ty:Zt)(sg:Bool)(es fs bs its els ps qs:List D):D:=
 .agg [.int .i64 k,.int .i64 i,.int .i64 j,.int .i64 l,.str nm,.str ty,.bool sg,.Z 6 es,.Z 6 fs,.Z 8 bs,.Z 14 its,.Z 14 els,.Z 5 ps,.Z 5 qs]
def OI:Nat→D→D→Prop
 |0,_,_=>False
 |n+1,x,y=>∃ k i j l nm ty sg es fs bs its els ps qs es' fs' bs' its' els' ps' qs',x=I k nm ty sg es fs bs its els ps qs∧y=AJ k i j l nm ty sg es' fs' bs' its' els' ps' qs'∧fL es es'∧fL fs fs'∧bs.length≤10∧its.length≤10∧els.length≤10∧ps.length≤10∧qs.length≤10∧
  Rl (OS 4) bs bs'∧Rl (OI n) its its'∧Rl (OI n) els els'∧Rl OC ps ps'∧Rl OC qs qs'
theorem FV:∀ (d:Nat) (xs:List D),xs.length≤10→(∀ x∈xs,gI d x)→U (fun n=>V0 n (.Z 11 xs)) fun r=>∃ ys,r=(true,[.Z 14 ys])∧Rl (OI d) xs ys:=by
 intro d
 induction d with
 |zero=>
  intro xs hl h
  cases xs with
  |cons x xs=>exact (h x Yi).elim
  |nil=>
   refine U.eq (fun n=>wY n []) (U.D4 (Q:=fun r=>r=(false,[.Z 11 [],.int .i64 0,.int .i64 0,.Z 14 []])) (U.eq (fun n=>lO n _ _ _ _) (U.no rfl (U.ret rfl))) (fun ds h=>by cases h) fun ds h=>?_)
   cases h
   exact U.Xu rfl (U.ret ⟨[],rfl,rfl,fun i h=>absurd h (by simp)⟩)
 |succ d ih=>
  intro xs hl h
  refine U.eq (fun n=>wY n xs) ?_
  refine U.D4 (Q:=fun r=>∃ q ys,r=(false,[.Z 11 xs,.int .i64 (xs.length:Int),.int .i64 q,.Z 14 ys])∧Rl (OI (d+1)) xs ys) ?_ (fun ds h=>by obtain⟨_,_,h,_⟩:=h;cases h) fun ds h=>?_
  ·refine yW (xs:=xs) (R:=OI (d+1)) (T:=fun j acc n=>aE n (.Z 11 xs) (xs.length:Int) j (.Z 14 acc)) (by omega) (fun j acc hj ha K=>?_) fun acc hr=>?_
   ·refine U.eq (fun n=>lO n xs _ _ _) (U.Xu (Zi (by omega)) (U.Xu (G9 hj) ?_))
    obtain⟨k,nm,ty,sg,es,fs,bs,its,els,ps,qs,e,⟨m1,m2,m3,_,m5,m6,m7⟩,m4,h3,h4,h5,h6,h7,h8,h9⟩:=h xs[j] (Yr hj)
    rw [X7 hj,e]
    rw [e] at K
    refine U.Xu rfl (U.A0 (oA (xs:=es) (by omega) h3) ?_)
    intro b ds h;cases h;refine⟨rfl,?_⟩
    refine U.Xu rfl (U.A0 (oA (xs:=fs) (by omega) h4) ?_)
    intro b ds h;cases h;refine⟨rfl,?_⟩
    refine U.Xu rfl (U.A0 (Ez 4 bs (by omega) h5) ?_)
    rintro b ds ⟨bs',h,hbs⟩;cases h;refine⟨rfl,?_⟩
    refine U.Xu rfl (U.A0 (ih its (by omega) h6) ?_)
    rintro b ds ⟨its',h,hits⟩;cases h;refine⟨rfl,?_⟩
    refine U.Xu rfl (U.A0 (ih els (by omega) h7) ?_)
    rintro b ds ⟨els',h,hels⟩;cases h;refine⟨rfl,?_⟩
    refine U.Xu rfl (U.A0 (OY (xs:=ps) (by omega) h8) ?_)
    rintro b ds ⟨ps',h,hps⟩;cases h;refine⟨rfl,?_⟩
    refine U.Xu rfl (U.A0 (OY (xs:=qs) (by omega) h9) ?_)
    rintro b ds ⟨qs',h,hqs⟩;cases h;refine⟨rfl,?_⟩
    refine U.Xu rfl (U.Xu (Yc (by simp only [D8];omega)) ?_)
    exact K (AJ k 0 0 0 nm ty sg es fs bs' its' els' ps' qs') ⟨k,0,0,0,nm,ty,sg,es,fs,bs,its,els,ps,qs,es,fs,bs',its',els',ps',qs',rfl,rfl,vL ⟨by omega,h3⟩,vL ⟨by omega,h4⟩,by omega,by omega,by omega,by omega,by omega,hbs,hits,hels,hps,hqs⟩
   ·exact U.eq (fun n=>lO n xs _ _ _) (U.no (Zk (by omega)) (U.ret ⟨_,acc,rfl,hr⟩))
  ·obtain⟨q,ys,h,hr⟩:=h
   cases h
   exact U.Xu rfl (U.ret ⟨ys,rfl,hr⟩)
def AM (nm:Zt)(i j l:Int)(ps qs its:List D):D:= .agg [.str nm,.int .i64 i,.int .i64 j,.int .i64 l,.Z 14 ps,.Z 14 qs,.Z 14 its]
def OM (x y:D):Prop:=∃ nm i j l ps qs its ps' qs' its',x=M nm ps qs its∧y=AM nm i j l ps' qs' its'∧nm.length≤200∧ps.length≤10∧qs.length≤10∧its.length≤10∧Rl (OI 8) ps ps'∧Rl (OI 8) qs qs'∧Rl (OI 8) its its'
section
theorem Ko:decide (TP.length≤4294967280)=true:=by kernel_rfl
theorem XN:TP.length≤4294967280:=Zj Ko
theorem Ta:(([43]::Kn).all fun t=>decide (t.length≤3)&&decide (0≤X9 (([32]++t)++[32]) TP 0)&&!(t==[94,126]))=true:=by kernel_rfl
theorem Vd:([[40],[123]].all fun t=>!decide (0≤X9 (([32]++t)++[32]) TP 0))=true:=by kernel_rfl
theorem Sz:(Kn.all fun t=>!(t==[43]))=true:=by kernel_rfl
noncomputable def ZY:PF:=fun n=>L8 n
noncomputable def sE:PF:=fun n=>Z8 n
noncomputable def lB:PF:=fun n=>B3 n
section
variable {l:List D} (hl:l.length≤1000000)
theorem ET {i m:Nat}{R:D→Prop}{h:Nat}(hR:∀ y,R y→JO y)(hx:∃ k t a b e,l[i]? = some (tk k t a b e)∧(k≠3∨t=[40]∨t=[123]))(H:Ph sE l i m R h):Ph ZY l i m R h:=by
 intro d c p0 p1 p2 hd hd2
 obtain⟨k,t,a,b,e,ht,hk⟩:=hx
 have J:U (fun n=>V6 n true [tk k t a b e,.Z 5 l,.int .i64 (i:Int),.int .i64 d,.int .i64 c,.int .i64 p0,.int .i64 p1,.int .i64 p2,.int .i64 0]) fun r=>∃ y,R y∧r=(true,[y,.Z 5 l,.int .i64 ((i+m:Nat):Int),.int .i64 d,.int .i64 c,.int .i64 p0,.int .i64 p1,.int .i64 p2,.int .i64 0]):=by
  refine G4 (fun n=>V6.eq_1 n _ _) (U.Xu rfl (U.A0 (H d c p0 p1 p2 hd hd2) ?_))
  rintro _ ds ⟨y,hy,h0⟩
  cases h0
  obtain⟨v0,v1,v2,v3,vt,vs,rfl⟩:=hR y hy
  exact⟨rfl,U.Xu rfl (U.ret ⟨_,hy,rfl⟩)⟩
 unfold ZY
 refine U.eq (fun n=>mG n l i d c p0 p1 p2 0) (U.A0 (K8 (d:=d) (c:=c) (p0:=p0) (p1:=p1) (p2:=p2) ht) ?_)
 (intro _ ds h0;cases h0;refine⟨rfl,U.Xu rfl ?_⟩)
 refine U.Xv (fun _=>J) fun hk3=>?_
 have hk3:(k !=3)=false:=hk3
 have hk3:k=3:=by simpa using hk3
 have ht2:t=[40]∨t=[123]:=by rcases hk with h|h;exact absurd hk3 h;exact h
 have hno:decide (0≤X9 (([32]++t)++[32]) TP 0)=false:=by
  have:=Yg.1 Vd t (by rcases ht2 with rfl|rfl<;>simp)
  simpa using this
 have hlen:t.length≤3:=by rcases ht2 with rfl|rfl<;>simp
 refine U.Xu (Zi (by show 1+t.length≤S6;simp only [S6];omega)) (U.Xu (Zi (by show ([32]++t).length+1≤S6;simp only [S6,Xx,Yu];omega)) (U.A0 (fN (s:=TP) XN (([32]++t)++[32])) ?_))
 (intro _ ds h0;cases h0;refine⟨rfl,U.Xu rfl ?_⟩)
 show U (fun n=>V6 n (!decide (0≤X9 (([32]++t)++[32]) TP 0)) _) _
 rw [hno]
 exact J
include hl
theorem ZZ {i m:Nat}{R:D→Prop}{h:Nat}(hR:∀ y,R y→JO y){t:Zt}(ht:t∈[43]::Kn)(hx:∃ a b e,l[i]? = some (tk 3 t a b e))(H:Ph ZY l (i+1) m R h) :
  Ph ZY l i (1+m) (fun y=>bif t==[43] then R y else ∃ a b e u,y=PE 3 a b e t [u]∧R u) (h+1):=by
 intro d c p0 p1 p2 hd hd2
 obtain⟨a,b,e,hx⟩:=hx
 have htab:=Yg.1 Ta t ht
 simp only [Xz,decide_eq_true_eq,Zd] at htab
 obtain⟨⟨hlen,hyes⟩,hpl⟩:=htab
 have hil:=EB hx
 have I:=H (d+1) c p0 p1 p2 (by omega) (by omega)
 rw [show i+1+m=i+(1+m) from by omega,← H7 (j:=i) (by omega)] at I
 unfold ZY at I ⊢
 refine U.eq (fun n=>mG n l i d c p0 p1 p2 0) (U.A0 (K8 (d:=d) (c:=c) (p0:=p0) (p1:=p1) (p2:=p2) hx) ?_)
 (intro _ ds h0;cases h0;refine⟨rfl,U.Xu rfl ?_⟩)
 refine U.no rfl (U.Xu (Zi (by show 1+t.length≤S6;simp only [S6];omega)) (U.Xu (Zi (by show ([32]++t).length+1≤S6;simp only [S6,Xx,Yu];omega)) (U.A0 (fN (s:=TP) XN (([32]++t)++[32])) ?_)))
 (intro _ ds h0;cases h0;refine⟨rfl,U.Xu rfl ?_⟩)
 show U (fun n=>V6 n (!decide (0≤X9 (([32]++t)++[32]) TP 0)) _) _
 rw [Zi hyes]
 refine G4 (fun n=>V6.eq_1 n _ _) (U.no rfl (U.A0 (gN (l:=l) (d:=d) (c:=c) (p0:=p0) (p1:=p1) (p2:=p2) (i:Int) (by omega) hd) ?_))
 (intro _ ds h0;cases h0;refine⟨rfl,U.Xu rfl ?_⟩)
 refine U.no rfl (U.A0 I ?_)
 (rintro _ ds ⟨y,hy,h0⟩;cases h0;obtain⟨v0,v1,v2,v3,vt,vs,rfl⟩:=hR y hy;refine⟨rfl,U.Xu rfl ?_⟩)
 refine U.Xv (fun h=>?_) fun h=>?_
 ·have h:(t==[43])=true:=h
  refine U.A0 (cM (l:=l) (d:=d) (c:=c) (p0:=p0) (p1:=p1) (p2:=p2) _ (by omega) hd) ?_
  (intro _ ds h0;cases h0;refine⟨rfl,U.Xu rfl ?_⟩)
  exact U.ret ⟨_,by rw [h];exact hy,rfl⟩
 ·have h:(t==[43])=false:=h
  refine U.A0 (U.eq (fun n=>xU n t) (U.no hpl (U.ret (P:=fun r=>r=(true,[.str t])) rfl))) ?_
  (intro _ ds h0;cases h0;refine⟨rfl,U.Xu rfl ?_⟩)
  refine U.A0 (cM (l:=l) (d:=d) (c:=c) (p0:=p0) (p1:=p1) (p2:=p2) _ (by omega) hd) ?_
  (intro _ ds h0;cases h0;refine⟨rfl,U.Xu rfl ?_⟩)
  exact U.ret ⟨_,by rw [h];exact⟨a,b,e,_,rfl,hy⟩,rfl⟩
omit hl in
theorem Hk {t w:Zt}(h:cl t=true)(hw:Ql.contains w=false)(k:Int):(t==w&&k !=2)=false:=by
 cases hb:t==w with
 |false=>rfl
 |true=>rw [eq_of_beq hb] at h;unfold cl at h;rw [hw] at h;cases h
theorem Ay {i m:Nat}{R:D→Prop}{h:Nat}(hR:∀ y,R y→JO y)(hx:∃ k t a b e,l[i]? = some (tk k t a b e))(hn:Nx l (i+m) cl)(H:Ph (YY 0) l i m R h):Ph lB l i m R (h+1):=by
 have _:=hl
 intro d c p0 p1 p2 hd hd2
 obtain⟨k,t,a,b,e,hx⟩:=hx
 obtain⟨t2,a2,b2,e2,h2,hc⟩:=hn
 have I:=H (d+1) c p0 p1 p2 (by omega) (by omega)
 unfold lB
 unfold YY at I
 refine U.eq (fun n=>oB n l i d c p0 p1 p2 0) (U.A0 (K8 (d:=d) (c:=c) (p0:=p0) (p1:=p1) (p2:=p2) hx) ?_)
 (intro _ ds h0;cases h0;refine⟨rfl,U.Xu rfl ?_⟩)
 refine U.A0 (gN (l:=l) (d:=d) (c:=c) (p0:=p0) (p1:=p1) (p2:=p2) (i:Int) (by omega) hd) ?_
 (intro _ ds h0;cases h0;refine⟨rfl,U.Xu rfl ?_⟩)
 refine U.no rfl (U.A0 I ?_)
 (rintro _ ds ⟨y,hy,h0⟩;cases h0;obtain⟨v0,v1,v2,v3,vt,vs,rfl⟩:=hR y hy;refine⟨rfl,U.Xu rfl ?_⟩)
 refine U.A0 (C1 (d:=(d+1)) (c:=c) (p0:=p0) (p1:=p1) (p2:=p2) (w:=[63]) h2 (Hk hc rfl 3)) ?_
 (intro _ ds h0;cases h0;refine⟨rfl,U.Xu rfl ?_⟩)
 refine U.Xu rfl (U.A0 (cM (l:=l) (d:=d) (c:=c) (p0:=p0) (p1:=p1) (p2:=p2) _ (by omega) hd) ?_)
 (intro _ ds h0;cases h0;refine⟨rfl,U.Xu rfl ?_⟩)
 exact U.ret ⟨_,hy,rfl⟩
theorem Dj {i m1 m2 m3:Nat}{R1 R2 R3:D→Prop}{h:Nat}(hR1:∀ y,R1 y→JO y)(hR2:∀ y,R2 y→JO y)(hR3:∀ y,R3 y→JO y)(hx:∃ k t a b e,l[i]? = some (tk k t a b e))(H1:Ph (YY 0) l i m1 R1 h)
  (hq:∃ a b e,l[i+m1]? = some (tk 3 [63] a b e)) (H2:Ph lB l (i+m1+1) m2 R2 h) (hc:∃ a b e,l[i+m1+1+m2]? = some (tk 3 [58] a b e)) (H3:Ph lB l (i+m1+1+m2+1) m3 R3 h) :
  Ph lB l i (m1+1+m2+1+m3) (fun y=>∃ a b e u v w,y=PE 5 a b e [] [u,v,w]∧R1 u∧R2 v∧R3 w) (h+1):=by
 intro d c p0 p1 p2 hd hd2
 obtain⟨k,t,a,b,e,hx⟩:=hx
 obtain⟨a2,b2,e2,hq⟩:=hq
 obtain⟨a3,b3,e3,hc⟩:=hc
 have hil:=EB hc
 have I1:=H1 (d+1) c p0 p1 p2 (by omega) (by omega)
 have I2:=H2 (d+1) c p0 p1 p2 (by omega) (by omega)
 have I3:=H3 (d+1) c p0 p1 p2 (by omega) (by omega)
 rw [show i+m1+1+m2+1+m3=i+(m1+1+m2+1+m3) from by omega] at I3
 unfold lB at I2 I3 ⊢
 unfold YY at I1
 refine U.eq (fun n=>oB n l i d c p0 p1 p2 0) (U.A0 (K8 (d:=d) (c:=c) (p0:=p0) (p1:=p1) (p2:=p2) hx) ?_)
 (intro _ ds h0;cases h0;refine⟨rfl,U.Xu rfl ?_⟩)
 refine U.A0 (gN (l:=l) (d:=d) (c:=c) (p0:=p0) (p1:=p1) (p2:=p2) (i:Int) (by omega) hd) ?_
 (intro _ ds h0;cases h0;refine⟨rfl,U.Xu rfl ?_⟩)
 refine U.no rfl (U.A0 I1 ?_)
 (rintro _ ds ⟨y1,hy1,h0⟩;cases h0;obtain⟨v0,v1,v2,v3,vt,vs,rfl⟩:=hR1 y1 hy1;refine⟨rfl,U.Xu rfl ?_⟩)
 refine U.A0 (F8 (d:=(d+1)) (c:=c) (p0:=p0) (p1:=p1) (p2:=p2) (w:=[63]) hl hq rfl) ?_
 (intro _ ds h0;cases h0;refine⟨rfl,U.Xu rfl ?_⟩)
 refine U.no rfl (U.A0 I2 ?_)
 (rintro _ ds ⟨y2,hy2,h0⟩;cases h0;obtain⟨v0,v1,v2,v3,vt,vs,rfl⟩:=hR2 y2 hy2;refine⟨rfl,U.Xu rfl ?_⟩)
 refine U.A0 (G6 (d:=(d+1)) (c:=c) (p0:=p0) (p1:=p1) (p2:=p2) hl [[58]] (by decide) (H8 hc rfl)) ?_
 (intro _ ds h0;cases h0;refine⟨rfl,U.Xu rfl ?_⟩)
 refine U.A0 I3 ?_
 (rintro _ ds ⟨y3,hy3,h0⟩;cases h0;obtain⟨v0,v1,v2,v3,vt,vs,rfl⟩:=hR3 y3 hy3;refine⟨rfl,U.Xu rfl ?_⟩)
 refine U.A0 (cM (l:=l) (d:=d) (c:=c) (p0:=p0) (p1:=p1) (p2:=p2) _ (by omega) hd) ?_
 (intro _ ds h0;cases h0;refine⟨rfl,U.Xu rfl ?_⟩)
 exact U.ret ⟨_,⟨a,b,e,_,_,_,rfl,hy1,hy2,hy3⟩,rfl⟩
theorem Ei {i m:Nat}{R:D→Prop}{h:Nat}(hR:∀ y,R y→JO y)(ho:∃ a b e,l[i]? = some (tk 3 [40] a b e))(H:Ph lB l (i+1) m R h)(hs:∃ a b e,l[i+1+m]? = some (tk 3 [41] a b e)):Ph sE l i (1+m+1) R h:=by
 intro d c p0 p1 p2 hd hd2
 obtain⟨a,b,e,ho⟩:=ho
 obtain⟨a2,b2,e2,hs⟩:=hs
 have I:=H d c p0 p1 p2 hd hd2
 unfold lB at I
 unfold sE
 rw [show i+(1+m+1)=i+1+m+1 from by omega]
 refine U.eq (fun n=>V3 n l i d c p0 p1 p2 0) (U.A0 (K8 (d:=d) (c:=c) (p0:=p0) (p1:=p1) (p2:=p2) ho) ?_)
 (intro _ ds h0;cases h0;refine⟨rfl,U.Xu rfl ?_⟩)
 refine U.no rfl (U.A0 (F8 (d:=d) (c:=c) (p0:=p0) (p1:=p1) (p2:=p2) (w:=[40]) hl ho rfl) ?_)
 (intro _ ds h0;cases h0;refine⟨rfl,U.Xu rfl ?_⟩)
 refine U.Xu rfl (U.A0 I ?_)
 (rintro _ ds ⟨y,hy,h0⟩;cases h0;obtain⟨v0,v1,v2,v3,vt,vs,rfl⟩:=hR y hy;refine⟨rfl,U.Xu rfl ?_⟩)
 refine U.A0 (G6 (d:=d) (c:=c) (p0:=p0) (p1:=p1) (p2:=p2) hl [[41]] (by decide) (H8 hs rfl)) ?_
 (intro _ ds h0;cases h0;refine⟨rfl,U.Xu rfl ?_⟩)
 exact U.ret ⟨_,hy,rfl⟩
theorem one_num {i:Nat}{t:Zt}(hx:∃ a b e,l[i]? = some (tk 2 t a b e)):Ph sE l i 1 (fun y=>∃ a b e,y=PE 1 a b e t []) 0:=by
 intro d c p0 p1 p2 hd hd2
 obtain⟨a,b,e,hx⟩:=hx
 have hil:=EB hx
 unfold sE
 refine U.eq (fun n=>V3 n l i d c p0 p1 p2 0) (U.A0 (K8 (d:=d) (c:=c) (p0:=p0) (p1:=p1) (p2:=p2) hx) ?_)
 (intro _ ds h0;cases h0;refine⟨rfl,U.Xu rfl ?_⟩)
 refine U.Xu rfl (U.ret ⟨_,⟨a,b,e,rfl⟩,?_⟩)
 rw [← H7 (by omega)];rfl
theorem Jg {i:Nat}{t:Zt}(hg:Eh t=true)(hx:∃ a b e,l[i]? = some (tk 1 t a b e)){p:Zt→Bool}(hn:Nx l (i+1) p)(hp:∀ t,p t=true→(t==[91])=false∧(t==[40])=false):Ph sE l i 1 (fun y=>∃ a b e,y=PE 2 a b e t []) 0:=by
 intro d c p0 p1 p2 hd hd2
 obtain⟨a,b,e,hx⟩:=hx
 obtain⟨t2,a2,b2,e2,h2,hq⟩:=hn
 refine (Rq (d:=d) (c:=c) (p0:=p0) (p1:=p1) (p2:=p2) hl hx hg h2 (hp t2 hq).1 (hp t2 hq).2).mono fun r hr=>?_
 exact⟨_,⟨a,b,e,rfl⟩,hr⟩
def To (l:List D)(h:Nat):Nat→List (Nat×(D→Prop))→Nat→Prop
 |i,[],e=>i=e
 |i,p::r,e=>(∃ a b c,l[i]? = some (tk 3 [44] a b c))∧Ph lB l (i+1) p.1 p.2 h∧(∀ y,p.2 y→JO y)∧To l h (i+1+p.1) r e
theorem Hr {h:Nat}{e:Nat}(hn:∃ t a b c,l[e]? = some (tk 3 t a b c)∧(t==[44])=false):∀ (es:List (Nat×(D→Prop))) (i:Nat) (acc:List D),To l h i es e→acc.length+es.length≤1000→∀ d c p0 p1 p2:Int,0≤d→d+h≤40→
  U (fun n=>O9 n (.Z 5 l) (i:Int) d c p0 p1 p2 (0:Int) (.Z 6 acc)) fun r=>∃ ys,F2 (fun p y=>p.2 y) es ys∧r=(false,[.Z 5 l,.int .i64 (e:Int),.int .i64 d,.int .i64 c,.int .i64 p0,.int .i64 p1,.int .i64 p2,.int .i64 0,.Z 6 (acc++ys)])
 |[],i,acc,h0,_,d,c,p0,p1,p2,hd,hd2=>by
  obtain⟨t,a,b,e',ht,hne⟩:=hn
  have h0:i=e:=h0
  subst h0
  refine U.eq (fun n=>kA n l i d c p0 p1 p2 0 acc) (U.A0 (C1 (d:=d) (c:=c) (p0:=p0) (p1:=p1) (p2:=p2) (w:=[44]) ht (by rw [hne];rfl)) ?_)
  (intro _ ds h0;cases h0;refine⟨rfl,U.Xu rfl ?_⟩)
  exact U.no rfl (U.ret ⟨[],.nil,by rw [Za];rfl⟩)
 |(m,R)::es,i,acc,h0,hb,d,c,p0,p1,p2,hd,hd2=>by
  obtain⟨⟨a,b,e',hc⟩,H,hR,hr⟩:=h0
  have I:=H d c p0 p1 p2 hd hd2
  unfold lB at I
  refine U.eq (fun n=>kA n l i d c p0 p1 p2 0 acc) (U.A0 (F8 (d:=d) (c:=c) (p0:=p0) (p1:=p1) (p2:=p2) (w:=[44]) hl hc rfl) ?_)
  (intro _ ds h0;cases h0;refine⟨rfl,U.Xu rfl ?_⟩)
  refine U.Xu rfl (U.A0 I ?_)
  (rintro _ ds ⟨y,hy,h0⟩;cases h0;obtain⟨v0,v1,v2,v3,vt,vs,rfl⟩:=hR y hy;refine⟨rfl,U.Xu rfl ?_⟩)
  have K:=Hr hn es (i+1+m) (acc++[.agg [.int .i64 v0,.int .i64 v1,.int .i64 v2,.int .i64 v3,.str vt,.Z 6 vs]]) hr (by simp only [Xx,Xw,Xy] at hb ⊢;omega) d c p0 p1 p2 hd hd2
  refine U.Xu (Yc (by simp only [Xw] at hb;simp only [D8];omega)) (K.mono fun r hr=>?_)
  obtain⟨ys,h1,h2⟩:=hr
  exact⟨_::ys,.cons hy h1,by rw [h2,Yl];rfl⟩
def La (l:List D)(i m:Nat)(R:List D→Prop)(h:Nat):Prop:=
 ∀ d c p0 p1 p2:Int,0≤d→d+h≤40→U (fun n=>H4 n (.Z 5 l) (i:Int) d c p0 p1 p2 (0:Int)) fun r=>∃ ys,R ys∧r=(true,[.Z 5 l,.int .i64 ((i+m:Nat):Int),.int .i64 d,.int .i64 c,.int .i64 p0,.int .i64 p1,.int .i64 p2,.int .i64 0,.Z 6 ys])
theorem VI {i m e:Nat}{R:D→Prop}{h:Nat}{es:List (Nat×(D→Prop))}(hR:∀ y,R y→JO y)(H:Ph lB l i m R h)(hE:To l h (i+m) es e)(hel:es.length≤900)(hn:∃ t a b c,l[e]? = some (tk 3 t a b c)∧(t==[44])=false){q:Nat}(hq:e=i+q) :
  La l i q (fun ys=>∃ y r,ys=y::r∧R y∧F2 (fun p y=>p.2 y) es r) h:=by
 intro d c p0 p1 p2 hd hd2
 have I:=H d c p0 p1 p2 hd hd2
 unfold lB at I
 refine U.eq (fun n=>vD n l i d c p0 p1 p2 0) (U.A0 I ?_)
 (rintro _ ds ⟨y,hy,h0⟩;cases h0;obtain⟨v0,v1,v2,v3,vt,vs,rfl⟩:=hR y hy;refine⟨rfl,U.Xu rfl ?_⟩)
 have K:=Hr hl hn es (i+m) [.agg [.int .i64 v0,.int .i64 v1,.int .i64 v2,.int .i64 v3,.str vt,.Z 6 vs]] hE (by simp only [Xw,Xy];omega) d c p0 p1 p2 hd hd2
 refine U.D4 K (fun ds h=>by obtain⟨_,_,h⟩:=h;cases h) fun ds h=>?_
 obtain⟨ys,h1,h2⟩:=h
 cases h2
 subst hq
 exact U.Xu rfl (U.ret ⟨_,⟨_,ys,rfl,hy,h1⟩,rfl⟩)
theorem My {i m:Nat}{R:List D→Prop}{h:Nat}(ho:∃ a b e,l[i]? = some (tk 3 [123] a b e))(H:La l (i+1) m R h)(hs:∃ a b e,l[i+1+m]? = some (tk 3 [125] a b e)):Ph sE l i (1+m+1) (fun y=>∃ a b e ys,y=PE 6 a b e [] ys∧R ys) h:=by
 intro d c p0 p1 p2 hd hd2
 obtain⟨a,b,e,ho⟩:=ho
 obtain⟨a2,b2,e2,hs⟩:=hs
 have I:=H d c p0 p1 p2 hd hd2
 unfold sE
 rw [show i+(1+m+1)=i+1+m+1 from by omega]
 have J:∀ ys,R ys→U (fun n=>aO n ys 6 l ((i+1+m:Nat):Int) d c p0 p1 p2 0 a b e) fun r=>∃ y,(∃ a b e ys,y=PE 6 a b e [] ys∧R ys)∧r=(true,[y,.Z 5 l,.int .i64 ((i+1+m+1:Nat):Int),.int .i64 d,.int .i64 c,.int .i64 p0,.int .i64 p1,.int .i64 p2,.int .i64 0]):=by
  intro ys hys
  refine G4 (fun n=>aO.eq_1 n _ _ _ _ _ _ _ _ _ _ _ _ _) (U.A0 (G6 (d:=d) (c:=c) (p0:=p0) (p1:=p1) (p2:=p2) hl [[125]] (by decide) (H8 hs rfl)) ?_)
  (intro _ ds h0;cases h0;refine⟨rfl,U.Xu rfl ?_⟩)
  exact U.ret ⟨_,⟨a,b,e,ys,rfl,hys⟩,rfl⟩
 have B:U (fun n=>V2 n (.agg [.int .i64 a,.int .i64 b,.int .i64 e]) (.Z 5 l) ((i+1:Nat):Int) d c p0 p1 p2 (0:Int)) fun r=>∃ y,(∃ a b e ys,y=PE 6 a b e [] ys∧R ys)∧r=(true,[y,.Z 5 l,.int .i64 ((i+1+m+1:Nat):Int),.int .i64 d,.int .i64 c,.int .i64 p0,.int .i64 p1,.int .i64 p2,.int .i64 0]):=by
  refine U.eq (fun n=>mA n a b e l _ d c p0 p1 p2 0) (U.A0 I ?_)
  rintro _ ds ⟨ys,hys,h0⟩
  cases h0
  refine⟨rfl,U.Xu rfl (U.Xv (fun _=>?_) fun _=>?_)⟩
  ·refine U.A0 (C1 (d:=d) (c:=c) (p0:=p0) (p1:=p1) (p2:=p2) (w:=[123]) hs rfl) ?_
   (intro _ ds h0;cases h0;refine⟨rfl,U.Xu rfl ?_⟩)
   exact G4 (fun n=>aN.eq_1 n _ _ _ _ _ _ _ _ _ _ _ _ _) (U.no rfl (J ys hys))
  ·exact G4 (fun n=>aN.eq_1 n _ _ _ _ _ _ _ _ _ _ _ _ _) (U.no rfl (J ys hys))
 refine U.eq (fun n=>V3 n l i d c p0 p1 p2 0) (U.A0 (K8 (d:=d) (c:=c) (p0:=p0) (p1:=p1) (p2:=p2) ho) ?_)
 (intro _ ds h0;cases h0;refine⟨rfl,U.Xu rfl ?_⟩)
 refine U.no rfl (U.A0 (C1 (d:=d) (c:=c) (p0:=p0) (p1:=p1) (p2:=p2) (w:=[40]) ho rfl) ?_)
 (intro _ ds h0;cases h0;refine⟨rfl,U.Xu rfl ?_⟩)
 refine U.no rfl (U.A0 (F8 (d:=d) (c:=c) (p0:=p0) (p1:=p1) (p2:=p2) (w:=[123]) hl ho rfl) ?_)
 (intro _ ds h0;cases h0;refine⟨rfl,U.Xu rfl ?_⟩)
 refine U.Xu rfl (U.A0 B ?_)
 rintro _ ds ⟨y,⟨a,b,e,ys,rfl,hys⟩,h0⟩
 cases h0
 exact⟨rfl,U.Xu rfl (U.ret ⟨_,⟨a,b,e,ys,rfl,hys⟩,rfl⟩)⟩
theorem Mz {i m1 m2:Nat}{R1:D→Prop}{R2:List D→Prop}{h:Nat}(hR1:∀ y,R1 y→JO y)(hR2:∀ ys,R2 ys→ys.length≤1000)(ho:∃ a b e,l[i]? = some (tk 3 [123] a b e))(H1:Ph lB l (i+1) m1 R1 h)(hb:∃ a b e,l[i+1+m1]? = some (tk 3 [123] a b e))
  (H2:La l (i+1+m1+1) m2 R2 h) (hs:∃ a b e,l[i+1+m1+1+m2]? = some (tk 3 [125] a b e)) (hs2:∃ a b e,l[i+1+m1+1+m2+1]? = some (tk 3 [125] a b e)) :
  Ph sE l i (1+m1+1+m2+2) (fun y=>∃ a b e u ys,y=PE 7 a b e [] (u::ys)∧R1 u∧R2 ys) h:=by
 have hE:La l (i+1) m1 (fun ys=>∃ y r,ys=y::r∧R1 y∧F2 (fun (p:Nat×(D→Prop)) y=>p.2 y) [] r) h:=by
  obtain⟨a,b,e,hb⟩:=hb
  exact VI hl hR1 H1 (es:=[]) (e:=i+1+m1) rfl (by decide) ⟨_,a,b,e,hb,rfl⟩ rfl
 intro d c p0 p1 p2 hd hd2
 obtain⟨a,b,e,ho⟩:=ho
 obtain⟨a1,b1,e1,hb⟩:=hb
 obtain⟨a2,b2,e2,hs⟩:=hs
 obtain⟨a3,b3,e3,hs2⟩:=hs2
 have I1:=hE d c p0 p1 p2 hd hd2
 have I2:=H2 d c p0 p1 p2 hd hd2
 unfold sE
 rw [show i+(1+m1+1+m2+2)=i+1+m1+1+m2+1+1 from by omega]
 have B:U (fun n=>V2 n (.agg [.int .i64 a,.int .i64 b,.int .i64 e]) (.Z 5 l) ((i+1:Nat):Int) d c p0 p1 p2 (0:Int)) fun r=>∃ y,(∃ a b e u ys,y=PE 7 a b e [] (u::ys)∧R1 u∧R2 ys)∧r=(true,[y,.Z 5 l,.int .i64 ((i+1+m1+1+m2+1+1:Nat):Int),.int .i64 d,.int .i64 c,.int .i64 p0,.int .i64 p1,.int .i64 p2,.int .i64 0]):=by
  refine U.eq (fun n=>mA n a b e l _ d c p0 p1 p2 0) (U.A0 I1 ?_)
  rintro _ ds ⟨_,⟨u,r,rfl,hu,hr⟩,h0⟩
  cases h0
  cases hr
  refine⟨rfl,U.Xu rfl (U.Xu rfl (U.A0 (F8 (d:=d) (c:=c) (p0:=p0) (p1:=p1) (p2:=p2) (w:=[123]) hl hb rfl) ?_))⟩
  (intro _ ds h0;cases h0;refine⟨rfl,U.Xu rfl ?_⟩)
  refine G4 (fun n=>aN.eq_1 n _ _ _ _ _ _ _ _ _ _ _ _ _) (U.Xu rfl (U.A0 I2 ?_))
  rintro _ ds ⟨ys,hys,h0⟩
  cases h0
  have hb:=hR2 ys hys
  refine⟨rfl,U.Xu rfl (U.Xu (Yc (by show ([u]:List D).length+ys.length≤D8;simp only [Xw,Xy,D8];omega)) (U.A0 (G6 (d:=d) (c:=c) (p0:=p0) (p1:=p1) (p2:=p2) hl [[125]] (by decide) (H8 hs rfl)) ?_))⟩
  (intro _ ds h0;cases h0;refine⟨rfl,U.Xu rfl ?_⟩)
  refine G4 (fun n=>aO.eq_1 n _ _ _ _ _ _ _ _ _ _ _ _ _) (U.A0 (G6 (d:=d) (c:=c) (p0:=p0) (p1:=p1) (p2:=p2) hl [[125]] (by decide) (H8 hs2 rfl)) ?_)
  (intro _ ds h0;cases h0;refine⟨rfl,U.Xu rfl ?_⟩)
  exact U.ret ⟨_,⟨a,b,e,u,ys,rfl,hu,hys⟩,rfl⟩
 refine U.eq (fun n=>V3 n l i d c p0 p1 p2 0) (U.A0 (K8 (d:=d) (c:=c) (p0:=p0) (p1:=p1) (p2:=p2) ho) ?_)
 (intro _ ds h0;cases h0;refine⟨rfl,U.Xu rfl ?_⟩)
 refine U.no rfl (U.A0 (C1 (d:=d) (c:=c) (p0:=p0) (p1:=p1) (p2:=p2) (w:=[40]) ho rfl) ?_)
 (intro _ ds h0;cases h0;refine⟨rfl,U.Xu rfl ?_⟩)
 refine U.no rfl (U.A0 (F8 (d:=d) (c:=c) (p0:=p0) (p1:=p1) (p2:=p2) (w:=[123]) hl ho rfl) ?_)
 (intro _ ds h0;cases h0;refine⟨rfl,U.Xu rfl ?_⟩)
 refine U.Xu rfl (U.A0 B ?_)
 rintro _ ds ⟨y,⟨a,b,e,u,ys,rfl,hu,hys⟩,h0⟩
 cases h0
 exact⟨rfl,U.Xu rfl (U.ret ⟨_,⟨a,b,e,u,ys,rfl,hu,hys⟩,rfl⟩)⟩
theorem LJ {i m:Nat}{R:D→Prop}{h:Nat}(hR:∀ y,R y→JO y){t:Zt}(hg:oQ t=true)(hx:∃ a b e,l[i]? = some (tk 1 t a b e))(ho:∃ a b e,l[i+1]? = some (tk 3 [91] a b e))(H:Ph lB l (i+2) m R h)(hs:∃ a b e,l[i+2+m]? = some (tk 3 [93] a b e)) :
  Ph (fun n=>I4 n) l i (2+m+1) (fun y=>∃ a b e u,y=PE 8 a b e t [u]∧R u) h:=by
 intro d c p0 p1 p2 hd hd2
 obtain⟨a,b,e,hx⟩:=hx
 obtain⟨a2,b2,e2,ho⟩:=ho
 obtain⟨a3,b3,e3,hs⟩:=hs
 have I:=H d c p0 p1 p2 hd hd2
 unfold lB at I
 rw [show i+(2+m+1)=i+2+m+1 from by omega]
 refine U.eq (fun n=>iX n l i d c p0 p1 p2 0) (U.A0 (K8 (d:=d) (c:=c) (p0:=p0) (p1:=p1) (p2:=p2) hx) ?_)
 (intro _ ds h0;cases h0;refine⟨rfl,U.Xu rfl ?_⟩)
 refine U.A0 (gJ (d:=d) (c:=c) (p0:=p0) (p1:=p1) (p2:=p2) hl hx hg) ?_
 (intro _ ds h0;cases h0;refine⟨rfl,U.Xu rfl ?_⟩)
 refine U.A0 (F8 (d:=d) (c:=c) (p0:=p0) (p1:=p1) (p2:=p2) (w:=[91]) hl ho rfl) ?_
 (intro _ ds h0;cases h0;refine⟨rfl,U.Xu rfl ?_⟩)
 refine U.no rfl (U.A0 I ?_)
 (rintro _ ds ⟨y,hy,h0⟩;cases h0;obtain⟨v0,v1,v2,v3,vt,vs,rfl⟩:=hR y hy;refine⟨rfl,U.Xu rfl ?_⟩)
 refine U.A0 (C1 (d:=d) (c:=c) (p0:=p0) (p1:=p1) (p2:=p2) (w:=[58]) hs rfl) ?_
 (intro _ ds h0;cases h0;refine⟨rfl,U.Xu rfl ?_⟩)
 refine U.no rfl (G4 (fun n=>eJ.eq_1 n _ _ _ _ _ _ _ _ _ _ _ _) (U.A0 (G6 (d:=d) (c:=c) (p0:=p0) (p1:=p1) (p2:=p2) hl [[93]] (by decide) (H8 hs rfl)) ?_))
 (intro _ ds h0;cases h0;refine⟨rfl,U.Xu rfl ?_⟩)
 exact U.ret ⟨_,⟨a,b,e,_,rfl,hy⟩,rfl⟩
theorem LK {i m1 m2:Nat}{R1 R2:D→Prop}{h:Nat}(hR1:∀ y,R1 y→JO y)(hR2:∀ y,R2 y→JO y){t:Zt}(hg:oQ t=true)(hx:∃ a b e,l[i]? = some (tk 1 t a b e))(ho:∃ a b e,l[i+1]? = some (tk 3 [91] a b e))(H1:Ph lB l (i+2) m1 R1 h)
  (hc:∃ a b e,l[i+2+m1]? = some (tk 3 [58] a b e)) (H2:Ph lB l (i+2+m1+1) m2 R2 h) (hs:∃ a b e,l[i+2+m1+1+m2]? = some (tk 3 [93] a b e)) :
  Ph (fun n=>I4 n) l i (2+m1+1+m2+1) (fun y=>∃ a b e u v,y=PE 9 a b e t [u,v]∧R1 u∧R2 v) h:=by
 intro d c p0 p1 p2 hd hd2
 obtain⟨a,b,e,hx⟩:=hx
 obtain⟨a2,b2,e2,ho⟩:=ho
 obtain⟨a3,b3,e3,hc⟩:=hc
 obtain⟨a4,b4,e4,hs⟩:=hs
 have I1:=H1 d c p0 p1 p2 hd hd2
 have I2:=H2 d c p0 p1 p2 hd hd2
 unfold lB at I1 I2
 rw [show i+(2+m1+1+m2+1)=i+2+m1+1+m2+1 from by omega]
 refine U.eq (fun n=>iX n l i d c p0 p1 p2 0) (U.A0 (K8 (d:=d) (c:=c) (p0:=p0) (p1:=p1) (p2:=p2) hx) ?_)
 (intro _ ds h0;cases h0;refine⟨rfl,U.Xu rfl ?_⟩)
 refine U.A0 (gJ (d:=d) (c:=c) (p0:=p0) (p1:=p1) (p2:=p2) hl hx hg) ?_
 (intro _ ds h0;cases h0;refine⟨rfl,U.Xu rfl ?_⟩)
 refine U.A0 (F8 (d:=d) (c:=c) (p0:=p0) (p1:=p1) (p2:=p2) (w:=[91]) hl ho rfl) ?_
 (intro _ ds h0;cases h0;refine⟨rfl,U.Xu rfl ?_⟩)
 refine U.no rfl (U.A0 I1 ?_)
 (rintro _ ds ⟨y1,hy1,h0⟩;cases h0;obtain⟨v0,v1,v2,v3,vt,vs,rfl⟩:=hR1 y1 hy1;refine⟨rfl,U.Xu rfl ?_⟩)
 refine U.A0 (F8 (d:=d) (c:=c) (p0:=p0) (p1:=p1) (p2:=p2) (w:=[58]) hl hc rfl) ?_
 (intro _ ds h0;cases h0;refine⟨rfl,U.Xu rfl ?_⟩)
 refine U.Xu rfl (U.A0 I2 ?_)
 (rintro _ ds ⟨y2,hy2,h0⟩;cases h0;obtain⟨v0,v1,v2,v3,vt,vs,rfl⟩:=hR2 y2 hy2;refine⟨rfl,U.Xu rfl ?_⟩)
 refine G4 (fun n=>eJ.eq_1 n _ _ _ _ _ _ _ _ _ _ _ _) (U.A0 (G6 (d:=d) (c:=c) (p0:=p0) (p1:=p1) (p2:=p2) hl [[93]] (by decide) (H8 hs rfl)) ?_)
 (intro _ ds h0;cases h0;refine⟨rfl,U.Xu rfl ?_⟩)
 exact U.ret ⟨_,⟨a,b,e,_,_,rfl,hy1,hy2⟩,rfl⟩
theorem WS {i m:Nat}{R:D→Prop}{h:Nat}{t:Zt}(hg:Eh t=true)(hx:∃ a b e,l[i]? = some (tk 1 t a b e))(hR:∀ y,R y→∃ k a b e t ar,y=PE k a b e t ar∧k≠2)(H:Ph (fun n=>I4 n) l i m R h):Ph sE l i m R h:=by
 have _:=hl
 intro d c p0 p1 p2 hd hd2
 obtain⟨a,b,e,hx⟩:=hx
 have I:=H d c p0 p1 p2 hd hd2
 simp only [Eh,Xz,Zd] at hg
 obtain⟨⟨⟨⟨g1,g2⟩,g3⟩,g4⟩,g5⟩:=hg
 unfold sE
 refine U.eq (fun n=>V3 n l i d c p0 p1 p2 0) (U.A0 (K8 (d:=d) (c:=c) (p0:=p0) (p1:=p1) (p2:=p2) hx) ?_)
 (intro _ ds h0;cases h0;refine⟨rfl,U.Xu rfl ?_⟩)
 refine U.no rfl (U.A0 (C1 (d:=d) (c:=c) (p0:=p0) (p1:=p1) (p2:=p2) hx (by rw [g2];rfl)) ?_)
 (intro _ ds h0;cases h0;refine⟨rfl,U.Xu rfl ?_⟩)
 refine U.no rfl (U.A0 (C1 (d:=d) (c:=c) (p0:=p0) (p1:=p1) (p2:=p2) hx (by rw [g3];rfl)) ?_)
 (intro _ ds h0;cases h0;refine⟨rfl,U.Xu rfl ?_⟩)
 refine U.no rfl (U.A0 (dF (d:=d) (c:=c) (p0:=p0) (p1:=p1) (p2:=p2) _ hx) ?_)
 (intro _ ds h0;cases h0;refine⟨rfl,U.Xu rfl ?_⟩)
 refine U.no (by show (_&&_)=false;rw [g4];rfl) (U.A0 (dF (d:=d) (c:=c) (p0:=p0) (p1:=p1) (p2:=p2) _ hx) ?_)
 (intro _ ds h0;cases h0;refine⟨rfl,U.Xu rfl ?_⟩)
 refine U.no (by show (_&&_)=false;rw [g5];rfl) (U.A0 I ?_)
 rintro _ ds ⟨y,hy,h0⟩
 cases h0
 obtain⟨k,a,b,e,t,ar,rfl,hk⟩:=hR y hy
 refine⟨rfl,U.Xu rfl (U.no (Zn.2 hk) ?_)⟩
 exact G4 (fun n=>cG.eq_1 n _ _ _ _ _ _ _ _ _ _ _) (U.no rfl (U.ret ⟨_,hy,rfl⟩))
theorem As {i m:Nat}{R:List D→Prop}{h:Nat}(k a b e:Int)(t:Zt)(ho:∃ a b e,l[i]? = some (tk 3 [40] a b e))(H:La l (i+1) m R h)(hs:∃ a b e,l[i+1+m]? = some (tk 3 [41] a b e)) :
  Ph (fun n=>P9 n (tk k t a b e)) l i (1+m+1) (fun y=>∃ ys,y=PE 10 a b e t ys∧R ys) h:=by
 intro d c p0 p1 p2 hd hd2
 obtain⟨a2,b2,e2,ho⟩:=ho
 obtain⟨a3,b3,e3,hs⟩:=hs
 have I:=H d c p0 p1 p2 hd hd2
 rw [show i+(1+m+1)=i+1+m+1 from by omega]
 refine U.eq (fun n=>xO n k t a b e l i d c p0 p1 p2 0) (U.A0 (G6 (d:=d) (c:=c) (p0:=p0) (p1:=p1) (p2:=p2) hl [[40]] (by decide) (H8 ho rfl)) ?_)
 (intro _ ds h0;cases h0;refine⟨rfl,U.Xu rfl ?_⟩)
 refine U.A0 I ?_
 rintro _ ds ⟨ys,hys,h0⟩
 cases h0
 refine⟨rfl,U.Xu rfl (U.A0 (G6 (d:=d) (c:=c) (p0:=p0) (p1:=p1) (p2:=p2) hl [[41]] (by decide) (H8 hs rfl)) ?_)⟩
 (intro _ ds h0;cases h0;refine⟨rfl,U.Xu rfl ?_⟩)
 exact U.ret ⟨_,⟨ys,rfl,hys⟩,rfl⟩
theorem WR {i m:Nat}{R:List D→Prop}{h:Nat}{t:Zt}(hg:Eh t=true)(hx:∃ a b e,l[i]? = some (tk 1 t a b e))(ho:∃ a b e,l[i+1]? = some (tk 3 [40] a b e))(H:La l (i+2) m R h)(hs:∃ a b e,l[i+2+m]? = some (tk 3 [41] a b e)) :
  Ph sE l i (2+m+1) (fun y=>∃ a b e ys,y=PE 10 a b e t ys∧R ys) h:=by
 intro d c p0 p1 p2 hd hd2
 obtain⟨a,b,e,hx⟩:=hx
 have C:=As hl 1 a b e t (i:=i+1) ho H hs d c p0 p1 p2 hd hd2
 obtain⟨a2,b2,e2,ho⟩:=ho
 have hg0:=hg
 simp only [Eh,Xz,Zd] at hg
 obtain⟨⟨⟨⟨g1,g2⟩,g3⟩,g4⟩,g5⟩:=hg
 unfold sE
 rw [show i+(2+m+1)=i+1+(1+m+1) from by omega]
 refine U.eq (fun n=>V3 n l i d c p0 p1 p2 0) (U.A0 (K8 (d:=d) (c:=c) (p0:=p0) (p1:=p1) (p2:=p2) hx) ?_)
 (intro _ ds h0;cases h0;refine⟨rfl,U.Xu rfl ?_⟩)
 refine U.no rfl (U.A0 (C1 (d:=d) (c:=c) (p0:=p0) (p1:=p1) (p2:=p2) hx (by rw [g2];rfl)) ?_)
 (intro _ ds h0;cases h0;refine⟨rfl,U.Xu rfl ?_⟩)
 refine U.no rfl (U.A0 (C1 (d:=d) (c:=c) (p0:=p0) (p1:=p1) (p2:=p2) hx (by rw [g3];rfl)) ?_)
 (intro _ ds h0;cases h0;refine⟨rfl,U.Xu rfl ?_⟩)
 refine U.no rfl (U.A0 (dF (d:=d) (c:=c) (p0:=p0) (p1:=p1) (p2:=p2) _ hx) ?_)
 (intro _ ds h0;cases h0;refine⟨rfl,U.Xu rfl ?_⟩)
 refine U.no (by show (_&&_)=false;rw [g4];rfl) (U.A0 (dF (d:=d) (c:=c) (p0:=p0) (p1:=p1) (p2:=p2) _ hx) ?_)
 (intro _ ds h0;cases h0;refine⟨rfl,U.Xu rfl ?_⟩)
 refine U.no (by show (_&&_)=false;rw [g5];rfl) (U.A0 (JG (d:=d) (c:=c) (p0:=p0) (p1:=p1) (p2:=p2) hl hx g1 ho rfl) ?_)
 (intro _ ds h0;cases h0;refine⟨rfl,U.Xu rfl ?_⟩)
 refine U.Xu rfl (U.A0 (dF (d:=d) (c:=c) (p0:=p0) (p1:=p1) (p2:=p2) [40] ho) ?_)
 (intro _ ds h0;cases h0;refine⟨rfl,U.Xu rfl ?_⟩)
 refine G4 (fun n=>cG.eq_1 n _ _ _ _ _ _ _ _ _ _ _) (U.Xu rfl (U.A0 C ?_))
 rintro _ ds ⟨y,⟨ys,rfl,hys⟩,h0⟩
 cases h0
 exact⟨rfl,U.Xu rfl (U.ret ⟨_,⟨a,b,e,ys,rfl,hys⟩,rfl⟩)⟩
theorem Br {i m:Nat}{R:List D→Prop}{h:Nat}{t:Zt}(ht:t=[36,115,105,103,110,101,100]∨t=[36,117,110,115,105,103,110,101,100])(hx:∃ a b e,l[i]? = some (tk 1 t a b e))(ho:∃ a b e,l[i+1]? = some (tk 3 [40] a b e))(H:La l (i+2) m R h)(hs:∃ a b e,l[i+2+m]? = some (tk 3 [41] a b e)) :
  Ph sE l i (2+m+1) (fun y=>∃ a b e ys,y=PE 10 a b e t ys∧R ys) h:=by
 intro d c p0 p1 p2 hd hd2
 obtain⟨a,b,e,hx⟩:=hx
 have hil:=EB hx
 have C:=As hl 1 a b e t (i:=i+1) ho H hs d c p0 p1 p2 hd hd2
 unfold sE
 rw [show i+(2+m+1)=i+1+(1+m+1) from by omega]
 rw [← H7 (j:=i) (by omega)] at C
 refine U.eq (fun n=>V3 n l i d c p0 p1 p2 0) (U.A0 (K8 (d:=d) (c:=c) (p0:=p0) (p1:=p1) (p2:=p2) hx) ?_)
 rcases ht with rfl|rfl
 ·(intro _ ds h0;cases h0;refine⟨rfl,U.Xu rfl ?_⟩)
  refine U.no rfl (U.A0 (C1 (d:=d) (c:=c) (p0:=p0) (p1:=p1) (p2:=p2) hx rfl) ?_)
  (intro _ ds h0;cases h0;refine⟨rfl,U.Xu rfl ?_⟩)
  refine U.no rfl (U.A0 (C1 (d:=d) (c:=c) (p0:=p0) (p1:=p1) (p2:=p2) hx rfl) ?_)
  (intro _ ds h0;cases h0;refine⟨rfl,U.Xu rfl ?_⟩)
  refine U.no rfl (U.A0 (dF (d:=d) (c:=c) (p0:=p0) (p1:=p1) (p2:=p2) _ hx) ?_)
  (intro _ ds h0;cases h0;refine⟨rfl,U.Xu rfl ?_⟩)
  refine U.Xu rfl (U.A0 C ?_)
  rintro _ ds ⟨y,⟨ys,rfl,hys⟩,h0⟩
  cases h0
  exact⟨rfl,U.Xu rfl (U.ret ⟨_,⟨a,b,e,ys,rfl,hys⟩,rfl⟩)⟩
 ·(intro _ ds h0;cases h0;refine⟨rfl,U.Xu rfl ?_⟩)
  refine U.no rfl (U.A0 (C1 (d:=d) (c:=c) (p0:=p0) (p1:=p1) (p2:=p2) hx rfl) ?_)
  (intro _ ds h0;cases h0;refine⟨rfl,U.Xu rfl ?_⟩)
  refine U.no rfl (U.A0 (C1 (d:=d) (c:=c) (p0:=p0) (p1:=p1) (p2:=p2) hx rfl) ?_)
  (intro _ ds h0;cases h0;refine⟨rfl,U.Xu rfl ?_⟩)
  refine U.no rfl (U.A0 (dF (d:=d) (c:=c) (p0:=p0) (p1:=p1) (p2:=p2) _ hx) ?_)
  (intro _ ds h0;cases h0;refine⟨rfl,U.Xu rfl ?_⟩)
  refine U.no rfl (U.A0 (dF (d:=d) (c:=c) (p0:=p0) (p1:=p1) (p2:=p2) _ hx) ?_)
  (intro _ ds h0;cases h0;refine⟨rfl,U.Xu rfl ?_⟩)
  refine U.Xu rfl (U.A0 C ?_)
  rintro _ ds ⟨y,⟨ys,rfl,hys⟩,h0⟩
  cases h0
  exact⟨rfl,U.Xu rfl (U.ret ⟨_,⟨a,b,e,ys,rfl,hys⟩,rfl⟩)⟩
end
end
end Go.Proofs.YtalibicpmfbieaaGreatDoor
