import Derived.Test.YtalibicpmfbieaaGreatDoorM4
import Derived.Test.YtalibicpmfbieaaGreatDoorM2
import Derived.Test.YtalibicpmfbieaaGreatDoorM1
namespace Go.Proofs.YtalibicpmfbieaaGreatDoor
open Go.AE
set_option linter.all false
section
theorem jG {T:NT}{x:D}(h:xN T x):∃ nm ty q f sg es fs,x=I 1 nm ty sg es fs [] [] [] [] []∧nm∈cN∧(ty,q,f)∈T∧(ty=iS→sg=true)∧es.length≤q∧(es.length=0∨es.length=2∨es.length=4)∧(fs=[]∨(f=true∧fs.length=1∧es.length≤2))∧(∀ e∈es,fD 4 e)∧∀ e∈fs,fD 4 e:=h
theorem Te {nm ty:G1}{q:Nat}{f sg:Bool}{es fs:List D}(hm:(ty,q,f)∈CO):EP (I 1 nm ty sg es fs [] [] [] [] [])=(1,ty)::(nR nm ty sg es fs++[(3,[59])]):=by
 have ho:(ty==bY)=false:=by
  simp only [CO,B7,C7,List.not_mem_nil,or_false] at hm
  rcases hm with ⟨rfl,_⟩|⟨rfl,_⟩|⟨rfl,_⟩<;>rfl
 show nW nm ty sg es fs++[(3,[59])]=_
 rw [Qr,ho];rfl
section
variable {l:List D} (hl:l.length≤1000000) {n:Nat}
include hl
theorem Py (q0 q1 q2 d c p0 p1 p2:Int)(hd:0≤d)(hd2:d≤32)(nm:G1)(sg:Bool)(es:List D){rest:List Tk}(hrest:∀ i,K0 l i rest→∃ k t a b e,l[i]? = some (tk k t a b e)∧t∈sT):∀ (xs:List D) (i:Nat) (acc us:List D),(∀ x∈xs,xN CO x)→K0 l i (xs.flatMap EP++rest)→xs.length+acc.length≤100→Rl (OI (n+1)) us acc→
  U (fun m=>R9 m (.Z 5 l) (i:Int) d c p0 p1 p2 (0:Int) (0:Int) (0:Int) (0:Int) (0:Int) (.str []) (.str []) (.bool false) (7:Int) q0 q1 q2 (.str nm) (.str []) (.bool sg) (.Z 6 []) (.Z 6 []) (.Z 8 []) (.Z 14 []) (.Z 14 []) (.Z 5 []) (.Z 5 []) (.Z 6 es) (.Z 6 []) (.Z 8 []) (.Z 14 acc) (.Z 14 []) (.Z 5 []) (.Z 5 [])) fun r=>∃ ys,Rl (OI (n+1)) (us++xs) ys∧r=(false,[.Z 5 l,.int .i64 ((i+(xs.flatMap EP).length:Nat):Int),.int .i64 d,.int .i64 c,.int .i64 p0,.int .i64 p1,.int .i64 p2,.int .i64 0,.int .i64 0,.int .i64 0,.int .i64 0,.int .i64 0,.str [],.str [],.bool false,.int .i64 7,.int .i64 q0,.int .i64 q1,.int .i64 q2,.str nm,.str [],.bool sg,.Z 6 [],.Z 6 [],.Z 8 [],.Z 14 [],.Z 14 [],.Z 5 [],.Z 5 [],.Z 6 es,.Z 6 [],.Z 8 [],.Z 14 ys,.Z 14 [],.Z 5 [],.Z 5 []]):=by
 intro xs
 induction xs with
 |nil=>
  intro i acc us _ ht _ hr
  obtain⟨kk,t,a,b,e,h1,h2⟩:=hrest i ht
  refine U.eq (fun m=>kV m _ _ _ _ _ _ _ _ _ _ _ _ _ _ _ _ _ _ _ _ _ _ _ _ _ _ _ _ _ _ _ _ _ _ _ _) (U.H6 (gM (d:=d) (c:=c) (p0:=p0) (p1:=p1) (p2:=p2) QK h1) ?_)
  (intro _ ds h0;cases h0;refine⟨rfl,U.I0 rfl ?_⟩)
  refine U.no (by exact PA (TJ h2 (by simp [Ti]))) (U.H6 (gM (d:=d) (c:=c) (p0:=p0) (p1:=p1) (p2:=p2) lC h1) ?_)
  (intro _ ds h0;cases h0;refine⟨rfl,U.I0 rfl ?_⟩)
  refine U.no (by exact PA (TJ h2 (by simp [Ti]))) (U.H6 (gM (d:=d) (c:=c) (p0:=p0) (p1:=p1) (p2:=p2) iS h1) ?_)
  (intro _ ds h0;cases h0;refine⟨rfl,U.I0 rfl ?_⟩)
  refine O6 (fun m=>Y6.eq_1 m _ _ _ _ _ _ _ _ _ _ _ _ _ _ _ _ _ _ _ _ _ _ _ _ _ _ _ _ _ _ _ _ _ _ _ _ _) (U.no (by exact PA (TJ h2 (by simp [Ti]))) (U.ret ⟨acc,by rw [D5];exact hr,rfl⟩))
 |cons x xs ih=>
  intro i acc us hx ht hn hr
  obtain⟨nm',ty,q,f,sg',es',fs',ex,g1,g2,g3,g4,g5,g6,g7,g8⟩:=jG (hx x (B8 ..))
  subst ex
  have hf:f=false:=by
   simp only [CO,B7,C7,List.not_mem_nil,or_false] at g2
   rcases g2 with ⟨_,_,h⟩|⟨_,_,h⟩|⟨_,_,h⟩<;>exact h
  have hfs:fs'=[]:=by rcases g6 with h|⟨h,_⟩;exact h;rw [hf] at h;cases h
  have hq2:es'.length≤2:=by
   simp only [CO,B7,C7,List.not_mem_nil,or_false] at g2
   rcases g2 with ⟨_,h,_⟩|⟨_,h,_⟩|⟨_,h,_⟩<;>omega
  rw [D9,Te g2] at ht
  have ht:K0 l i ((1,ty)::(nR nm' ty sg' es' fs'++([(3,[59])]++(xs.flatMap EP++rest)))):=by simpa using ht
  obtain⟨a1,b1,e1,h1⟩:=J8 ht
  obtain⟨h2,h3⟩:=K4.1 (K7 ht)
  have h3:=eI h3
  obtain⟨a3,b3,e3,g9⟩:=J8 h3
  have hR:=K7 h3
  have hi:=HG h1
  have N:=PB hl (Gp (.inr (.inr (.inl rfl)))) g1 g2 g3 g4 g5 g6 g7 g8 h2 g9 rfl a1 b1 e1 d c p0 p1 p2 hd hd2
  rw [← P0 (j:=i) (by omega)] at N
  simp only [A0] at hn
  have eL:((I 1 nm' ty sg' es' fs' [] [] [] [] []::xs).flatMap EP).length=1+(nR nm' ty sg' es' fs').length+1+(xs.flatMap EP).length:=by
   rw [D9,Te g2];simp only [G0];omega
  have J:U (fun m=>Y6 m true l (i:Int) d c p0 p1 p2 0 acc 0 0 0 0 [] [] false 7 q0 q1 q2 nm [] sg [] [] [] [] [] [] [] es [] [] [] [] []) fun r=>∃ ys,Rl (OI (n+1)) (us++I 1 nm' ty sg' es' fs' [] [] [] [] []::xs) ys∧r=(false,[.Z 5 l,.int .i64 ((i+((I 1 nm' ty sg' es' fs' [] [] [] [] []::xs).flatMap EP).length:Nat):Int),.int .i64 d,.int .i64 c,.int .i64 p0,.int .i64 p1,.int .i64 p2,.int .i64 0,.int .i64 0,.int .i64 0,.int .i64 0,.int .i64 0,.str [],.str [],.bool false,.int .i64 7,.int .i64 q0,.int .i64 q1,.int .i64 q2,.str nm,.str [],.bool sg,.Z 6 [],.Z 6 [],.Z 8 [],.Z 14 [],.Z 14 [],.Z 5 [],.Z 5 [],.Z 6 es,.Z 6 [],.Z 8 [],.Z 14 ys,.Z 14 [],.Z 5 [],.Z 5 []]):=by
   refine O6 (fun m=>Y6.eq_1 m _ _ _ _ _ _ _ _ _ _ _ _ _ _ _ _ _ _ _ _ _ _ _ _ _ _ _ _ _ _ _ _ _ _ _ _ _) (U.I0 rfl (U.H6 (S5 (d:=d) (c:=c) (p0:=p0) (p1:=p1) (p2:=p2) h1) ?_))
   (intro _ ds h0;cases h0;refine⟨rfl,U.I0 rfl ?_⟩)
   refine U.H6 N ?_
   rintro _ ds ⟨es2,fs2,hE,hF,h0⟩;cases h0
   have hO:OI (n+1) (I 1 nm' ty sg' es' fs' [] [] [] [] []) (AJ 1 a1 b1 e1 nm' ty sg' es2 fs2 [] [] [] [] []):=AO (i:=a1) (j:=b1) (l:=e1) hE hF (by simp) (by simp) (by simp) (by simp) (by simp) Rl.nil Rl.nil Rl.nil Rl.nil Rl.nil
   have l1:es2.length=es'.length:=hE.2.1.symm
   have l2:fs2.length=fs'.length:=hF.2.1.symm
   refine⟨rfl,U.I0 rfl (U.no (E8 (by show ¬ ((es2.length:Int)>2);omega)) ?_)⟩
   refine O6 (fun m=>fU.eq_1 m _ _ _ _ _ _ _ _ _ _ _ _ _ _ _ _ _ _ _ _ _ _ _ _ _ _ _ _ _ _ _) (U.no (E8 (by show ¬ ((fs2.length:Int)>0);rw [l2,hfs];simp)) (U.H6 (O7 (d:=d) (c:=c) (p0:=p0) (p1:=p1) (p2:=p2) hl [[59]] (by decide) (P5 g9 rfl)) ?_))
   (intro _ ds h0;cases h0;refine⟨rfl,U.I0 rfl ?_⟩)
   refine U.I0 (B2 (by simp only [L7];omega)) (O6 (fun m=>fV.eq_1 m _ _ _ _ _ _ _ _ _ _ _ _ _ _ _ _ _ _ _ _ _ _ _ _ _ _ _ _ _ _ _ _ _ _ _ _) ?_)
   have K:=ih (i+1+(nR nm' ty sg' es' fs').length+1) (acc++[AJ 1 a1 b1 e1 nm' ty sg' es2 fs2 [] [] [] [] []]) (us++[I 1 nm' ty sg' es' fs' [] [] [] [] []]) (fun x h=>hx x (C0 _ h)) hR (by rw [A7,C9];omega) (hr.snoc hO)
   refine K.mono fun r ⟨ys,k1,k2⟩=>⟨ys,by rw [C1] at k1;exact k1,?_⟩
   rw [k2,eL,show i+(1+(nR nm' ty sg' es' fs').length+1+(xs.flatMap EP).length)=i+1+(nR nm' ty sg' es' fs').length+1+(xs.flatMap EP).length from by omega]
  have hty:ty=QK∨ty=lC∨ty=iS:=by
   simp only [CO,B7,C7,List.not_mem_nil,or_false] at g2
   rcases g2 with ⟨h,_⟩|⟨h,_⟩|⟨h,_⟩
   ·exact .inl h
   ·exact .inr (.inl h)
   ·exact .inr (.inr h)
  refine U.eq (fun m=>kV m _ _ _ _ _ _ _ _ _ _ _ _ _ _ _ _ _ _ _ _ _ _ _ _ _ _ _ _ _ _ _ _ _ _ _ _) (U.H6 (gM (d:=d) (c:=c) (p0:=p0) (p1:=p1) (p2:=p2) QK h1) ?_)
  (intro _ ds h0;cases h0;refine⟨rfl,U.I0 rfl ?_⟩)
  rcases hty with rfl|rfl|rfl
  ·exact U.I0 rfl J
  ·refine U.no rfl (U.H6 (gM (d:=d) (c:=c) (p0:=p0) (p1:=p1) (p2:=p2) lC h1) ?_)
   (intro _ ds h0;cases h0;refine⟨rfl,U.I0 rfl ?_⟩)
   exact U.I0 rfl J
  ·refine U.no rfl (U.H6 (gM (d:=d) (c:=c) (p0:=p0) (p1:=p1) (p2:=p2) lC h1) ?_)
   (intro _ ds h0;cases h0;refine⟨rfl,U.I0 rfl ?_⟩)
   refine U.no rfl (U.H6 (gM (d:=d) (c:=c) (p0:=p0) (p1:=p1) (p2:=p2) iS h1) ?_)
   (intro _ ds h0;cases h0;refine⟨rfl,U.I0 rfl ?_⟩)
   exact J
theorem Us {sg:Bool}{es its:List D}{s:D}(h2e:es.length=0∨es.length=2)(he:∀ e∈es,fD 4 e)(h1n:its.length≤2)(hx:∀ x∈its,xN CO x)(hs:sE 4 s){i:Nat}(ht:K0 l i ([(1,yG)]++((bif sg then [(1,mL)] else [])++(pA es++([(1,[102]),(3,[59])]++(its.flatMap EP++(wS 4 s++[(1,mG)]))))))) :
  Pi (fun m=>O0 m) l i ((bif sg then 1 else 0)+(pA es).length+(its.flatMap EP).length+(wS 4 s).length+4) (1+qS 4 s) (OI (n+1+1) (I 7 [102] [] sg es [] [s] its [] [] [])) 16:=by
 have ht:=eI ht
 obtain⟨a1,b1,e1,h1⟩:=J8 ht
 obtain⟨hsg,ht⟩:=K4.1 (K7 ht)
 have sgl:((bif sg then [(1,mL)] else []):List Tk).length=(bif sg then 1 else 0):=by cases sg<;>rfl
 rw [sgl] at ht
 obtain⟨hb,ht⟩:=K4.1 ht
 have ht:K0 l (i+1+(bif sg then 1 else 0)+(pA es).length) ((1,[102])::(3,[59])::(its.flatMap EP++(wS 4 s++[(1,mG)]))):=ht
 obtain⟨a2,b2,e2,h2⟩:=J8 ht
 obtain⟨a3,b3,e3,h3⟩:=J8 (K7 ht)
 have hD:=K7 (K7 ht)
 obtain⟨_,hS⟩:=K4.1 hD
 obtain⟨hS,h9⟩:=K4.1 hS
 obtain⟨a9,b9,e9,h9⟩:=J8 h9
 intro d c p0 p1 p2 hd hd2 hc hc2
 have S0:U (fun m=>H8 m (.str mL) (.Z 5 l) ((i+1:Nat):Int) (d+1:Int) (c+1:Int) p0 p1 p2 (0:Int)) fun r=>r=(true,[.bool sg,.Z 5 l,.int .i64 ((i+1+(bif sg then 1 else 0):Nat):Int),.int .i64 (d+1),.int .i64 (c+1),.int .i64 p0,.int .i64 p1,.int .i64 p2,.int .i64 0]):=by
  cases sg with
  |true=>
   obtain⟨a4,b4,e4,h4⟩:=J8 (show K0 l (i+1) [(1,mL)] from hsg)
   exact N6 (d:=(d+1)) (c:=(c+1)) (p0:=p0) (p1:=p1) (p2:=p2) hl h4 rfl
  |false=>
   match es,h2e,hb,h2 with
   |[],_,_,h2=>exact J7 (d:=(d+1)) (c:=(c+1)) (p0:=p0) (p1:=p1) (p2:=p2) (show l[i+1]? = _ from h2) rfl
   |[x,y],_,hb,_=>
    obtain⟨a4,b4,e4,h4⟩:=J8 (show K0 l (i+1) ((3,[91])::_) from hb)
    exact J7 (d:=(d+1)) (c:=(c+1)) (p0:=p0) (p1:=p1) (p2:=p2) h4 rfl
 have B:=IK hl h2e he hb h2 rfl (d+1) (c+1) p0 p1 p2 (by omega) (by omega)
 have I:=aA3 hl 4 s hs _ hS (fun _=>⟨1,mG,a9,b9,e9,h9,rfl⟩) (d+1) (c+1) p0 p1 p2 (by omega) (by show d+1+14≤40;omega) (by omega) (by omega)
 have A:U (fun m=>Z1 m (.agg [.int .i64 a1,.int .i64 b1,.int .i64 e1]) (.Z 5 l) ((i+1:Nat):Int) (d+1:Int) (c+1:Int) p0 p1 p2 (0:Int)) fun r=>∃ es' its' y,jI es es'∧Rl (OI (n+1)) its its'∧OS 4 s y∧r=(true,[AJ 7 a1 b1 e1 [102] [] sg es' [] [y] its' [] [] [],.Z 5 l,.int .i64 ((i+((bif sg then 1 else 0)+(pA es).length+(its.flatMap EP).length+(wS 4 s).length+4):Nat):Int),.int .i64 (d+1),.int .i64 (c+1+(qS 4 s:Int)),.int .i64 p0,.int .i64 p1,.int .i64 p2,.int .i64 0]):=by
  refine U.eq (fun m=>uK m a1 b1 e1 l _ (d+1) (c+1) p0 p1 p2 0) (U.H6 S0 ?_)
  (intro _ ds h0;cases h0;refine⟨rfl,U.I0 rfl ?_⟩)
  refine U.H6 B ?_
  rintro _ ds ⟨es',hE,h0⟩;cases h0
  have Dc:=Py hl (n:=n) a1 b1 e1 (d+1) (c+1) p0 p1 p2 (by omega) (by omega) [102] sg es' (rest:=wS 4 s++[(1,mG)]) (fun j hj=>Od hs (K4.1 hj).1) its (i+1+(bif sg then 1 else 0)+(pA es).length+1+1) [] [] hx hD (by simp;omega) Rl.nil
  refine⟨rfl,U.I0 rfl (U.H6 (kB (d:=(d+1)) (c:=(c+1)) (p0:=p0) (p1:=p1) (p2:=p2) hl h2 (by kernel_rfl)) ?_)⟩
  (intro _ ds h0;cases h0;refine⟨rfl,U.I0 rfl ?_⟩)
  refine U.H6 (O7 (d:=(d+1)) (c:=(c+1)) (p0:=p0) (p1:=p1) (p2:=p2) hl [[59]] (by decide) (P5 h3 rfl)) ?_
  (intro _ ds h0;cases h0;refine⟨rfl,U.I0 rfl ?_⟩)
  refine U.L3 Dc (fun ds h=>by obtain⟨_,_,h⟩:=h;cases h) fun ds h=>?_
  obtain⟨its',hI,h⟩:=h
  cases h
  refine U.I0 rfl (U.H6 I ?_)
  rintro _ ds ⟨y,hy,h0⟩;cases h0
  have hy0:=hy
  obtain⟨k5,i5,j5,l5,t5,es5,bs5,zs5,es6,bs6,zs6,_,rfl⟩:=rQ hy
  refine⟨rfl,U.I0 rfl (U.H6 (O7 (d:=(d+1)) (c:=(c+1+(qS 4 s:Int))) (p0:=p0) (p1:=p1) (p2:=p2) hl [mG] (by decide) (P5 h9 rfl)) ?_)⟩
  (intro _ ds h0;cases h0;refine⟨rfl,U.I0 rfl ?_⟩)
  refine U.ret ⟨es',its',_,hE,hI,hy0,?_⟩
  rw [show i+((bif sg then 1 else 0)+(pA es).length+(its.flatMap EP).length+(wS 4 s).length+4)=i+1+(bif sg then 1 else 0)+(pA es).length+1+1+(its.flatMap EP).length+(wS 4 s).length+1 from by omega]
  rfl
 (refine U.eq (fun m=>P3 m l i d c p0 p1 p2 0) (U.H6 (kG (l:=l) (d:=d) (c:=c) (p0:=p0) (p1:=p1) (p2:=p2) (i:Int) (by omega) hd) ?_);intro _ ds h0;cases h0;refine⟨rfl,U.I0 rfl (U.no rfl (U.H6 (X4 (l:=l) (d:=(d+1)) (c:=c) (p0:=p0) (p1:=p1) (p2:=p2) (i:Int) (by omega) hc) ?_))⟩;intro _ ds h0;cases h0;refine⟨rfl,U.I0 rfl (U.H6 (S5 (d:=(d+1)) (c:=(c+1)) (p0:=p0) (p1:=p1) (p2:=p2) h1) ?_)⟩;intro _ ds h0;cases h0;refine⟨rfl,U.I0 rfl ?_⟩)
 (refine U.H6 (J7 (d:=(d+1)) (c:=(c+1)) (p0:=p0) (p1:=p1) (p2:=p2) h1 rfl) ?_;intro _ ds h0;cases h0;refine⟨rfl,U.I0 rfl (U.no rfl (U.H6 (J7 (d:=(d+1)) (c:=(c+1)) (p0:=p0) (p1:=p1) (p2:=p2) h1 rfl) ?_))⟩;intro _ ds h0;cases h0;refine⟨rfl,U.I0 rfl (U.no rfl (U.H6 (J7 (d:=(d+1)) (c:=(c+1)) (p0:=p0) (p1:=p1) (p2:=p2) h1 rfl) ?_))⟩;intro _ ds h0;cases h0;refine⟨rfl,U.I0 rfl (O6 (fun m=>N8.eq_1 m _ _ _ _ _ _ _ _ _ _ _) (U.no rfl ?_))⟩)
 (refine U.H6 (J7 (d:=(d+1)) (c:=(c+1)) (p0:=p0) (p1:=p1) (p2:=p2) h1 rfl) ?_;intro _ ds h0;cases h0;refine⟨rfl,U.I0 rfl (U.no rfl ?_)⟩)
 (refine U.H6 (J7 (d:=(d+1)) (c:=(c+1)) (p0:=p0) (p1:=p1) (p2:=p2) h1 rfl) ?_;intro _ ds h0;cases h0;refine⟨rfl,U.I0 rfl (U.no rfl ?_)⟩)
 (refine U.H6 (J7 (d:=(d+1)) (c:=(c+1)) (p0:=p0) (p1:=p1) (p2:=p2) h1 rfl) ?_;intro _ ds h0;cases h0;refine⟨rfl,U.I0 rfl (U.no rfl ?_)⟩)
 (refine U.H6 (J7 (d:=(d+1)) (c:=(c+1)) (p0:=p0) (p1:=p1) (p2:=p2) h1 rfl) ?_;intro _ ds h0;cases h0;refine⟨rfl,U.I0 rfl (U.no rfl ?_)⟩)
 (refine U.H6 (N6 (d:=(d+1)) (c:=(c+1)) (p0:=p0) (p1:=p1) (p2:=p2) hl h1 rfl) ?_;intro _ ds h0;cases h0;refine⟨rfl,U.I0 rfl (U.I0 rfl ?_)⟩)
 refine U.H6 A ?_
 rintro _ ds ⟨es',its',y,hE,hI,hy,h0⟩;cases h0
 refine⟨rfl,U.I0 rfl ?_⟩
 (refine O6 (fun m=>M0.eq_1 m _ _ _ _ _ _ _ _ _) (U.H6 (fS (l:=l) (d:=d) (c:=(c+1+(qS 4 s:Int))) (p0:=p0) (p1:=p1) (p2:=p2) _ (by omega) hd) ?_);intro _ ds h0;cases h0;refine⟨rfl,U.I0 rfl ?_⟩)
 refine U.ret ⟨_,AO (i:=a1) (j:=b1) (l:=e1) hE jI.nil (by simp) (by omega) (by simp) (by simp) (by simp) (Rl.one hy) hI Rl.nil Rl.nil Rl.nil,?_⟩
 rw [show c+((1+qS 4 s:Nat):Int)=c+1+(qS 4 s:Int) from by omega]
 rfl
end
def IH (n:Nat):Nat:=n+15
def iT:List G1:=[LH,lC,iS,oP,GO,qG,lU,yG,uN,yF,uI]
def Yp:List G1:=[fF,mH,dR]
theorem Uv:(iT.all fun t=>Yp.all fun w=>!(t==w))=true:=by kernel_rfl
theorem Sz {t w:G1}(h:t∈iT)(hw:w∈Yp):(t==w)=false:=by
 have:=B6.1 (B6.1 Uv t h) w hw
 rwa [D8] at this
theorem DS {l:List D}{i:Nat}{k:Int}{t:G1}{ws:List Tk}(h:K0 l i ((k,t)::ws))(ht:t∈iT):∃ k t a b e,l[i]? = some (tk k t a b e)∧t∈iT:=by
 obtain⟨a,b,e,h⟩:=J8 h
 exact⟨k,t,a,b,e,h,ht⟩
theorem Fg {l:List D}{T:NT}(hT:T=vN∨T=JN){n:Nat}{x:D}(h:xN T x){i:Nat}(ht:K0 l i (wI (n+1) x)):∃ k t a b e,l[i]? = some (tk k t a b e)∧t∈iT:=by
 obtain⟨nm,ty,q,f,sg,es,fs,rfl,_,hm,_⟩:=jG h
 have hty:(ty==bY)=false∧ty∈iT:=by
  rcases hT with rfl|rfl
  ·simp only [vN,C3,C7] at hm
   rw [hm.1];exact⟨rfl,by simp [iT]⟩
  ·simp only [JN,B7,C7,List.not_mem_nil,or_false] at hm
   rcases hm with h|h
   ·rw [h.1];exact⟨rfl,by simp [iT]⟩
   ·rw [h.1];exact⟨rfl,by simp [iT]⟩
 have ht:K0 l i (nW nm ty sg es fs++[(3,[59])]):=ht
 rw [Qr,hty.1] at ht
 exact DS (show K0 l i ((1,ty)::_) from ht) hty.2
theorem Lv {l:List D}{n:Nat}{x:D}(h:xI n x){i:Nat}(ht:K0 l i (wI n x)):∃ k t a b e,l[i]? = some (tk k t a b e)∧t∈iT:=by
 cases n with
 |zero=>exact h.elim
 |succ n=>
  rcases h with (h|h)|⟨nm,e,rfl,hn,he⟩|⟨nm,rfl,hn⟩|⟨l0,e,rfl,hlf,he⟩|⟨s0,rfl,hs⟩|⟨s0,rfl,hs⟩|⟨sg,es,its,s0,rfl,_⟩|⟨k,ps,qs,rfl,_⟩|⟨es,its,rfl,h3,_⟩|⟨e,its,els,rfl,he,_⟩
  ·exact Fg (.inl rfl) h ht
  ·exact Fg (.inr rfl) h ht
  ·exact DS (show K0 l i ((1,oP)::_) from ht) (by simp [iT])
  ·exact DS (show K0 l i ((1,GO)::_) from ht) (by simp [iT])
  ·exact DS (show K0 l i ((1,qG)::_) from ht) (by simp [iT])
  ·exact DS (show K0 l i ((1,lU)::_) from ht) (by simp [iT])
  ·exact DS (show K0 l i ((1,lU)::_) from ht) (by simp [iT])
  ·exact DS (show K0 l i ((1,yG)::_) from ht) (by simp [iT])
  ·exact DS (show K0 l i ((1,uN)::_) from ht) (by simp [iT])
  ·match es,h3,ht with
   |[a,b,c],_,ht=>exact DS (show K0 l i ((1,yF)::_) from ht) (by simp [iT])
  ·exact DS (show K0 l i ((1,uI)::_) from ht) (by simp [iT])
def aD3 (l:List D)(n:Nat):Prop:=∀ x,xI n x→∀ i,K0 l i (wI n x)→Js l (i+(wI n x).length)→Pi (fun m=>O0 m) l i (wI n x).length (qI n x) (OI (2*n) x) (IH n)
section
variable {l:List D} (hl:l.length≤1000000) {n:Nat} (ih:aD3 l n)
include hl ih
theorem Qi {w:G1}(hw:w=fF∨w=mH)(d p0 p1 p2:Int)(hd:0≤d)(hd2:d+IH n≤40):∀ (xs:List D) (i:Nat) (c:Int) (acc us:List D),(∀ x∈xs,xI n x)→K0 l i (xs.flatMap (wI n)++[(1,w)])→xs.length+acc.length≤100→0≤c→c+sQ (qI n) xs≤4000→Rl (OI (2*n)) us acc→
  U (fun m=>W6 m (.str w) (.Z 5 l) (i:Int) d c p0 p1 p2 (0:Int) (.Z 14 acc)) fun r=>∃ ys,Rl (OI (2*n)) (us++xs) ys∧r=(false,[.str w,.Z 5 l,.int .i64 ((i+((xs.flatMap (wI n)).length+1):Nat):Int),.int .i64 d,.int .i64 (c+(sQ (qI n) xs:Nat)),.int .i64 p0,.int .i64 p1,.int .i64 p2,.int .i64 0,.Z 14 ys]):=by
 intro xs
 have hwi:w∈Yp:=by rcases hw with rfl|rfl<;>simp [Yp]
 induction xs with
 |nil=>
  intro i c acc us _ ht _ hc _ hr
  obtain⟨a,b,e,h1⟩:=J8 (show K0 l i [(1,w)] from ht)
  refine U.eq (fun m=>mZ m _ _ _ _ _ _ _ _ _ _) (U.I0 rfl (U.H6 (N6 (d:=d) (c:=c) (p0:=p0) (p1:=p1) (p2:=p2) hl h1 (by rw [F3];rfl)) ?_))
  (intro _ ds h0;cases h0;refine⟨rfl,U.I0 rfl ?_⟩)
  refine O6 (fun m=>eN.eq_1 m _ _ _ _ _ _ _ _ _ _ _) (U.no rfl (U.ret ⟨acc,by rw [D5];exact hr,?_⟩))
  show (_:Bool×List D)=(false,[.str w,.Z 5 l,.int .i64 ((i+(0+1):Nat):Int),.int .i64 d,.int .i64 (c+((0:Nat):Int)),.int .i64 p0,.int .i64 p1,.int .i64 p2,.int .i64 0,_])
  rw [show c+((0:Nat):Int)=c from by omega]
  rfl
 |cons x xs ihx=>
  intro i c acc us hx ht hn hc hq hr
  have hq:c+((qI n x+sQ (qI n) xs:Nat):Int)≤4000:=hq
  rw [D9,C1] at ht
  obtain⟨h1,h2⟩:=K4.1 ht
  have hwx:=hx x (B8 ..)
  obtain⟨k,t,a0,b0,e0,h0,hti⟩:=Lv hwx h1
  have hNel:Js l (i+(wI n x).length):=by
   cases xs with
   |nil=>
    obtain⟨a,b,e,h3⟩:=J8 (show K0 l _ [(1,w)] from h2)
    exact⟨1,w,a,b,e,h3,by rcases hw with rfl|rfl<;>rfl⟩
   |cons x2 xs=>
    rw [D9,C1] at h2
    obtain⟨k,t,a,b,e,g1,g2⟩:=Lv (hx x2 (by simp)) (K4.1 h2).1
    exact⟨k,t,a,b,e,g1,Sz g2 (by simp [Yp])⟩
  have I:=ih x hwx i h1 hNel d c p0 p1 p2 hd hd2 hc (by omega)
  simp only [A0] at hn
  refine U.eq (fun m=>mZ m _ _ _ _ _ _ _ _ _ _) (U.I0 rfl (U.H6 (J7 (d:=d) (c:=c) (p0:=p0) (p1:=p1) (p2:=p2) h0 (PA (Sz hti hwi))) ?_))
  (intro _ ds h0;cases h0;refine⟨rfl,U.I0 rfl ?_⟩)
  refine O6 (fun m=>eN.eq_1 m _ _ _ _ _ _ _ _ _ _ _) (U.I0 rfl (U.H6 I ?_))
  rintro _ ds ⟨y,hy,h3⟩;cases h3
  refine⟨rfl,U.I0 rfl (U.I0 (B2 (by show acc.length+[y].length≤L7;simp only [L7,A0,A8];omega)) ?_)⟩
  have K:=ihx (i+(wI n x).length) (c+(qI n x:Int)) (acc++[y]) (us++[x]) (fun z h=>hx z (C0 _ h)) h2 (by rw [A7,C9];omega) (by omega) (by omega) (hr.snoc hy)
  refine K.mono fun r ⟨ys,g1,g2⟩=>⟨ys,by rw [C1] at g1;exact g1,?_⟩
  rw [g2,D9,A7,show i+(wI n x).length+((xs.flatMap (wI n)).length+1)=i+((wI n x).length+(xs.flatMap (wI n)).length+1) from by omega]
  show (_:Bool×List D)=(false,[.str w,.Z 5 l,.int .i64 ((i+((wI n x).length+(xs.flatMap (wI n)).length+1):Nat):Int),.int .i64 d,.int .i64 (c+((qI n x+sQ (qI n) xs:Nat):Int)),.int .i64 p0,.int .i64 p1,.int .i64 p2,.int .i64 0,_])
  rw [show c+(qI n x:Int)+(sQ (qI n) xs:Int)=c+((qI n x+sQ (qI n) xs:Nat):Int) from by omega]
theorem YV {w:G1}(hw:w=fF∨w=mH){xs:List D}(hn:xs.length≤10)(hx:∀ x∈xs,xI n x){i:Nat}(ht:K0 l i (xs.flatMap (wI n)++[(1,w)]))(d c p0 p1 p2:Int)(hd:0≤d)(hd2:d+IH n≤40)(hc:0≤c)(hq:c+sQ (qI n) xs≤4000) :
  U (fun m=>T3 m (.str w) (.Z 5 l) (i:Int) d c p0 p1 p2 (0:Int)) fun r=>∃ ys,Rl (OI (2*n)) xs ys∧r=(true,[.Z 5 l,.int .i64 ((i+((xs.flatMap (wI n)).length+1):Nat):Int),.int .i64 d,.int .i64 (c+(sQ (qI n) xs:Nat)),.int .i64 p0,.int .i64 p1,.int .i64 p2,.int .i64 0,.Z 14 ys]):=by
 refine U.eq (fun m=>yN m w l i d c p0 p1 p2 0) (U.L3 (Qi hl ih hw d p0 p1 p2 hd hd2 xs i c [] [] hx ht (by simp;omega) hc hq Rl.nil) (fun ds h=>by obtain⟨_,_,h⟩:=h;cases h) fun ds h=>?_)
 obtain⟨ys,hy,h⟩:=h
 cases h
 exact U.I0 rfl (U.ret ⟨ys,hy,rfl⟩)
theorem BY {t:G1}(hg:qQ t=true){xs:List D}(hn:xs.length≤2)(hx:∀ x∈xs,xI n x){i:Nat}(ht:K0 l i ([(1,V9),(3,[58]),(1,t)]++(xs.flatMap (wI n)++[(1,fF)])))(d c p0 p1 p2:Int)(hd:0≤d)(hd2:d+IH n≤40)(hc:0≤c)(hq:c+sQ (qI n) xs≤4000) :
  U (fun m=>W1 m (.Z 5 l) (i:Int) d c p0 p1 p2 (0:Int)) fun r=>∃ y,OI (2*n+1) (gB t xs) y∧r=(true,[.Z 5 l,.int .i64 ((i+((xs.flatMap (wI n)).length+4):Nat):Int),.int .i64 d,.int .i64 (c+(sQ (qI n) xs:Nat)),.int .i64 p0,.int .i64 p1,.int .i64 p2,.int .i64 0,.Z 14 [y]]):=by
 have ht:K0 l i ((1,V9)::(3,[58])::(1,t)::(xs.flatMap (wI n)++[(1,fF)])):=ht
 obtain⟨a1,b1,e1,h1⟩:=J8 ht
 obtain⟨a2,b2,e2,h2⟩:=J8 (K7 ht)
 obtain⟨a3,b3,e3,h3⟩:=J8 (K7 (K7 ht))
 have h4:=K7 (K7 (K7 ht))
 have hw:FM l i [V9,[58]]:=by
  intro j hj
  have:j=0∨j=1:=by simp at hj;omega
  rcases this with rfl|rfl
  ·exact⟨1,_,_,_,h1,rfl⟩
  ·exact⟨3,_,_,_,h2,rfl⟩
 refine U.eq (fun m=>yH m l i d c p0 p1 p2 0) (U.H6 (S5 (d:=d) (c:=c) (p0:=p0) (p1:=p1) (p2:=p2) h1) ?_)
 (intro _ ds h0;cases h0;refine⟨rfl,U.I0 rfl ?_⟩)
 refine U.H6 (O7 (d:=d) (c:=c) (p0:=p0) (p1:=p1) (p2:=p2) hl [V9,[58]] (by decide) hw) ?_
 (intro _ ds h0;cases h0;refine⟨rfl,U.I0 rfl ?_⟩)
 refine U.H6 (kB (d:=d) (c:=c) (p0:=p0) (p1:=p1) (p2:=p2) hl h3 hg) ?_
 (intro _ ds h0;cases h0;refine⟨rfl,U.I0 rfl ?_⟩)
 refine U.H6 (YV hl ih (.inl rfl) (by omega) hx h4 d c p0 p1 p2 hd hd2 hc hq) ?_
 rintro _ ds ⟨ys,hy,h0⟩;cases h0
 refine⟨rfl,U.I0 rfl (U.ret ⟨_,AO (i:=a1) (j:=b1) (l:=e1) jI.nil jI.nil (by simp) (by omega) (by simp) (by simp) (by simp) Rl.nil hy Rl.nil Rl.nil Rl.nil,?_⟩)⟩
 rw [show i+((xs.flatMap (wI n)).length+4)=i+1+1+1+((xs.flatMap (wI n)).length+1) from by omega]
 rfl
theorem Ll {es its:List D}(h3:es.length=3)(he:∀ e∈es,fD 4 e)(hn:its.length≤2)(hx:∀ x∈its,xI n x){i:Nat}(ht:K0 l i (bR [105] es++([(1,V9),(3,[58]),(1,[103])]++(its.flatMap (wI n)++[(1,fF)])))) :
  Pi (fun m=>O0 m) l i ((bR [105] es).length+((its.flatMap (wI n)).length+4)) (1+sQ (qI n) its) (OI (2*n+1+1) (I 9 [105] [] false es [] [] [gB [103] its] [] [] [])) (IH (n+1)):=by
 obtain⟨h2,hB⟩:=K4.1 ht
 obtain⟨a1,b1,e1,h1⟩:∃ a b e,l[i]? = some (tk 1 yF a b e):=by
  match es,h3,h2 with
  |[x,y,z],_,h2=>exact J8 (show K0 l i ((1,yF)::_) from h2)
 intro d c p0 p1 p2 hd hd2 hc hc2
 have hH:d+1+(IH n:Int)≤40:=by unfold IH at hd2 ⊢;omega
 unfold IH at hd2
 have L:=Fa hl (t:=[105]) (by kernel_rfl) h3 he h2 (d+1) (c+1) p0 p1 p2 (by omega) (by omega)
 have B:=BY hl ih (t:=[103]) (by kernel_rfl) hn hx hB (d+1) (c+1) p0 p1 p2 (by omega) hH (by omega) (by omega)
 (refine U.eq (fun m=>P3 m l i d c p0 p1 p2 0) (U.H6 (kG (l:=l) (d:=d) (c:=c) (p0:=p0) (p1:=p1) (p2:=p2) (i:Int) (by omega) hd) ?_);intro _ ds h0;cases h0;refine⟨rfl,U.I0 rfl (U.no rfl (U.H6 (X4 (l:=l) (d:=(d+1)) (c:=c) (p0:=p0) (p1:=p1) (p2:=p2) (i:Int) (by omega) hc) ?_))⟩;intro _ ds h0;cases h0;refine⟨rfl,U.I0 rfl (U.H6 (S5 (d:=(d+1)) (c:=(c+1)) (p0:=p0) (p1:=p1) (p2:=p2) h1) ?_)⟩;intro _ ds h0;cases h0;refine⟨rfl,U.I0 rfl ?_⟩)
 (refine U.H6 (J7 (d:=(d+1)) (c:=(c+1)) (p0:=p0) (p1:=p1) (p2:=p2) h1 rfl) ?_;intro _ ds h0;cases h0;refine⟨rfl,U.I0 rfl (U.no rfl (U.H6 (J7 (d:=(d+1)) (c:=(c+1)) (p0:=p0) (p1:=p1) (p2:=p2) h1 rfl) ?_))⟩;intro _ ds h0;cases h0;refine⟨rfl,U.I0 rfl (U.no rfl (U.H6 (J7 (d:=(d+1)) (c:=(c+1)) (p0:=p0) (p1:=p1) (p2:=p2) h1 rfl) ?_))⟩;intro _ ds h0;cases h0;refine⟨rfl,U.I0 rfl (O6 (fun m=>N8.eq_1 m _ _ _ _ _ _ _ _ _ _ _) (U.no rfl ?_))⟩)
 (refine U.H6 (J7 (d:=(d+1)) (c:=(c+1)) (p0:=p0) (p1:=p1) (p2:=p2) h1 rfl) ?_;intro _ ds h0;cases h0;refine⟨rfl,U.I0 rfl (U.no rfl ?_)⟩)
 (refine U.H6 (J7 (d:=(d+1)) (c:=(c+1)) (p0:=p0) (p1:=p1) (p2:=p2) h1 rfl) ?_;intro _ ds h0;cases h0;refine⟨rfl,U.I0 rfl (U.no rfl ?_)⟩)
 (refine U.H6 (J7 (d:=(d+1)) (c:=(c+1)) (p0:=p0) (p1:=p1) (p2:=p2) h1 rfl) ?_;intro _ ds h0;cases h0;refine⟨rfl,U.I0 rfl (U.no rfl ?_)⟩)
 (refine U.H6 (J7 (d:=(d+1)) (c:=(c+1)) (p0:=p0) (p1:=p1) (p2:=p2) h1 rfl) ?_;intro _ ds h0;cases h0;refine⟨rfl,U.I0 rfl (U.no rfl ?_)⟩)
 (refine U.H6 (J7 (d:=(d+1)) (c:=(c+1)) (p0:=p0) (p1:=p1) (p2:=p2) h1 rfl) ?_;intro _ ds h0;cases h0;refine⟨rfl,U.I0 rfl (U.no rfl ?_)⟩)
 (refine U.H6 (J7 (d:=(d+1)) (c:=(c+1)) (p0:=p0) (p1:=p1) (p2:=p2) h1 rfl) ?_;intro _ ds h0;cases h0;refine⟨rfl,U.I0 rfl (U.no rfl ?_)⟩)
 (refine U.H6 (N6 (d:=(d+1)) (c:=(c+1)) (p0:=p0) (p1:=p1) (p2:=p2) hl h1 rfl) ?_;intro _ ds h0;cases h0;refine⟨rfl,U.I0 rfl (U.I0 rfl ?_)⟩)
 refine U.H6 L ?_
 rintro _ ds ⟨es',hE,h0⟩;cases h0
 refine⟨rfl,U.I0 rfl (U.H6 B ?_)⟩
 rintro _ ds ⟨y,hy,h0⟩;cases h0
 refine⟨rfl,U.I0 rfl ?_⟩
 (refine O6 (fun m=>M0.eq_1 m _ _ _ _ _ _ _ _ _) (U.H6 (fS (l:=l) (d:=d) (c:=(c+1+(sQ (qI n) its:Int))) (p0:=p0) (p1:=p1) (p2:=p2) _ (by omega) hd) ?_);intro _ ds h0;cases h0;refine⟨rfl,U.I0 rfl ?_⟩)
 refine U.ret ⟨_,AO (i:=a1) (j:=b1) (l:=e1) hE jI.nil (by simp) (by simp) (by simp) (by simp) (by simp) Rl.nil (Rl.one hy) Rl.nil Rl.nil Rl.nil,?_⟩
 rw [show i+((bR [105] es).length+((its.flatMap (wI n)).length+4))=i+(bR [105] es).length+((its.flatMap (wI n)).length+4) from by omega,show c+((1+sQ (qI n) its:Nat):Int)=c+1+(sQ (qI n) its:Int) from by omega]
 rfl
theorem Qd {e:D}{its els:List D}(he:fD 4 e)(hn:its.length≤2)(hx:∀ x∈its,xI n x)(hel:els=[]∨∃ ys,els=[gB [101] ys]∧ys.length≤2∧∀ i∈ys,xI n i){i:Nat}(ht:K0 l i (wI (n+1) (I 10 [] [] false [e] [] [] [gB [116] its] els [] [])))(hN:Js l (i+(wI (n+1) (I 10 [] [] false [e] [] [] [gB [116] its] els [] [])).length)) :
  Pi (fun m=>O0 m) l i (wI (n+1) (I 10 [] [] false [e] [] [] [gB [116] its] els [] [])).length (qI (n+1) (I 10 [] [] false [e] [] [] [gB [116] its] els [] [])) (OI (2*n+1+1) (I 10 [] [] false [e] [] [] [gB [116] its] els [] [])) (IH (n+1)):=by
 have eB:[gB [116] its].flatMap (vO (wI n))=[(1,V9),(3,[58]),(1,[116])]++(its.flatMap (wI n)++[(1,fF)]):=by
  show ([(1,V9),(3,[58]),(1,[116])]++(its.flatMap (wI n)++[(1,fF)]))++[]=_
  rw [D5]
 have eBl:([gB [116] its].flatMap (vO (wI n))).length=(its.flatMap (wI n)).length+4:=by
  rw [eB];simp only [G0];omega
 have eW:wI (n+1) (I 10 [] [] false [e] [] [] [gB [116] its] els [] [])=[(1,uI)]++(pW e++([gB [116] its].flatMap (vO (wI n))++(bif els.isEmpty then [] else [(1,dR)]++els.flatMap (vO (wI n))))):=rfl
 intro d c p0 p1 p2 hd hd2 hc hc2
 have hH:d+1+(IH n:Int)≤40:=by unfold IH at hd2 ⊢;omega
 unfold IH at hd2
 rw [eW] at ht hN
 have ht:=eI ht
 obtain⟨a1,b1,e1,h1⟩:=J8 ht
 obtain⟨h2,hq3⟩:=K4.1 (K7 ht)
 obtain⟨h3,h4⟩:=K4.1 hq3
 rw [eBl] at h4
 rw [eB] at h3
 clear hq3
 rcases hel with rfl|⟨ys,rfl,hyn,hyx⟩
 ·have eL:(wI (n+1) (I 10 [] [] false [e] [] [] [gB [116] its] [] [] [])).length=1+(pW e).length+((its.flatMap (wI n)).length+4):=by
   rw [eW];simp only [List.isEmpty_nil,cond_true,D5,A7,eBl,A0,A8]
   omega
  have eQ:qI (n+1) (I 10 [] [] false [e] [] [] [gB [116] its] [] [] [])=1+sQ (qI n) its:=by
   show 1+(0+(sQ (qI n) its+0)+0)=_
   omega
  rw [eQ] at hc2
  rw [← eW,eL] at hN
  obtain⟨kn,tn,an,bn,en,hn1,hn2⟩:=hN
  have hn1:l[i+1+(pW e).length+((its.flatMap (wI n)).length+4)]? = some (tk kn tn an bn en):=QP hn1 (by omega)
  have B:=BY hl ih (t:=[116]) (by kernel_rfl) hn hx h3 (d+1) (c+1) p0 p1 p2 (by omega) hH (by omega) (by omega)
  rw [eL,eQ]
  (refine U.eq (fun m=>P3 m l i d c p0 p1 p2 0) (U.H6 (kG (l:=l) (d:=d) (c:=c) (p0:=p0) (p1:=p1) (p2:=p2) (i:Int) (by omega) hd) ?_);intro _ ds h0;cases h0;refine⟨rfl,U.I0 rfl (U.no rfl (U.H6 (X4 (l:=l) (d:=(d+1)) (c:=c) (p0:=p0) (p1:=p1) (p2:=p2) (i:Int) (by omega) hc) ?_))⟩;intro _ ds h0;cases h0;refine⟨rfl,U.I0 rfl (U.H6 (S5 (d:=(d+1)) (c:=(c+1)) (p0:=p0) (p1:=p1) (p2:=p2) h1) ?_)⟩;intro _ ds h0;cases h0;refine⟨rfl,U.I0 rfl ?_⟩)
  (refine U.H6 (J7 (d:=(d+1)) (c:=(c+1)) (p0:=p0) (p1:=p1) (p2:=p2) h1 rfl) ?_;intro _ ds h0;cases h0;refine⟨rfl,U.I0 rfl (U.no rfl (U.H6 (J7 (d:=(d+1)) (c:=(c+1)) (p0:=p0) (p1:=p1) (p2:=p2) h1 rfl) ?_))⟩;intro _ ds h0;cases h0;refine⟨rfl,U.I0 rfl (U.no rfl (U.H6 (J7 (d:=(d+1)) (c:=(c+1)) (p0:=p0) (p1:=p1) (p2:=p2) h1 rfl) ?_))⟩;intro _ ds h0;cases h0;refine⟨rfl,U.I0 rfl (O6 (fun m=>N8.eq_1 m _ _ _ _ _ _ _ _ _ _ _) (U.no rfl ?_))⟩)
  (refine U.H6 (J7 (d:=(d+1)) (c:=(c+1)) (p0:=p0) (p1:=p1) (p2:=p2) h1 rfl) ?_;intro _ ds h0;cases h0;refine⟨rfl,U.I0 rfl (U.no rfl ?_)⟩)
  (refine U.H6 (J7 (d:=(d+1)) (c:=(c+1)) (p0:=p0) (p1:=p1) (p2:=p2) h1 rfl) ?_;intro _ ds h0;cases h0;refine⟨rfl,U.I0 rfl (U.no rfl ?_)⟩)
  (refine U.H6 (J7 (d:=(d+1)) (c:=(c+1)) (p0:=p0) (p1:=p1) (p2:=p2) h1 rfl) ?_;intro _ ds h0;cases h0;refine⟨rfl,U.I0 rfl (U.no rfl ?_)⟩)
  (refine U.H6 (J7 (d:=(d+1)) (c:=(c+1)) (p0:=p0) (p1:=p1) (p2:=p2) h1 rfl) ?_;intro _ ds h0;cases h0;refine⟨rfl,U.I0 rfl (U.no rfl ?_)⟩)
  (refine U.H6 (J7 (d:=(d+1)) (c:=(c+1)) (p0:=p0) (p1:=p1) (p2:=p2) h1 rfl) ?_;intro _ ds h0;cases h0;refine⟨rfl,U.I0 rfl (U.no rfl ?_)⟩)
  (refine U.H6 (J7 (d:=(d+1)) (c:=(c+1)) (p0:=p0) (p1:=p1) (p2:=p2) h1 rfl) ?_;intro _ ds h0;cases h0;refine⟨rfl,U.I0 rfl (U.no rfl ?_)⟩)
  (refine U.H6 (J7 (d:=(d+1)) (c:=(c+1)) (p0:=p0) (p1:=p1) (p2:=p2) h1 rfl) ?_;intro _ ds h0;cases h0;refine⟨rfl,U.I0 rfl (U.no rfl ?_)⟩)
  (refine U.H6 (N6 (d:=(d+1)) (c:=(c+1)) (p0:=p0) (p1:=p1) (p2:=p2) hl h1 rfl) ?_;intro _ ds h0;cases h0;refine⟨rfl,U.I0 rfl (U.I0 rfl ?_)⟩)
  refine U.H6 (vC hl he h2 (d+1) (c+1) p0 p1 p2 (by omega) (by omega)) ?_
  rintro _ ds ⟨x,hx',h0⟩;cases h0
  have hx0:=hx'
  obtain⟨k4,t4,r4,a4,b4,e4,s4,_,rfl⟩:=cD hx'
  refine⟨rfl,U.I0 rfl (U.H6 B ?_)⟩
  rintro _ ds ⟨y,hy,h0⟩;cases h0
  refine⟨rfl,U.I0 rfl (U.H6 (J7 (d:=(d+1)) (c:=(c+1+(sQ (qI n) its:Int))) (p0:=p0) (p1:=p1) (p2:=p2) hn1 (PA hn2)) ?_)⟩
  (intro _ ds h0;cases h0;refine⟨rfl,U.I0 rfl ?_⟩)
  refine U.no rfl ?_
  (refine O6 (fun m=>M0.eq_1 m _ _ _ _ _ _ _ _ _) (U.H6 (fS (l:=l) (d:=d) (c:=(c+1+(sQ (qI n) its:Int))) (p0:=p0) (p1:=p1) (p2:=p2) _ (by omega) hd) ?_);intro _ ds h0;cases h0;refine⟨rfl,U.I0 rfl ?_⟩)
  refine U.ret ⟨_,AO (i:=a1) (j:=b1) (l:=e1) (jI.one he hx0) jI.nil (by simp) (by simp) (by simp) (by simp) (by simp) Rl.nil (Rl.one hy) Rl.nil Rl.nil Rl.nil,?_⟩
  rw [show i+(1+(pW e).length+((its.flatMap (wI n)).length+4))=i+1+(pW e).length+((its.flatMap (wI n)).length+4) from by omega,show c+((1+sQ (qI n) its:Nat):Int)=c+1+(sQ (qI n) its:Int) from by omega]
  rfl
 ·have eC:[gB [101] ys].flatMap (vO (wI n))=[(1,V9),(3,[58]),(1,[101])]++(ys.flatMap (wI n)++[(1,fF)]):=by
   show ([(1,V9),(3,[58]),(1,[101])]++(ys.flatMap (wI n)++[(1,fF)]))++[]=_
   rw [D5]
  have eCl:([gB [101] ys].flatMap (vO (wI n))).length=(ys.flatMap (wI n)).length+4:=by
   rw [eC];simp only [G0];omega
  have h4:K0 l _ ([(1,dR)]++[gB [101] ys].flatMap (vO (wI n))):=h4
  rw [eC] at h4
  have h4:=eI h4
  obtain⟨a5,b5,e5,h5⟩:=J8 h4
  have h6:=K7 h4
  have eL:(wI (n+1) (I 10 [] [] false [e] [] [] [gB [116] its] [gB [101] ys] [] [])).length=1+(pW e).length+((its.flatMap (wI n)).length+4)+1+((ys.flatMap (wI n)).length+4):=by
   rw [eW];simp only [List.isEmpty_cons,cond_false,A7,eBl,eCl,A0,A8]
   omega
  have eQ:qI (n+1) (I 10 [] [] false [e] [] [] [gB [116] its] [gB [101] ys] [] [])=1+(sQ (qI n) its+sQ (qI n) ys):=by
   show 1+(0+(sQ (qI n) its+0)+(sQ (qI n) ys+0))=_
   omega
  rw [eQ] at hc2
  have B:=BY hl ih (t:=[116]) (by kernel_rfl) hn hx h3 (d+1) (c+1) p0 p1 p2 (by omega) hH (by omega) (by omega)
  have C:=BY hl ih (t:=[101]) (by kernel_rfl) hyn hyx h6 (d+1) (c+1+(sQ (qI n) its:Int)) p0 p1 p2 (by omega) hH (by omega) (by omega)
  rw [eL,eQ]
  (refine U.eq (fun m=>P3 m l i d c p0 p1 p2 0) (U.H6 (kG (l:=l) (d:=d) (c:=c) (p0:=p0) (p1:=p1) (p2:=p2) (i:Int) (by omega) hd) ?_);intro _ ds h0;cases h0;refine⟨rfl,U.I0 rfl (U.no rfl (U.H6 (X4 (l:=l) (d:=(d+1)) (c:=c) (p0:=p0) (p1:=p1) (p2:=p2) (i:Int) (by omega) hc) ?_))⟩;intro _ ds h0;cases h0;refine⟨rfl,U.I0 rfl (U.H6 (S5 (d:=(d+1)) (c:=(c+1)) (p0:=p0) (p1:=p1) (p2:=p2) h1) ?_)⟩;intro _ ds h0;cases h0;refine⟨rfl,U.I0 rfl ?_⟩)
  (refine U.H6 (J7 (d:=(d+1)) (c:=(c+1)) (p0:=p0) (p1:=p1) (p2:=p2) h1 rfl) ?_;intro _ ds h0;cases h0;refine⟨rfl,U.I0 rfl (U.no rfl (U.H6 (J7 (d:=(d+1)) (c:=(c+1)) (p0:=p0) (p1:=p1) (p2:=p2) h1 rfl) ?_))⟩;intro _ ds h0;cases h0;refine⟨rfl,U.I0 rfl (U.no rfl (U.H6 (J7 (d:=(d+1)) (c:=(c+1)) (p0:=p0) (p1:=p1) (p2:=p2) h1 rfl) ?_))⟩;intro _ ds h0;cases h0;refine⟨rfl,U.I0 rfl (O6 (fun m=>N8.eq_1 m _ _ _ _ _ _ _ _ _ _ _) (U.no rfl ?_))⟩)
  (refine U.H6 (J7 (d:=(d+1)) (c:=(c+1)) (p0:=p0) (p1:=p1) (p2:=p2) h1 rfl) ?_;intro _ ds h0;cases h0;refine⟨rfl,U.I0 rfl (U.no rfl ?_)⟩)
  (refine U.H6 (J7 (d:=(d+1)) (c:=(c+1)) (p0:=p0) (p1:=p1) (p2:=p2) h1 rfl) ?_;intro _ ds h0;cases h0;refine⟨rfl,U.I0 rfl (U.no rfl ?_)⟩)
  (refine U.H6 (J7 (d:=(d+1)) (c:=(c+1)) (p0:=p0) (p1:=p1) (p2:=p2) h1 rfl) ?_;intro _ ds h0;cases h0;refine⟨rfl,U.I0 rfl (U.no rfl ?_)⟩)
  (refine U.H6 (J7 (d:=(d+1)) (c:=(c+1)) (p0:=p0) (p1:=p1) (p2:=p2) h1 rfl) ?_;intro _ ds h0;cases h0;refine⟨rfl,U.I0 rfl (U.no rfl ?_)⟩)
  (refine U.H6 (J7 (d:=(d+1)) (c:=(c+1)) (p0:=p0) (p1:=p1) (p2:=p2) h1 rfl) ?_;intro _ ds h0;cases h0;refine⟨rfl,U.I0 rfl (U.no rfl ?_)⟩)
  (refine U.H6 (J7 (d:=(d+1)) (c:=(c+1)) (p0:=p0) (p1:=p1) (p2:=p2) h1 rfl) ?_;intro _ ds h0;cases h0;refine⟨rfl,U.I0 rfl (U.no rfl ?_)⟩)
  (refine U.H6 (J7 (d:=(d+1)) (c:=(c+1)) (p0:=p0) (p1:=p1) (p2:=p2) h1 rfl) ?_;intro _ ds h0;cases h0;refine⟨rfl,U.I0 rfl (U.no rfl ?_)⟩)
  (refine U.H6 (N6 (d:=(d+1)) (c:=(c+1)) (p0:=p0) (p1:=p1) (p2:=p2) hl h1 rfl) ?_;intro _ ds h0;cases h0;refine⟨rfl,U.I0 rfl (U.I0 rfl ?_)⟩)
  refine U.H6 (vC hl he h2 (d+1) (c+1) p0 p1 p2 (by omega) (by omega)) ?_
  rintro _ ds ⟨x,hx',h0⟩;cases h0
  have hx0:=hx'
  obtain⟨k4,t4,r4,a4,b4,e4,s4,_,rfl⟩:=cD hx'
  refine⟨rfl,U.I0 rfl (U.H6 B ?_)⟩
  rintro _ ds ⟨y,hy,h0⟩;cases h0
  refine⟨rfl,U.I0 rfl (U.H6 (N6 (d:=(d+1)) (c:=(c+1+(sQ (qI n) its:Int))) (p0:=p0) (p1:=p1) (p2:=p2) hl h5 rfl) ?_)⟩
  (intro _ ds h0;cases h0;refine⟨rfl,U.I0 rfl ?_⟩)
  refine U.I0 rfl (U.H6 C ?_)
  rintro _ ds ⟨z,hz,h0⟩;cases h0
  refine⟨rfl,U.I0 rfl ?_⟩
  (refine O6 (fun m=>M0.eq_1 m _ _ _ _ _ _ _ _ _) (U.H6 (fS (l:=l) (d:=d) (c:=(c+1+(sQ (qI n) its:Int)+(sQ (qI n) ys:Int))) (p0:=p0) (p1:=p1) (p2:=p2) _ (by omega) hd) ?_);intro _ ds h0;cases h0;refine⟨rfl,U.I0 rfl ?_⟩)
  refine U.ret ⟨_,AO (i:=a1) (j:=b1) (l:=e1) (jI.one he hx0) jI.nil (by simp) (by simp) (by simp) (by simp) (by simp) Rl.nil (Rl.one hy) (Rl.one hz) Rl.nil Rl.nil,?_⟩
  rw [show i+(1+(pW e).length+((its.flatMap (wI n)).length+4)+1+((ys.flatMap (wI n)).length+4))=i+1+(pW e).length+((its.flatMap (wI n)).length+4)+1+((ys.flatMap (wI n)).length+4) from by omega,show c+((1+(sQ (qI n) its+sQ (qI n) ys):Nat):Int)=c+1+(sQ (qI n) its:Int)+(sQ (qI n) ys:Int) from by omega]
  rfl
end
theorem Pi.mono {F:PW}{l:List D}{i m q:Nat}{R:D→Prop}{h h':Nat}(H:Pi F l i m q R h)(hh:h≤h'):Pi F l i m q R h':=
 fun d c p0 p1 p2 hd hd2 hc hc2=>H d c p0 p1 p2 hd (by omega) hc hc2
theorem La:∀ k:Nat,k≤8→qQ [117,48+UInt8.ofNat k]=true:=by decide +kernel
theorem Tg {T:NT}(hT:T=vN∨T=JN){n:Nat}{x:D}(h:xN T x){l:List D}(hl:l.length≤1000000){i:Nat}(ht:K0 l i (wI (n+1) x)):Pi (fun m=>O0 m) l i (wI (n+1) x).length (qI (n+1) x) (OI (2*(n+1)) x) 16:=by
 obtain⟨nm,ty,q,f,sg,es,fs,rfl,g1,hm,g3,g4,g5,g6,g7,g8⟩:=jG h
 have hty:(ty==bY)=false:=by
  rcases hT with rfl|rfl
  ·simp only [vN,C3,C7] at hm
   rw [hm.1];rfl
  ·simp only [JN,B7,C7,List.not_mem_nil,or_false] at hm
   rcases hm with h|h
   ·rw [h.1];rfl
   ·rw [h.1];rfl
 have eW:wI (n+1) (I 1 nm ty sg es fs [] [] [] [] [])=[(1,ty)]++(nR nm ty sg es fs++[(3,[59])]):=by
  show nW nm ty sg es fs++[(3,[59])]=_
  rw [Qr,hty,C1];rfl
 rw [eW] at ht ⊢
 exact (Yo hl hT g1 hm g3 g4 g5 g6 g7 g8 ht (n:=2*n+1)).cast (by simp only [G0];omega) rfl
theorem aD6 {l:List D}(hl:l.length≤1000000):∀ n,aD3 l n
 |0=>fun _ h=>h.elim
 |n+1=>by
  have ih:=aD6 hl n
  have h16:16≤IH (n+1):=by unfold IH;omega
  intro x h i ht hN
  rcases h with (h|h)|⟨nm,e,rfl,hn,he⟩|⟨nm,rfl,hn⟩|⟨l0,e,rfl,hlf,he⟩|⟨s0,rfl,hs⟩|⟨s0,rfl,hs⟩|⟨sg,es,its,s0,rfl,h2e,he,h1n,h2n,hx,hs⟩|⟨k,ps,qs,rfl,hk,hp,hq,hpc,hqc⟩|⟨es,its,rfl,h3,he,hn,hx⟩|⟨e,its,els,rfl,he,hn,hx,hel⟩
  ·exact (Tg (.inl rfl) h hl ht).mono h16
  ·exact (Tg (.inr rfl) h hl ht).mono h16
  ·exact ((Rn hl hn he (show K0 l i ([(1,oP)]++([(1,nm),(3,[61])]++(wE 4 e++[(3,[59])]))) from ht) (n:=2*n+1)).cast (by show _=([(1,oP),(1,nm),(3,[61])]++(wE 4 e++[(3,[59])]):List Tk).length;simp only [G0];omega) rfl).mono h16
  ·exact (Lm hl hn (show K0 l i [(1,GO),(1,nm),(3,[59])] from ht) (n:=2*n+1)).mono h16
  ·exact ((Ki hl hlf he (show K0 l i ([(1,qG)]++(wE 4 l0++([(3,[61])]++(wE 4 e++[(3,[59])])))) from ht) (n:=2*n+1)).cast (by show _=([(1,qG)]++(wE 4 l0++([(3,[61])]++(wE 4 e++[(3,[59])]))):List Tk).length;simp only [G0];omega) rfl).mono h16
  ·have eL:(wI (n+1) (I 5 [] [] false [] [] [s0] [] [] [] [])).length=3+(wS 4 s0).length:=by
    show ([(1,lU),(3,[64]),(3,[42])]++wS 4 s0:List Tk).length=_
    simp only [G0]
   rw [eL] at hN ⊢
   exact ((Um hl hs (show K0 l i ([(1,lU),(3,[64]),(3,[42])]++wS 4 s0) from ht) hN (n:=2*n+1)).cast rfl (by show 1+qS 4 s0=1+((qS 4 s0+0)+0+0);omega)).mono h16
  ·have eL:(wI (n+1) (I 6 vZ [] false [] [] [s0] [] [] [] [])).length=6+(wS 4 s0).length:=by
    show ([(1,lU),(3,[64]),(3,[40]),(1,CT),(1,vZ),(3,[41])]++wS 4 s0:List Tk).length=_
    simp only [G0]
   rw [eL] at hN ⊢
   exact ((Gz hl hs (show K0 l i ([(1,lU),(3,[64]),(3,[40]),(1,CT),(1,vZ),(3,[41])]++wS 4 s0) from ht) hN (n:=2*n+1)).cast rfl (by show 1+qS 4 s0=1+((qS 4 s0+0)+0+0);omega)).mono h16
  ·exact ((Us hl h2e he h2n hx hs (show K0 l i ([(1,yG)]++((bif sg then [(1,mL)] else [])++(pA es++([(1,[102]),(3,[59])]++(its.flatMap EP++(wS 4 s0++[(1,mG)])))))) from ht) (n:=2*n)).cast (by
    show _=([(1,yG)]++((bif sg then [(1,mL)] else [])++(pA es++([(1,[102]),(3,[59])]++(its.flatMap EP++(wS 4 s0++[(1,mG)]))))):List Tk).length
    have sgl:((bif sg then [(1,mL)] else []):List Tk).length=(bif sg then 1 else 0):=by cases sg<;>rfl
    simp only [A7,sgl,A0,A8];omega) rfl).mono h16
  ·have hg:=La k.toNat hk
   rw [UInt8.ofNat_toNat] at hg
   exact ((Ux hl hg hp hq hpc hqc (show K0 l i ([(1,uN)]++((bif ps.isEmpty then [] else [(3,[35])]++oI ps)++([(1,[117,48+k])]++(oI qs++[(3,[59])])))) from ht) (n:=2*n+1)).cast (by
    show _=([(1,uN)]++((bif ps.isEmpty then [] else [(3,[35])]++oI ps)++([(1,[117,48+k])]++(oI qs++[(3,[59])]))):List Tk).length
    cases ps.isEmpty<;>simp only [cond_true,cond_false,G0]<;>omega) rfl).mono h16
  ·have eB:[gB [103] its].flatMap (vO (wI n))=[(1,V9),(3,[58]),(1,[103])]++(its.flatMap (wI n)++[(1,fF)]):=by
    show ([(1,V9),(3,[58]),(1,[103])]++(its.flatMap (wI n)++[(1,fF)]))++[]=_
    rw [D5]
   have eW:wI (n+1) (I 9 [105] [] false es [] [] [gB [103] its] [] [] [])=bR [105] es++([(1,V9),(3,[58]),(1,[103])]++(its.flatMap (wI n)++[(1,fF)])):=by
    rw [← eB];rfl
   rw [eW] at ht ⊢
   exact (Ll hl ih h3 he hn hx ht).cast (by simp only [G0];omega) (by show 1+sQ (qI n) its=1+(0+(sQ (qI n) its+0)+0);omega)
  ·exact Qd hl ih he hn hx hel ht hN
end
def Xh (t:G1):Bool:=Nat.ble t.length 12&&(!t.isEmpty&&t.all fun c=>!(c==32)&&!(c==10))
def gw (t:G1):Prop:=Xh t=true
instance gw_dec (t:G1):Decidable (gw t):=inferInstanceAs (Decidable (_=true))
theorem Lp {t:G1}(h:gw t):t.length≤12:=by
 have h:Xh t=true:=h
 rw [Xh,A9] at h
 exact B3 h.1
def nl:Tk:=(9,[])
def Oz (st:Bool×G1)(p:Tk):Bool×G1:=bif p.1==9 then (true,st.2++[10]) else (false,st.2++((bif !st.2.isEmpty&&!st.1 then [32] else [])++p.2))
def PI (its:List Tk)(st:Bool×G1):Bool×G1:=its.foldl Oz st
def gy (its:List Tk):Prop:=∀ p∈its,p=nl∨(p.1==9)=false∧gw p.2
theorem Ua (a b:List Tk)(st:Bool×G1):PI (a++b) st=PI b (PI a st):=by simp [PI,List.foldl_append]
theorem Jx:∀ {its:List Tk} (_:gy its) (st:Bool×G1),(PI its st).2.length≤st.2.length+14*its.length
 |[],_,st=>B9 _
 |p::its,hs,st=>by
  have h:=Jx (its:=its) (fun q hq=>hs q (C0 _ hq)) (Oz st p)
  have h1:(Oz st p).2.length≤st.2.length+14:=by
   rcases hs p B8 with rfl|⟨e,hg⟩
   ·show (st.2++[10]).length≤_;simp
   ·have h12:=Lp hg
    unfold Oz
    rw [e]
    show (st.2++((bif !st.2.isEmpty&&!st.1 then [32] else [])++p.2)).length≤_
    have:(bif !st.2.isEmpty&&!st.1 then [32] else []:G1).length≤1:=by cases !st.2.isEmpty&&!st.1<;>simp
    simp only [A7];omega
  show (PI its (Oz st p)).2.length≤_
  simp only [A0];omega
def Wr (st st':Bool×G1)(its:List Tk):Prop:=st'=PI its st∧gy its
theorem Wr.len {f f':Bool}{s s':G1}{its:List Tk}(h:Wr (f,s) (f',s') its):s'.length≤s.length+14*its.length:=by
 have:=Jx h.2 (f,s)
 rw [← h.1] at this;exact this
theorem Wr.nil (st:Bool×G1):Wr st st []:=⟨rfl,fun _ h=>by cases h⟩
theorem Wr.app {a b c:Bool×G1}{u v:List Tk}(h:Wr a b u)(h':Wr b c v):Wr a c (u++v):=
 ⟨by rw [h'.1,h.1,Ua],fun p hp=>(D3.1 hp).elim (h.2 p) (h'.2 p)⟩
theorem BS (a b:G1):M6 a++M6 b=M6 (a++b):=by simp [M6]
theorem rZ (a:G1):(M6 a).length=a.length:=List.length_map ..
theorem YI (s:G1):(M6 s).all WL=true:=by
 induction s with
 |nil=>rfl
 |cons x s ih=>simp only [M6,List.map_cons,List.all_cons] at ih ⊢;rw [ih];rfl
theorem M3 (sk:Sk)(f:Bool)(s:G1):K8 sk [.bool f,.Z 1 (M6 s)]=true:=by
 simp only [K8,List.all_cons,List.all_nil,YI];rfl
abbrev aE3:=Nat→D→D→Out
def Pr (F:aE3)(ws:List Tk):Prop:=∀ (f:Bool) (s:G1),s.length+14*ws.length≤68000000000→U (fun n=>F n (.bool f) (.Z 1 (M6 s))) fun r=>∃ st:Bool×G1,r=(true,[.bool st.1,.Z 1 (M6 st.2)])∧Wr (f,s) st ws
def FG (ws:List Tk):Prop:=∀ p∈ws,(p.1==9)=false∧gw p.2
theorem Xc {f:Bool}{s:G1}{p:Tk}(h:(p.1==9)=false∧gw p.2):Wr (f,s) (false,s++((bif !s.isEmpty&&!f then [32] else [])++p.2)) [p]:=
 ⟨by show _=Oz (f,s) p
     unfold Oz;rw [h.1];rfl,fun q hq=>by rw [C3.1 hq];exact .inr h⟩
theorem Dl {ws:List Tk}{i:Nat}(h:i<ws.length):(QM ws)[((i:Nat):Int).toNat]?.getD D.top = .str (ws[i]'h).2:=by
 rw [show ((i:Nat):Int).toNat=i from rfl,QM,List.getElem?_map,C2 h];rfl
theorem Ot {ws:List Tk}(hs:FG ws)(hl:ws.length≤1000):∀ (m j:Nat) (f:Bool) (s:G1),ws.length-j=m→j≤ws.length→s.length+14*(ws.drop j).length≤68000000000→
  U (fun n=>U0 n (.Z 1 (QM ws)) ((QM ws).length:Int) (j:Int) (.bool f) (.Z 1 (M6 s))) fun r=>
   ∃ st:Bool×G1,r=(false,[.Z 1 (QM ws),.int .i64 ((QM ws).length:Int),.int .i64 (ws.length:Int),.bool st.1,.Z 1 (M6 st.2)])∧Wr (f,s) st (ws.drop j):=by
 intro m
 induction m with
 |zero=>
  intro j f s hm hj hb
  have:j=ws.length:=by omega
  subst this
  refine U.eq (fun n=>oE n _ _ _ _ _) (U.no (E8 (by rw [WX];omega)) (U.ret ⟨(f,s),rfl,?_⟩))
  rw [List.drop_length];exact Wr.nil _
 |succ m ih=>
  intro j f s hm hj hb
  have hlt:j<ws.length:=by omega
  have hlt2:j<(QM ws).length:=by rw [WX];exact hlt
  have hg:=hs _ (C6 hlt)
  have h12:=Lp hg.2
  rw [drop_cons hlt] at hb ⊢
  simp only [A0] at hb
  have W:=Xc (f:=f) (s:=s) hg
  have fin:∀ st:Bool×G1,st=(false,s++((bif !s.isEmpty&&!f then [32] else [])++(ws[j]'hlt).2))→U (fun n=>U0 n (.Z 1 (QM ws)) ((QM ws).length:Int) (.int .i64 (IntKind.i64.wrap ((j:Int)+1))) (.bool st.1) (.Z 1 (M6 st.2))) fun r=>
    ∃ st:Bool×G1,r=(false,[.Z 1 (QM ws),.int .i64 ((QM ws).length:Int),.int .i64 (ws.length:Int),.bool st.1,.Z 1 (M6 st.2)])∧Wr (f,s) st (ws[j]::ws.drop (j+1)):=by
   intro st hst
   rw [← hst] at W
   obtain⟨f1,s1⟩:=st
   have l1:=W.len
   simp only [A0,A8] at l1
   rw [P0 (by omega)]
   refine (ih (j+1) f1 s1 (by omega) hlt (by omega)).mono fun r hr=>?_
   obtain⟨st,h1,h2⟩:=hr
   exact⟨st,h1,W.app h2⟩
  have J:∀ g:Bool,g=(!s.isEmpty&&!f)→U (fun n=>fN n g f (M6 s) (QM ws) (j:Int) ((QM ws).length:Int)) fun r=>
    ∃ st:Bool×G1,r=(false,[.Z 1 (QM ws),.int .i64 ((QM ws).length:Int),.int .i64 (ws.length:Int),.bool st.1,.Z 1 (M6 st.2)])∧Wr (f,s) st (ws[j]::ws.drop (j+1)):=by
   intro g hg
   refine O6 (fun n=>fN.eq_1 n _ _ _ _ _ _) ?_
   have hs1:s.length≤68000000000:=by omega
   cases g with
   |true=>
    refine U.I0 rfl (U.H6 (Q:=fun r=>r=(true,[.nili,.bool f,.Z 1 (M6 (s++[32]))])) ?_ ?_)
    ·refine U.eq (fun n=>kI n _ _ _) (U.I0 (B2 (by rw [rZ];simp only [L7];omega)) (U.ret ?_))
     rw [← BS];rfl
    ·intro _ _ h;cases h
     rw [Dl hlt]
     refine⟨rfl,U.I0 rfl (U.H6 (Q:=fun r=>∃ d:Int,r=(true,[.int .i64 d,.nili,.bool f,.Z 1 (M6 (s++[32]++(ws[j]'hlt).2))])) ?_ ?_)⟩
     ·refine U.eq (fun n=>jF n _ _ _) (U.I0 ?_ (U.ret ⟨((ws[j]'hlt).2.length:Int),?_⟩))
      ·show (Nat.ble ((M6 (s++[32])).length+(ws[j]'hlt).2.length) L7&&true)=true
       rw [B2 (by rw [rZ,A7];simp only [L7,A0,A8];omega)];rfl
      ·rw [← BS (s++[32])];rfl
     ·rintro _ _ ⟨d,h⟩;cases h
      refine⟨rfl,U.I0 rfl (fin (false,s++[32]++(ws[j]'hlt).2) ?_)⟩
      show _=(false,s++((bif !s.isEmpty&&!f then [32] else [])++(ws[j]'hlt).2))
      rw [← hg,C1];rfl
   |false=>
    rw [Dl hlt]
    refine U.no rfl (U.H6 (Q:=fun r=>∃ d:Int,r=(true,[.int .i64 d,.nili,.bool f,.Z 1 (M6 (s++(ws[j]'hlt).2))])) ?_ ?_)
    ·refine U.eq (fun n=>jF n _ _ _) (U.I0 ?_ (U.ret ⟨((ws[j]'hlt).2.length:Int),?_⟩))
     ·show (Nat.ble ((M6 s).length+(ws[j]'hlt).2.length) L7&&true)=true
      rw [B2 (by rw [rZ];simp only [L7];omega)];rfl
     ·rw [← BS s];rfl
    ·rintro _ _ ⟨d,h⟩;cases h
     refine⟨rfl,U.I0 rfl (fin (false,s++(ws[j]'hlt).2) ?_)⟩
     show _=(false,s++((bif !s.isEmpty&&!f then [32] else [])++(ws[j]'hlt).2))
     rw [← hg];rfl
  refine U.eq (fun n=>oE n _ _ _ _ _) (U.I0 (E6 (by rw [WX];omega)) (U.I0 (O5 hlt2) (U.I0 (by rw [Dl hlt];rfl) ?_)))
  refine U.H6 (U.eq (fun n=>xQ n f (M6 s)) (U.ret (P:=fun r=>r=_) rfl)) ?_
  intro _ _ h;cases h
  refine⟨rfl,U.I0 rfl (U.N9 (fun h=>?_) fun h=>?_)⟩
  ·refine J _ ?_
   have h:0<((M6 s).length:Int):=E7 h
   rw [rZ] at h
   cases s with
   |nil=>simp at h
   |cons=>simp [Y,D.b]
  ·refine J _ ?_
   have h:¬ (0<((M6 s).length:Int)):=E9 h
   rw [rZ] at h
   cases s with
   |nil=>rfl
   |cons=>simp at h
theorem M4 {ws:List Tk}(hs:FG ws)(hl:ws.length≤1000):Pr (fun n=>H7 n (.Z 1 (QM ws))) ws:=by
 intro f s hb
 refine U.eq (fun n=>CM n _ _ _) (U.L3 (Ot hs hl ws.length 0 f s rfl (C4 _) (by rw [List.drop_zero];exact hb)) (fun ds h=>by obtain⟨_,h,_⟩:=h;cases h) fun ds h=>?_)
 obtain⟨st,h,hw⟩:=h
 cases h
 exact U.I0 rfl (U.ret ⟨st,rfl,hw⟩)
section
theorem K1 {ws:List Tk}(h:(ws.all fun p=>!(p.1==9)&&Xh p.2)=true):FG ws:=fun p hp=>by
 have:=B6.1 h p hp
 rw [A9,D8] at this
 exact this
theorem P6 {p:Tk}{ws:List Tk}(h:gw p.2)(h':FG ws)(hk:(p.1==9)=false:=by rfl):FG (p::ws):=fun q hq=>by
 rcases B7.1 hq with rfl|hq
 ·exact⟨hk,h⟩
 ·exact h' q hq
theorem gX {T:List G1}(h:T.all Xh=true){t:G1}(ht:t∈T):gw t:=B6.1 h t ht
def Uh (w:D→List Tk)(es:List D):List Tk:=match es with
 |[]=>[]
 |[x]=>[(3,[91])]++(w x++[(3,[93])])
 |x::y::_=>[(3,[91])]++(w x++([(3,[58])]++(w y++[(3,[93])])))
theorem Xu (es:List D):Uh (wE 4) es=pA es:=by
 match es with
 |[]=>rfl
 |[x]=>rfl
 |x::y::_=>rfl
def yR:Nat→D→Prop
 |0,_=>False
 |n+1,x=>∃ k u0 u1 u2 t ar,x=PE k u0 u1 u2 t ar∧FF k t ar.length∧∀ a∈ar,yR n a
theorem aA5 {d:Nat}{x:D}(h:yR d x):J6 I5 x=x∧Q5 I5 x=true:=by
 cases d with
 |zero=>exact h.elim
 |succ d=>obtain⟨k,u0,u1,u2,t,xs,rfl,_⟩:=h;exact⟨rfl,rfl⟩
theorem Jh {d:Nat}{x:D}(h:yR d x):(L6 I5&&Q5 I5 x)=true:=by rw [(aA5 h).2];rfl
theorem aC9 (n:Nat)(k u0 u1 u2:Int)(t:G1)(ar:List D):wE (n+1) (PE k u0 u1 u2 t ar)=kW (wE n) k t ar:=rfl
section
variable {d:Nat} (hE:∀ x,yR d x→Pr (fun n=>K5 n x) (wE d x))
include hE
theorem IT {x:D}(hx:yR d x):Pr (fun n=>K5 n (J6 I5 x)) (wE d x):=by rw [(aA5 hx).1];exact hE x hx
theorem Gr {x:D}(hx:yR d x):Pr (fun n=>cE n (J6 I5 x)) (aW (wE d) x):=by
 rw [(aA5 hx).1]
 have hp:=hE x hx
 cases d with
 |zero=>exact hx.elim
 |succ d=>
  obtain⟨k,u0,u1,u2,t,xs,rfl,_⟩:=hx
  intro f s hb
  have J:∀ g,QL (PE k u0 u1 u2 t xs)=g→U (fun n=>gE n g f (M6 s) k u0 u1 u2 t xs) fun r=>∃ st:Bool×G1,r=(true,[.bool st.1,.Z 1 (M6 st.2)])∧Wr (f,s) st (aW (wE (d+1)) (PE k u0 u1 u2 t xs)):=by
   intro g hg
   refine O6 (fun n=>gE.eq_1 n _ _ _ _ _ _ _ _ _) ?_
   unfold aW at hb ⊢
   rw [hg] at hb ⊢
   cases g with
   |true=>
    simp only [cond_true,G0] at hb
    refine U.I0 rfl ?_
    (refine U.H6 ((M4 (ws:=[(3,[40])]) (K1 rfl) (by decide) f s (by simp only [A0,A8];omega))) ?_;rintro _ _ ⟨⟨f1,s1⟩,h,w1⟩;cases h;have lw1:=Wr.len w1;(try simp only [G0] at lw1);refine⟨rfl,U.I0 (K3 rfl (M3 _ _ _)) ?_⟩)
    (refine U.H6 (hp f1 s1 (by omega)) ?_;rintro _ _ ⟨⟨f2,s2⟩,h,w2⟩;cases h;have lw2:=Wr.len w2;(try simp only [G0] at lw2);refine⟨rfl,U.I0 rfl ?_⟩)
    (refine U.H6 ((M4 (ws:=[(3,[41])]) (K1 rfl) (by decide) f2 s2 (by simp only [A0,A8];omega))) ?_;rintro _ _ ⟨⟨f3,s3⟩,h,w3⟩;cases h;have lw3:=Wr.len w3;(try simp only [G0] at lw3);refine⟨rfl,U.I0 (K3 rfl (M3 _ _ _)) ?_⟩)
    exact U.ret ⟨(f3,s3),rfl,w1.app (w2.app w3)⟩
   |false=>
    simp only [cond_false] at hb
    refine U.no rfl ?_
    (refine U.H6 (hp f s hb) ?_;rintro _ _ ⟨⟨f2,s2⟩,h,w2⟩;cases h;have lw2:=Wr.len w2;(try simp only [G0] at lw2);refine⟨rfl,U.I0 rfl ?_⟩)
    exact U.ret ⟨(f2,s2),rfl,w2⟩
  refine U.eq (fun n=>EA n k u0 u1 u2 t xs f (M6 s)) ?_
  have e:QL (PE k u0 u1 u2 t xs)=(k==3||(k==4||k==5)):=rfl
  refine U.N9 (fun h=>J true (by rw [e,show (k==3)=true from h];rfl)) fun h=>U.N9 (fun h'=>J true (by rw [e,show (k==3)=false from h,show (k==4)=true from h'];rfl)) fun h'=>J (k==5) (by rw [e,show (k==3)=false from h,show (k==4)=false from h'];rfl)
theorem Ho {xs:List D}(hn:xs.length≤100)(hx:∀ x∈xs,yR d x):∀ (m j:Nat) (f:Bool) (s:G1),xs.length-j=m→j≤xs.length→
  s.length+14*((bif j==0||j==xs.length then [] else [(3,[44])])++lW (wE d) (xs.drop j):List Tk).length≤68000000000→
  U (fun n=>T9 n (.Z 6 xs) (xs.length:Int) (j:Int) (.bool f) (.Z 1 (M6 s))) fun r=>
   ∃ st:Bool×G1,r=(false,[.Z 6 xs,.int .i64 (xs.length:Int),.int .i64 (xs.length:Int),.bool st.1,.Z 1 (M6 st.2)])∧Wr (f,s) st ((bif j==0||j==xs.length then [] else [(3,[44])])++lW (wE d) (xs.drop j)):=by
 intro m
 induction m with
 |zero=>
  intro j f s hm hj hb
  have:j=xs.length:=by omega
  subst this
  refine U.eq (fun n=>oB n _ _ _ _ _) (U.no (E8 (by omega)) (U.ret ⟨(f,s),rfl,?_⟩))
  rw [F3,Bool.or_true,List.drop_length]
  exact Wr.nil _
 |succ m ih=>
  intro j f s hm hj hb
  have hlt:j<xs.length:=by omega
  have hw:=hx xs[j] (C6 hlt)
  have hp:=IT hE hw
  have hnl:(j==xs.length)=false:=F4.2 (by omega)
  have hnz:(j+1==0)=false:=F4.2 (by omega)
  have sp:lW (wE d) (xs.drop j)=wE d xs[j]++((bif j+1==0||j+1==xs.length then [] else [(3,[44])])++lW (wE d) (xs.drop (j+1))):=by
   rw [drop_cons hlt,hnz,Bool.false_or]
   cases hd:xs.drop (j+1) with
   |nil=>
    have:j+1=xs.length:=by have:=congrArg List.length hd;simp at this;omega
    rw [this,F3]
    show wE d xs[j]=wE d xs[j]++([]++[])
    simp
   |cons y r=>
    have:(j+1==xs.length)=false:=by
     have:=congrArg List.length hd
     simp only [F9,A0] at this
     exact F4.2 (by omega)
    rw [this];rfl
  rw [sp,hnl,Bool.or_false] at hb ⊢
  have fin:∀ (f1:Bool) (s1:G1) (u:List Tk),Wr (f,s) (f1,s1) u→s1.length+14*((bif j+1==0||j+1==xs.length then [] else [(3,[44])])++lW (wE d) (xs.drop (j+1)):List Tk).length≤68000000000→
    U (fun n=>T9 n (.Z 6 xs) (xs.length:Int) (.int .i64 (IntKind.i64.wrap ((j:Int)+1))) (.bool f1) (.Z 1 (M6 s1))) fun r=>
     ∃ st:Bool×G1,r=(false,[.Z 6 xs,.int .i64 (xs.length:Int),.int .i64 (xs.length:Int),.bool st.1,.Z 1 (M6 st.2)])∧Wr (f,s) st (u++((bif j+1==0||j+1==xs.length then [] else [(3,[44])])++lW (wE d) (xs.drop (j+1)))):=by
   intro f1 s1 u hu hb
   rw [P0 (by omega)]
   exact (ih (j+1) f1 s1 (by omega) hlt hb).mono fun r ⟨st,h1,h2⟩=>⟨st,h1,hu.app h2⟩
  generalize ((bif j+1==0||j+1==xs.length then [] else [(3,[44])])++lW (wE d) (xs.drop (j+1)):List Tk)=rest at hb fin ⊢
  refine U.eq (fun n=>oB n _ _ _ _ _) (U.I0 (E6 (by omega)) (U.I0 (O5 hlt) ?_))
  rw [bN hlt]
  refine U.I0 (Jh hw) (U.N9 (fun h0=>?_) fun h0=>?_)
  ·have h0:=E7 h0
   rw [show (j==0)=false from F4.2 (by omega)] at hb ⊢
   simp only [cond_false,G0] at hb
   (refine U.H6 ((M4 (ws:=[(3,[44])]) (K1 rfl) (by decide) f s (by simp only [A0,A8];omega))) ?_;rintro _ _ ⟨⟨f1,s1⟩,h,w1⟩;cases h;have lw1:=Wr.len w1;(try simp only [G0] at lw1);refine⟨rfl,U.I0 (K3 rfl (M3 _ _ _)) ?_⟩)
   (refine U.H6 (hp f1 s1 (by omega)) ?_;rintro _ _ ⟨⟨f2,s2⟩,h,w2⟩;cases h;have lw2:=Wr.len w2;(try simp only [G0] at lw2);refine⟨rfl,U.I0 rfl ?_⟩)
   refine (fin f2 s2 _ (w1.app w2) (by omega)).mono fun r ⟨st,h1,h2⟩=>⟨st,h1,?_⟩
   rw [C1] at h2
   exact h2
  ·have h0:=E9 h0
   have:j=0:=by omega
   subst this
   simp only [F3,cond_true,List.nil_append,A7] at hb
   (refine U.H6 (hp f s (by omega)) ?_;rintro _ _ ⟨⟨f2,s2⟩,h,w2⟩;cases h;have lw2:=Wr.len w2;(try simp only [G0] at lw2);refine⟨rfl,U.I0 rfl ?_⟩)
   exact fin f2 s2 _ w2 (by omega)
theorem EW {xs:List D}(hn:xs.length≤100)(hx:∀ x∈xs,yR d x):Pr (fun n=>N5 n (.Z 6 xs)) (lW (wE d) xs):=by
 intro f s hb
 refine U.eq (fun n=>CH n _ _ _) (U.L3 (Ho hE hn hx xs.length 0 f s rfl (C4 _) (by simpa using hb)) (fun ds h=>by obtain⟨_,h,_⟩:=h;cases h) fun ds h=>?_)
 obtain⟨st,h,hw⟩:=h
 cases h
 exact U.I0 rfl (U.ret ⟨st,rfl,by simpa using hw⟩)
theorem UI {es:List D}(hl:es.length≤2)(hx:∀ x∈es,yR d x):Pr (fun n=>P1 n (.Z 6 es)) (Uh (wE d) es):=by
 intro f s hb
 refine U.eq (fun n=>yD n _ _ _) ?_
 match es,hl,hx,hb with
 |[],_,_,_=>exact U.I0 rfl (U.ret ⟨(f,s),rfl,Wr.nil _⟩)
 |[x],_,hx,hb=>
  have h1:=hx x (by simp)
  have p1:=IT hE h1
  simp only [Uh,G0] at hb
  refine U.no rfl ?_
  (refine U.H6 ((M4 (ws:=[(3,[91])]) (K1 rfl) (by decide) f s (by simp only [A0,A8];omega))) ?_;rintro _ _ ⟨⟨f1,s1⟩,h,w1⟩;cases h;have lw1:=Wr.len w1;(try simp only [G0] at lw1);refine⟨rfl,U.I0 (K3 rfl (M3 _ _ _)) ?_⟩)
  refine U.L3 (Q:=fun r=>∃ st:Bool×G1,r=(false,[.Z 6 [x],.int .i64 1,.int .i64 1,.bool st.1,.Z 1 (M6 st.2)])∧Wr (f1,s1) st (wE d x)) ?_ (fun ds h=>by obtain⟨_,h,_⟩:=h;cases h) fun ds h=>?_
  ·refine U.eq (fun n=>bU n _ _ _ _ _) (U.I0 rfl (U.I0 rfl (U.I0 (Jh h1) (U.no rfl ?_))))
   (refine U.H6 (p1 f1 s1 (by omega)) ?_;rintro _ _ ⟨⟨f2,s2⟩,h,w2⟩;cases h;have lw2:=Wr.len w2;(try simp only [G0] at lw2);refine⟨rfl,U.I0 rfl ?_⟩)
   exact U.eq (fun n=>bU n _ _ _ _ _) (U.no rfl (U.ret ⟨(f2,s2),rfl,w2⟩))
  ·obtain⟨⟨f2,s2⟩,h,w2⟩:=h
   cases h
   have l2:=w2.len
   refine U.I0 rfl ?_
   (refine U.H6 ((M4 (ws:=[(3,[93])]) (K1 rfl) (by decide) f2 s2 (by simp only [A0,A8];omega))) ?_;rintro _ _ ⟨⟨f3,s3⟩,h,w3⟩;cases h;have lw3:=Wr.len w3;(try simp only [G0] at lw3);refine⟨rfl,U.I0 (K3 rfl (M3 _ _ _)) ?_⟩)
   exact U.ret ⟨(f3,s3),rfl,w1.app (w2.app w3)⟩
 |[x,y],_,hx,hb=>
  have h1:=hx x (by simp)
  have h2:=hx y (by simp)
  have p1:=IT hE h1
  have p2:=IT hE h2
  simp only [Uh,G0] at hb
  refine U.no rfl ?_
  (refine U.H6 ((M4 (ws:=[(3,[91])]) (K1 rfl) (by decide) f s (by simp only [A0,A8];omega))) ?_;rintro _ _ ⟨⟨f1,s1⟩,h,w1⟩;cases h;have lw1:=Wr.len w1;(try simp only [G0] at lw1);refine⟨rfl,U.I0 (K3 rfl (M3 _ _ _)) ?_⟩)
  refine U.L3 (Q:=fun r=>∃ st:Bool×G1,r=(false,[.Z 6 [x,y],.int .i64 2,.int .i64 2,.bool st.1,.Z 1 (M6 st.2)])∧Wr (f1,s1) st (wE d x++([(3,[58])]++wE d y))) ?_ (fun ds h=>by obtain⟨_,h,_⟩:=h;cases h) fun ds h=>?_
  ·refine U.eq (fun n=>bU n _ _ _ _ _) (U.I0 rfl (U.I0 rfl (U.I0 (Jh h1) (U.no rfl ?_))))
   (refine U.H6 (p1 f1 s1 (by omega)) ?_;rintro _ _ ⟨⟨f2,s2⟩,h,w2⟩;cases h;have lw2:=Wr.len w2;(try simp only [G0] at lw2);refine⟨rfl,U.I0 rfl ?_⟩)
   refine U.eq (fun n=>bU n _ _ _ _ _) (U.I0 rfl (U.I0 rfl (U.I0 (Jh h2) (U.I0 rfl ?_))))
   (refine U.H6 ((M4 (ws:=[(3,[58])]) (K1 rfl) (by decide) f2 s2 (by simp only [A0,A8];omega))) ?_;rintro _ _ ⟨⟨f3,s3⟩,h,w3⟩;cases h;have lw3:=Wr.len w3;(try simp only [G0] at lw3);refine⟨rfl,U.I0 (K3 rfl (M3 _ _ _)) ?_⟩)
   (refine U.H6 (p2 f3 s3 (by omega)) ?_;rintro _ _ ⟨⟨f4,s4⟩,h,w4⟩;cases h;have lw4:=Wr.len w4;(try simp only [G0] at lw4);refine⟨rfl,U.I0 rfl ?_⟩)
   exact U.eq (fun n=>bU n _ _ _ _ _) (U.no rfl (U.ret ⟨(f4,s4),rfl,w2.app (w3.app w4)⟩))
  ·obtain⟨⟨f2,s2⟩,h,w2⟩:=h
   cases h
   have l2:=w2.len
   simp only [G0] at l2
   refine U.I0 rfl ?_
   (refine U.H6 ((M4 (ws:=[(3,[93])]) (K1 rfl) (by decide) f2 s2 (by simp only [A0,A8];omega))) ?_;rintro _ _ ⟨⟨f3,s3⟩,h,w3⟩;cases h;have lw3:=Wr.len w3;(try simp only [G0] at lw3);refine⟨rfl,U.I0 (K3 rfl (M3 _ _ _)) ?_⟩)
   have W:=w1.app (w2.app w3)
   refine U.ret ⟨(f3,s3),rfl,?_⟩
   simpa [Uh] using W
theorem XX {x:D}(h1:yR d x):Pr (fun n=>M9 n (.Z 6 [x]) (.Z 1 [])) (aW (wE d) x):=by
 intro f s hb
 have p1:=Gr hE h1
 refine U.eq (fun n=>jQ n _ _ _ _) (U.L3 (Q:=fun r=>∃ st:Bool×G1,r=(false,[.Z 1 [],.Z 6 [x],.int .i64 1,.int .i64 1,.bool st.1,.Z 1 (M6 st.2)])∧Wr (f,s) st (aW (wE d) x)) ?_ (fun ds h=>by obtain⟨_,h,_⟩:=h;cases h) fun ds h=>?_)
 ·refine U.eq (fun n=>Q6 n _ _ _ _ _ _) (U.I0 rfl (U.I0 rfl (U.I0 (Jh h1) (U.no rfl (O6 (fun n=>T7.eq_1 n _ _ _ _ _ _ _) (U.no rfl ?_))))))
  (refine U.H6 (p1 f s hb) ?_;rintro _ _ ⟨⟨f2,s2⟩,h,w2⟩;cases h;have lw2:=Wr.len w2;(try simp only [G0] at lw2);refine⟨rfl,U.I0 rfl ?_⟩)
  exact U.eq (fun n=>Q6 n _ _ _ _ _ _) (U.no rfl (U.ret ⟨(f2,s2),rfl,w2⟩))
 ·obtain⟨st,h,hw⟩:=h
  cases h
  exact U.I0 rfl (U.ret ⟨st,rfl,hw⟩)
theorem Kj {x y:D}{o:G1}(ho:gw o)(h1:yR d x)(h2:yR d y):Pr (fun n=>M9 n (.Z 6 [x,y]) (.Z 1 [.str o])) (aW (wE d) x++([(3,o)]++aW (wE d) y)):=by
 intro f s hb
 have p1:=Gr hE h1
 have p2:=Gr hE h2
 simp only [G0] at hb
 refine U.eq (fun n=>jQ n _ _ _ _) (U.L3 (Q:=fun r=>∃ st:Bool×G1,r=(false,[.Z 1 [.str o],.Z 6 [x,y],.int .i64 2,.int .i64 2,.bool st.1,.Z 1 (M6 st.2)])∧Wr (f,s) st (aW (wE d) x++([(3,o)]++aW (wE d) y))) ?_ (fun ds h=>by obtain⟨_,h,_⟩:=h;cases h) fun ds h=>?_)
 ·refine U.eq (fun n=>Q6 n _ _ _ _ _ _) (U.I0 rfl (U.I0 rfl (U.I0 (Jh h1) (U.no rfl (O6 (fun n=>T7.eq_1 n _ _ _ _ _ _ _) (U.no rfl ?_))))))
  (refine U.H6 (p1 f s (by omega)) ?_;rintro _ _ ⟨⟨f2,s2⟩,h,w2⟩;cases h;have lw2:=Wr.len w2;(try simp only [G0] at lw2);refine⟨rfl,U.I0 rfl ?_⟩)
  refine U.eq (fun n=>Q6 n _ _ _ _ _ _) (U.I0 rfl (U.I0 rfl (U.I0 (Jh h2) (U.I0 rfl (O6 (fun n=>T7.eq_1 n _ _ _ _ _ _ _) (U.I0 rfl (U.I0 rfl (U.I0 rfl ?_))))))))
  (refine U.H6 ((M4 (ws:=[(3,o)]) (P6 ho (K1 rfl)) (by simp) f2 s2 (by simp only [A0,A8];omega))) ?_;rintro _ _ ⟨⟨f3,s3⟩,h,w3⟩;cases h;have lw3:=Wr.len w3;(try simp only [G0] at lw3);refine⟨rfl,U.I0 (K3 rfl (M3 _ _ _)) ?_⟩)
  (refine U.H6 (p2 f3 s3 (by omega)) ?_;rintro _ _ ⟨⟨f4,s4⟩,h,w4⟩;cases h;have lw4:=Wr.len w4;(try simp only [G0] at lw4);refine⟨rfl,U.I0 rfl ?_⟩)
  exact U.eq (fun n=>Q6 n _ _ _ _ _ _) (U.no rfl (U.ret ⟨(f4,s4),rfl,w2.app (w3.app w4)⟩))
 ·obtain⟨st,h,hw⟩:=h
  cases h
  exact U.I0 rfl (U.ret ⟨st,rfl,hw⟩)
theorem Kk {x y z:D}(h1:yR d x)(h2:yR d y)(h3:yR d z):Pr (fun n=>M9 n (.Z 6 [x,y,z]) (.Z 1 [.str [63],.str [58]])) (aW (wE d) x++([(3,[63])]++(aW (wE d) y++([(3,[58])]++aW (wE d) z)))):=by
 intro f s hb
 have p1:=Gr hE h1
 have p2:=Gr hE h2
 have p3:=Gr hE h3
 simp only [G0] at hb
 refine U.eq (fun n=>jQ n _ _ _ _) (U.L3 (Q:=fun r=>∃ st:Bool×G1,r=(false,[.Z 1 [.str [63],.str [58]],.Z 6 [x,y,z],.int .i64 3,.int .i64 3,.bool st.1,.Z 1 (M6 st.2)])∧Wr (f,s) st (aW (wE d) x++([(3,[63])]++(aW (wE d) y++([(3,[58])]++aW (wE d) z))))) ?_ (fun ds h=>by obtain⟨_,h,_⟩:=h;cases h) fun ds h=>?_)
 ·refine U.eq (fun n=>Q6 n _ _ _ _ _ _) (U.I0 rfl (U.I0 rfl (U.I0 (Jh h1) (U.no rfl (O6 (fun n=>T7.eq_1 n _ _ _ _ _ _ _) (U.no rfl ?_))))))
  (refine U.H6 (p1 f s (by omega)) ?_;rintro _ _ ⟨⟨f2,s2⟩,h,w2⟩;cases h;have lw2:=Wr.len w2;(try simp only [G0] at lw2);refine⟨rfl,U.I0 rfl ?_⟩)
  refine U.eq (fun n=>Q6 n _ _ _ _ _ _) (U.I0 rfl (U.I0 rfl (U.I0 (Jh h2) (U.I0 rfl (O6 (fun n=>T7.eq_1 n _ _ _ _ _ _ _) (U.I0 rfl (U.I0 rfl (U.I0 rfl ?_))))))))
  (refine U.H6 ((M4 (ws:=[(3,[63])]) (K1 rfl) (by decide) f2 s2 (by simp only [A0,A8];omega))) ?_;rintro _ _ ⟨⟨f3,s3⟩,h,w3⟩;cases h;have lw3:=Wr.len w3;(try simp only [G0] at lw3);refine⟨rfl,U.I0 (K3 rfl (M3 _ _ _)) ?_⟩)
  (refine U.H6 (p2 f3 s3 (by omega)) ?_;rintro _ _ ⟨⟨f4,s4⟩,h,w4⟩;cases h;have lw4:=Wr.len w4;(try simp only [G0] at lw4);refine⟨rfl,U.I0 rfl ?_⟩)
  refine U.eq (fun n=>Q6 n _ _ _ _ _ _) (U.I0 rfl (U.I0 rfl (U.I0 (Jh h3) (U.I0 rfl (O6 (fun n=>T7.eq_1 n _ _ _ _ _ _ _) (U.I0 rfl (U.I0 rfl (U.I0 rfl ?_))))))))
  (refine U.H6 ((M4 (ws:=[(3,[58])]) (K1 rfl) (by decide) f4 s4 (by simp only [A0,A8];omega))) ?_;rintro _ _ ⟨⟨f5,s5⟩,h,w5⟩;cases h;have lw5:=Wr.len w5;(try simp only [G0] at lw5);refine⟨rfl,U.I0 (K3 rfl (M3 _ _ _)) ?_⟩)
  (refine U.H6 (p3 f5 s5 (by omega)) ?_;rintro _ _ ⟨⟨f6,s6⟩,h,w6⟩;cases h;have lw6:=Wr.len w6;(try simp only [G0] at lw6);refine⟨rfl,U.I0 rfl ?_⟩)
  exact U.eq (fun n=>Q6 n _ _ _ _ _ _) (U.no rfl (U.ret ⟨(f6,s6),rfl,w2.app (w3.app (w4.app (w5.app w6)))⟩))
 ·obtain⟨st,h,hw⟩:=h
  cases h
  exact U.I0 rfl (U.ret ⟨st,rfl,hw⟩)
end
end
theorem KE:∀ (d:Nat) (x:D),yR d x→Pr (fun n=>K5 n x) (wE d x):=by
 intro d
 induction d with
 |zero=>intro x h;exact h.elim
 |succ d ih=>
  rintro x ⟨k,u0,u1,u2,t,ar,rfl,hs,ha⟩ f s hb
  rw [aC9] at hb ⊢
  refine U.eq (fun n=>CG n k u0 u1 u2 t ar f (M6 s)) ?_
  rcases hs with ⟨rfl,ht,hm⟩|⟨rfl,ht,hm⟩|⟨rfl,ht,hm⟩|⟨rfl,ht,hm⟩|⟨rfl,rfl,hm⟩|⟨rfl,rfl,hm,hm2⟩|⟨rfl,rfl,hm,hm2⟩|⟨rfl,ht,hm⟩|⟨rfl,ht,hm⟩|⟨rfl,ht,hm,hm2⟩
  ·have h12:=gX (T:=ZV) rfl ht
   (replace hb:s.length+14*([(2,t)]:List Tk).length≤68000000000:=hb;simp only [G0] at hb)
   refine U.no rfl (U.no rfl (U.no rfl (U.no rfl (U.no rfl (U.no rfl (O6 (fun n=>bS.eq_1 n _ _ _ _ _ _) (U.no rfl (U.no rfl ?_))))))))
   (refine U.H6 ((M4 (ws:=[(2,t)]) (P6 h12 (K1 rfl)) (by simp) f s (by simp only [A0,A8];omega))) ?_;rintro _ _ ⟨⟨f1,s1⟩,h,w1⟩;cases h;have lw1:=Wr.len w1;(try simp only [G0] at lw1);refine⟨rfl,U.I0 (K3 rfl (M3 _ _ _)) ?_⟩)
   exact U.ret ⟨(f1,s1),rfl,w1⟩
  ·have h12:=gX (T:=cN) rfl ht
   (replace hb:s.length+14*([(1,t)]:List Tk).length≤68000000000:=hb;simp only [G0] at hb)
   refine U.no rfl (U.no rfl (U.no rfl (U.no rfl (U.no rfl (U.no rfl (O6 (fun n=>bS.eq_1 n _ _ _ _ _ _) (U.no rfl (U.no rfl ?_))))))))
   (refine U.H6 ((M4 (ws:=[(1,t)]) (P6 h12 (K1 rfl)) (by simp) f s (by simp only [A0,A8];omega))) ?_;rintro _ _ ⟨⟨f1,s1⟩,h,w1⟩;cases h;have lw1:=Wr.len w1;(try simp only [G0] at lw1);refine⟨rfl,U.I0 (K3 rfl (M3 _ _ _)) ?_⟩)
   exact U.ret ⟨(f1,s1),rfl,w1⟩
  ·have h12:=gX (T:=Oj) rfl ht
   match ar,hm,ha with
   |[x],_,ha=>
    have h1:=ha x (by simp)
    (replace hb:s.length+14*([(3,t)]++aW (wE d) x:List Tk).length≤68000000000:=hb;simp only [G0] at hb)
    refine U.I0 rfl ?_
    (refine U.H6 ((M4 (ws:=[(3,t)]) (P6 h12 (K1 rfl)) (by simp) f s (by simp only [A0,A8];omega))) ?_;rintro _ _ ⟨⟨f1,s1⟩,h,w1⟩;cases h;have lw1:=Wr.len w1;(try simp only [G0] at lw1);refine⟨rfl,U.I0 (K3 rfl (M3 _ _ _)) ?_⟩)
    (refine U.H6 (XX ih h1 f1 s1 (by omega)) ?_;rintro _ _ ⟨⟨f2,s2⟩,h,w2⟩;cases h;have lw2:=Wr.len w2;(try simp only [G0] at lw2);refine⟨rfl,U.I0 rfl ?_⟩)
    exact U.ret ⟨(f2,s2),rfl,w1.app w2⟩
  ·have h12:=gX (T:=Rc) rfl ht
   match ar,hm,ha with
   |[x,y],_,ha=>
    have h1:=ha x (by simp)
    have h2:=ha y (by simp)
    refine U.no rfl (U.I0 rfl ?_)
    (refine U.H6 (Kj ih h12 h1 h2 f s hb) ?_;rintro _ _ ⟨⟨f2,s2⟩,h,w2⟩;cases h;have lw2:=Wr.len w2;(try simp only [G0] at lw2);refine⟨rfl,U.I0 (K3 rfl (M3 _ _ _)) ?_⟩)
    exact U.ret ⟨(f2,s2),rfl,w2⟩
  ·match ar,hm,ha with
   |[x,y,z],_,ha=>
    have h1:=ha x (by simp)
    have h2:=ha y (by simp)
    have h3:=ha z (by simp)
    refine U.no rfl (U.no rfl (U.I0 rfl ?_))
    (refine U.H6 (Kk ih h1 h2 h3 f s hb) ?_;rintro _ _ ⟨⟨f2,s2⟩,h,w2⟩;cases h;have lw2:=Wr.len w2;(try simp only [G0] at lw2);refine⟨rfl,U.I0 (K3 rfl (M3 _ _ _)) ?_⟩)
    exact U.ret ⟨(f2,s2),rfl,w2⟩
  ·(replace hb:s.length+14*([(3,[123])]++(lW (wE d) ar++[(3,[125])]):List Tk).length≤68000000000:=hb;simp only [G0] at hb)
   refine U.no rfl (U.no rfl (U.no rfl (U.I0 rfl ?_)))
   (refine U.H6 ((M4 (ws:=[(3,[123])]) (K1 rfl) (by decide) f s (by simp only [A0,A8];omega))) ?_;rintro _ _ ⟨⟨f1,s1⟩,h,w1⟩;cases h;have lw1:=Wr.len w1;(try simp only [G0] at lw1);refine⟨rfl,U.I0 (K3 rfl (M3 _ _ _)) ?_⟩)
   (refine U.H6 (EW ih (xs:=ar) (by omega) ha f1 s1 (by omega)) ?_;rintro _ _ ⟨⟨f2,s2⟩,h,w2⟩;cases h;have lw2:=Wr.len w2;(try simp only [G0] at lw2);refine⟨rfl,U.I0 rfl ?_⟩)
   (refine U.H6 ((M4 (ws:=[(3,[125])]) (K1 rfl) (by decide) f2 s2 (by simp only [A0,A8];omega))) ?_;rintro _ _ ⟨⟨f3,s3⟩,h,w3⟩;cases h;have lw3:=Wr.len w3;(try simp only [G0] at lw3);refine⟨rfl,U.I0 (K3 rfl (M3 _ _ _)) ?_⟩)
   exact U.ret ⟨(f3,s3),rfl,w1.app (w2.app w3)⟩
  ·match ar,hm,hm2,ha with
   |x::rest,_,hm2,ha=>
    have h1:=ha x (by simp)
    have p1:=IT ih h1
    have hr:∀ y∈rest,yR d y:=fun y hy=>ha y (C0 _ hy)
    have lr:rest.length≤100:=by simp only [A0] at hm2;omega
    have p2:=EW ih lr hr
    (replace hb:s.length+14*([(3,[123])]++(wE d x++([(3,[123])]++(lW (wE d) rest++[(3,[125]),(3,[125])]))):List Tk).length≤68000000000:=hb;simp only [G0] at hb)
    refine U.no rfl (U.no rfl (U.no rfl (U.no rfl (U.I0 rfl ?_))))
    (refine U.H6 ((M4 (ws:=[(3,[123])]) (K1 rfl) (by decide) f s (by simp only [A0,A8];omega))) ?_;rintro _ _ ⟨⟨f1,s1⟩,h,w1⟩;cases h;have lw1:=Wr.len w1;(try simp only [G0] at lw1);refine⟨rfl,U.I0 (K3 rfl (M3 _ _ _)) ?_⟩)
    refine U.I0 (by simp) (U.I0 (Jh h1) ?_)
    (refine U.H6 (p1 f1 s1 (by omega)) ?_;rintro _ _ ⟨⟨f2,s2⟩,h,w2⟩;cases h;have lw2:=Wr.len w2;(try simp only [G0] at lw2);refine⟨rfl,U.I0 rfl ?_⟩)
    (refine U.H6 ((M4 (ws:=[(3,[123])]) (K1 rfl) (by decide) f2 s2 (by simp only [A0,A8];omega))) ?_;rintro _ _ ⟨⟨f3,s3⟩,h,w3⟩;cases h;have lw3:=Wr.len w3;(try simp only [G0] at lw3);refine⟨rfl,U.I0 (K3 rfl (M3 _ _ _)) ?_⟩)
    refine U.I0 (by simp;omega) ?_
    have e:((x::rest).drop 1).take (((x::rest).length:Int).toNat-1)=rest:=by
     show rest.take (rest.length+1-1)=rest
     rw [Nat.add_sub_cancel,List.take_length]
    rw [e]
    (refine U.H6 (p2 f3 s3 (by omega)) ?_;rintro _ _ ⟨⟨f4,s4⟩,h,w4⟩;cases h;have lw4:=Wr.len w4;(try simp only [G0] at lw4);refine⟨rfl,U.I0 rfl ?_⟩)
    (refine U.H6 ((M4 (ws:=[(3,[125]),(3,[125])]) (K1 rfl) (by decide) f4 s4 (by simp only [A0,A8];omega))) ?_;rintro _ _ ⟨⟨f5,s5⟩,h,w5⟩;cases h;have lw5:=Wr.len w5;(try simp only [G0] at lw5);refine⟨rfl,U.I0 (K3 rfl (M3 _ _ _)) ?_⟩)
    exact U.ret ⟨(f5,s5),rfl,w1.app (w2.app (w3.app (w4.app w5)))⟩
  ·have h12:=gX (T:=cN) rfl ht
   match ar,hm,ha with
   |[x],_,ha=>
    have p1:=UI ih (es:=[x]) (by simp) ha
    refine U.no rfl (U.no rfl (U.no rfl (U.no rfl (U.no rfl (U.I0 rfl (O6 (fun n=>bS.eq_1 n _ _ _ _ _ _) (U.I0 rfl ?_)))))))
    (replace hb:s.length+14*([(1,t)]++Uh (wE d) [x]:List Tk).length≤68000000000:=hb;simp only [G0] at hb)
    (refine U.H6 ((M4 (ws:=[(1,t)]) (P6 h12 (K1 rfl)) (by simp) f s (by simp only [A0,A8];omega))) ?_;rintro _ _ ⟨⟨f1,s1⟩,h,w1⟩;cases h;have lw1:=Wr.len w1;(try simp only [G0] at lw1);refine⟨rfl,U.I0 (K3 rfl (M3 _ _ _)) ?_⟩)
    (refine U.H6 (p1 f1 s1 (by omega)) ?_;rintro _ _ ⟨⟨f2,s2⟩,h,w2⟩;cases h;have lw2:=Wr.len w2;(try simp only [G0] at lw2);refine⟨rfl,U.I0 rfl ?_⟩)
    exact U.ret ⟨(f2,s2),rfl,w1.app w2⟩
  ·have h12:=gX (T:=cN) rfl ht
   match ar,hm,ha with
   |[x,y],_,ha=>
    have p1:=UI ih (es:=[x,y]) (by simp) ha
    refine U.no rfl (U.no rfl (U.no rfl (U.no rfl (U.no rfl (U.no rfl (O6 (fun n=>bS.eq_1 n _ _ _ _ _ _) (U.I0 rfl ?_)))))))
    (replace hb:s.length+14*([(1,t)]++Uh (wE d) [x,y]:List Tk).length≤68000000000:=hb;simp only [G0] at hb)
    (refine U.H6 ((M4 (ws:=[(1,t)]) (P6 h12 (K1 rfl)) (by simp) f s (by simp only [A0,A8];omega))) ?_;rintro _ _ ⟨⟨f1,s1⟩,h,w1⟩;cases h;have lw1:=Wr.len w1;(try simp only [G0] at lw1);refine⟨rfl,U.I0 (K3 rfl (M3 _ _ _)) ?_⟩)
    (refine U.H6 (p1 f1 s1 (by omega)) ?_;rintro _ _ ⟨⟨f2,s2⟩,h,w2⟩;cases h;have lw2:=Wr.len w2;(try simp only [G0] at lw2);refine⟨rfl,U.I0 rfl ?_⟩)
    exact U.ret ⟨(f2,s2),rfl,w1.app w2⟩
  ·have h12:=gX (T:=JZ) rfl ht
   (replace hb:s.length+14*([(1,t),(3,[40])]++(lW (wE d) ar++[(3,[41])]):List Tk).length≤68000000000:=hb;simp only [G0] at hb)
   refine U.no rfl (U.no rfl (U.no rfl (U.no rfl (U.no rfl (U.no rfl (O6 (fun n=>bS.eq_1 n _ _ _ _ _ _) (U.no rfl (U.I0 rfl ?_))))))))
   (refine U.H6 ((M4 (ws:=[(1,t),(3,[40])]) (P6 h12 (K1 rfl)) (by simp) f s (by simp only [A0,A8];omega))) ?_;rintro _ _ ⟨⟨f1,s1⟩,h,w1⟩;cases h;have lw1:=Wr.len w1;(try simp only [G0] at lw1);refine⟨rfl,U.I0 (K3 rfl (M3 _ _ _)) ?_⟩)
   (refine U.H6 (EW ih (xs:=ar) (by omega) ha f1 s1 (by omega)) ?_;rintro _ _ ⟨⟨f2,s2⟩,h,w2⟩;cases h;have lw2:=Wr.len w2;(try simp only [G0] at lw2);refine⟨rfl,U.I0 rfl ?_⟩)
   (refine U.H6 ((M4 (ws:=[(3,[41])]) (K1 rfl) (by decide) f2 s2 (by simp only [A0,A8];omega))) ?_;rintro _ _ ⟨⟨f3,s3⟩,h,w3⟩;cases h;have lw3:=Wr.len w3;(try simp only [G0] at lw3);refine⟨rfl,U.I0 (K3 rfl (M3 _ _ _)) ?_⟩)
   exact U.ret ⟨(f3,s3),rfl,w1.app (w2.app w3)⟩
theorem GW {w v:D→List Tk}:∀ {xs ys:List D},Rl (fun x y=>w x=v y) xs ys→lW w xs=lW v ys
 |[],[],_=>rfl
 |[x],[y],h=>h.2 0 (by simp) (by simp)
 |x::x'::r,y::y'::r',h=>by
  have h0:=h.2 0 (by simp) (by simp)
  have ih:=GW (w:=w) (v:=v) (xs:=x'::r) (ys:=y'::r') ⟨by simpa using h.1,fun i hi hi'=>h.2 (i+1) (by simpa using hi) (by simpa using hi')⟩
  show w x++((3,[44])::lW w (x'::r))=v y++((3,[44])::lW v (y'::r'))
  rw [ih,show w x=v y from h0]
 |[],_::_,h=>by have:=h.1;simp at this
 |_::_,[],h=>by have:=h.1;simp at this
 |[_],_::_::_,h=>by have:=h.1;simp at this
 |_::_::_,[_],h=>by have:=h.1;simp at this
theorem aB4 {w v:D→List Tk}{k:Int}{t:G1}{xs ys:List D}(hs:FF k t xs.length)(ho:Rl (fun x y=>w x=v y∧QL x=QL y) xs ys):kW w k t xs=kW v k t ys:=by
 have h:Rl (fun x y=>w x=v y) xs ys:=ho.mono fun _ _ _ h=>h.1
 have ha:∀ {x y:D},w x=v y∧QL x=QL y→aW w x=aW v y:=fun h=>by unfold aW;rw [h.1,h.2]
 rcases hs with ⟨rfl,_,hm⟩|⟨rfl,_,hm⟩|⟨rfl,_,hm⟩|⟨rfl,_,hm⟩|⟨rfl,_,hm⟩|⟨rfl,_,hm,hm2⟩|⟨rfl,_,hm,hm2⟩|⟨rfl,_,hm⟩|⟨rfl,_,hm⟩|⟨rfl,_,hm,hm2⟩
 ·rfl
 ·rfl
 ·match xs,ys,hm,ho with
  |[a],[a'],_,ho=>
   show [(3,t)]++aW w a=[(3,t)]++aW v a'
   rw [show aW w a=aW v a' from ha (ho.2 0 (by simp) (by simp))]
  |[a],[],_,ho=>have:=ho.1;simp at this
  |[a],_::_::_,_,ho=>have:=ho.1;simp at this
 ·match xs,ys,hm,ho with
  |[a,b],[a',b'],_,ho=>
   show aW w a++([(3,t)]++aW w b)=aW v a'++([(3,t)]++aW v b')
   rw [show aW w a=aW v a' from ha (ho.2 0 (by simp) (by simp)),show aW w b=aW v b' from ha (ho.2 1 (by simp) (by simp))]
  |[a,b],[],_,ho=>have:=ho.1;simp at this
  |[a,b],[_],_,ho=>have:=ho.1;simp at this
  |[a,b],_::_::_::_,_,ho=>have:=ho.1;simp at this
 ·match xs,ys,hm,ho with
  |[a,b,c],[a',b',c'],_,ho=>
   show aW w a++([(3,[63])]++(aW w b++([(3,[58])]++aW w c)))=aW v a'++([(3,[63])]++(aW v b'++([(3,[58])]++aW v c')))
   rw [show aW w a=aW v a' from ha (ho.2 0 (by simp) (by simp)),show aW w b=aW v b' from ha (ho.2 1 (by simp) (by simp)),show aW w c=aW v c' from ha (ho.2 2 (by simp) (by simp))]
  |[a,b,c],[],_,ho=>have:=ho.1;simp at this
  |[a,b,c],[_],_,ho=>have:=ho.1;simp at this
  |[a,b,c],[_,_],_,ho=>have:=ho.1;simp at this
  |[a,b,c],_::_::_::_::_,_,ho=>have:=ho.1;simp at this
 ·show [(3,[123])]++(lW w xs++[(3,[125])])=[(3,[123])]++(lW v ys++[(3,[125])])
  rw [GW h]
 ·match xs,ys,hm,h with
  |a::r,a'::r',_,h=>
   have h0:w a=v a':=h.2 0 (by simp) (by simp)
   have h1:lW w r=lW v r':=GW ⟨by simpa using h.1,fun i hi hi'=>h.2 (i+1) (by simpa using hi) (by simpa using hi')⟩
   show [(3,[123])]++(w a++([(3,[123])]++(lW w r++[(3,[125]),(3,[125])])))=[(3,[123])]++(v a'++([(3,[123])]++(lW v r'++[(3,[125]),(3,[125])])))
   rw [h0,h1]
  |a::r,[],_,h=>have:=h.1;simp at this
 ·match xs,ys,hm,h with
  |[a],[a'],_,h=>
   have h0:w a=v a':=h.2 0 (by simp) (by simp)
   show [(1,t),(3,[91])]++(w a++[(3,[93])])=[(1,t),(3,[91])]++(v a'++[(3,[93])])
   rw [h0]
  |[a],[],_,h=>have:=h.1;simp at this
  |[a],_::_::_,_,h=>have:=h.1;simp at this
 ·match xs,ys,hm,h with
  |[a,b],[a',b'],_,h=>
   have h0:w a=v a':=h.2 0 (by simp) (by simp)
   have h1:w b=v b':=h.2 1 (by simp) (by simp)
   show [(1,t),(3,[91])]++(w a++([(3,[58])]++(w b++[(3,[93])])))=[(1,t),(3,[91])]++(v a'++([(3,[58])]++(v b'++[(3,[93])])))
   rw [h0,h1]
  |[a,b],[],_,h=>have:=h.1;simp at this
  |[a,b],[_],_,h=>have:=h.1;simp at this
  |[a,b],_::_::_::_,_,h=>have:=h.1;simp at this
 ·show [(1,t),(3,[40])]++(lW w xs++[(3,[41])])=[(1,t),(3,[40])]++(lW v ys++[(3,[41])])
  rw [GW h]
theorem Sq {n:Nat}{x y:D}(h:OE n x y):QL x=QL y:=by obtain⟨k,t,ar,a,b,e,ar',rfl,rfl⟩:=cD h;rfl
theorem FK:∀ {n:Nat} {x y:D},OE n x y→wE n x=wE n y
 |0,_,_,h=>h.elim
 |n+1,_,_,⟨k,t,ar,a,b,e,ar',hx,hy,hs,hr⟩=>by
  subst hx hy
  show kW (wE n) k t ar=kW (wE n) k t ar'
  exact aB4 hs (hr.mono fun x _ y h=>⟨FK h,Sq h⟩)
theorem Pd:∀ {n:Nat} {x y:D},OE n x y→yR n y
 |0,_,_,h=>h.elim
 |n+1,_,_,⟨k,t,ar,a,b,e,ar',hx,hy,hs,hr⟩=>by
  subst hx hy
  refine⟨k,a,b,e,t,ar',rfl,by rw [← hr.1];exact hs,fun z hz=>?_⟩
  obtain⟨i,hi,rfl⟩:=List.getElem_of_mem hz
  exact Pd (hr.2 i (by rw [hr.1];exact hi) hi)
theorem JT {es es':List D}(h:jI es es'):∀ e∈es',yR 4 e:=fun z hz=>by
 obtain⟨i,hi,rfl⟩:=List.getElem_of_mem hz
 exact Pd (h.2.2 i (by rw [h.2.1];exact hi) hi)
theorem Sr {es es':List D}(h:jI es es'):lW (wE 4) es=lW (wE 4) es':=GW (h.2.mono fun _ _ _ h=>FK h)
section
theorem aD9 (f:Bool){s:G1}(hb:s.length≤68000100000):U (fun n=>Q8 n (.int .u8 10) (.bool f) (.Z 1 (M6 s))) fun r=>r=(true,[.nili,.bool f,.Z 1 (M6 (s++[10]))]):=by
 refine U.eq (fun n=>kI n _ _ _) (U.I0 (B2 (by rw [rZ];simp only [L7];omega)) (U.ret ?_))
 rw [← BS];rfl
theorem pC {ws:List Tk}(hs:FG ws)(h1:1≤ws.length)(hl:ws.length≤1000):Pr (fun n=>I8 n (.Z 1 (QM ws))) (ws++[nl]):=by
 intro f s hb
 simp only [G0] at hb
 refine U.eq (fun n=>rN n _ _ _) (U.H6 (M4 hs hl f s (by omega)) ?_)
 rintro _ _ ⟨⟨f1,s1⟩,h,w⟩;cases h
 have l:=w.len
 refine⟨rfl,U.I0 rfl (U.H6 (aD9 f1 (s:=s1) (by omega)) ?_)⟩
 intro _ _ h;cases h
 exact⟨rfl,U.I0 rfl (U.ret ⟨(true,s1++[10]),rfl,w.app ⟨rfl,fun q hq=>by rw [C3.1 hq];exact .inl rfl⟩⟩)⟩
theorem Yk:Pr (fun n=>I8 n (.Z 1 [])) [nl]:=by
 intro f s hb
 simp only [A0,A8] at hb
 refine U.eq (fun n=>rN n _ _ _) (U.H6 (M4 (ws:=[]) (K1 rfl) (by decide) f s (by simp;omega)) ?_)
 rintro _ _ ⟨⟨f1,s1⟩,h,w⟩;cases h
 cases w.1
 refine⟨rfl,U.I0 rfl (U.H6 (aD9 f (s:=s) (by omega)) ?_)⟩
 intro _ _ h;cases h
 exact⟨rfl,U.I0 rfl (U.ret ⟨(true,s++[10]),rfl,rfl,fun q hq=>by rw [C3.1 hq];exact .inl rfl⟩)⟩
def aA6 (w:D→List Tk)(k:Int)(t:G1)(es bs zs:List D):List Tk:=
 bif k==1 then [(1,V9),nl]++(bs.flatMap w++[(1,fF),nl])
 else bif k==2 then wE 4 (x0 es)++([(3,[61])]++(wE 4 (x1 es)++[(3,[59]),nl]))
 else bif k==3 then wE 4 (x0 es)++([(3,[60,61])]++(wE 4 (x1 es)++[(3,[59]),nl]))
 else bif k==4 then [(1,uI)]++(pW (x0 es)++(w (x0 bs)++(bif ((x1 bs).at_ 0).i==8 then [] else [(1,dR)]++w (x1 bs))))
 else bif k==5 then [(1,pB)]++(pW (x0 es)++([nl]++(zs.flatMap (iM w)++[(1,dW),nl])))
 else bif k==6 then bR t es++w (x0 bs)
 else bif k==7 then (bif t.isEmpty then [] else [(1,t),(3,[58])])++([(1,pK)]++(pW (x0 es)++[(3,[59]),nl]))
 else [(3,[59]),nl]
def yS:Nat→D→List Tk
 |0,_=>[]
 |n+1,x=>aA6 (yS n) (x.at_ 0).i (x.at_ 1).s (x.at_ 2).l (x.at_ 3).l (x.at_ 4).l
theorem aD2 (n:Nat)(k:Int)(t:G1)(es bs zs:List D):yS (n+1) (S k t es bs zs)=aA6 (yS n) k t es bs zs:=rfl
theorem Gi {a:D}{ys:List D}(h:jI [a] ys):∃ a',ys=[a']∧yR 4 a'∧wE 4 a=wE 4 a':=by
 have hp:=JT h
 obtain⟨_,hl,hr⟩:=h
 match ys,hl,hr,hp with
 |[a'],_,hr,hp=>exact⟨a',rfl,hp a' (by simp),FK (hr 0 (by simp) (by simp))⟩
theorem aA8 {a b:D}{ys:List D}(h:jI [a,b] ys):∃ a' b',ys=[a',b']∧yR 4 a'∧yR 4 b'∧wE 4 a=wE 4 a'∧wE 4 b=wE 4 b':=by
 have hp:=JT h
 obtain⟨_,hl,hr⟩:=h
 match ys,hl,hr,hp with
 |[a',b'],_,hr,hp=>exact⟨a',b',rfl,hp a' (by simp),hp b' (by simp),FK (hr 0 (by simp) (by simp)),FK (hr 1 (by simp) (by simp))⟩
theorem Xo {a b c:D}{ys:List D}(h:jI [a,b,c] ys):∃ a' b' c',ys=[a',b',c']∧yR 4 a'∧yR 4 b'∧yR 4 c'∧wE 4 a=wE 4 a'∧wE 4 b=wE 4 b'∧wE 4 c=wE 4 c':=by
 have hp:=JT h
 obtain⟨_,hl,hr⟩:=h
 match ys,hl,hr,hp with
 |[a',b',c'],_,hr,hp=>exact⟨a',b',c',rfl,hp a' (by simp),hp b' (by simp),hp c' (by simp),FK (hr 0 (by simp) (by simp)),FK (hr 1 (by simp) (by simp)),FK (hr 2 (by simp) (by simp))⟩
theorem LR {x:D}(h:yR 4 x):(L6 I5&&Q5 I5 x)=true:=Jh h
theorem Rm {a b:D}(h:wE 4 a=wE 4 b):pW a=pW b:=by unfold pW;rw [h]
theorem Ez {t:G1}{a b c a' b' c':D}(h1:wE 4 a=wE 4 a')(h2:wE 4 b=wE 4 b')(h3:wE 4 c=wE 4 c'):bR t [a,b,c]=bR t [a',b',c']:=by
 show [(1,yF),(3,[40]),(1,t),(3,[61])]++(wE 4 a++([(3,[59])]++(wE 4 b++([(3,[59]),(1,t),(3,[61])]++(wE 4 c++[(3,[41])])))))=_
 rw [h1,h2,h3];rfl
theorem SJ {x:D}(hx:yR 4 x):Pr (fun n=>K5 n (J6 I5 x)) (wE 4 x):=IT (KE 4) hx
theorem WK {x:D}(hx:yR 4 x):Pr (fun n=>S6 n (J6 I5 x)) (pW x):=by
 have hp:=KE 4 x hx
 rw [(aA5 hx).1]
 obtain⟨k,u0,u1,u2,t,xs,rfl,_⟩:=hx
 intro f s hb
 (replace hb:s.length+14*([(3,[40])]++(wE 4 (PE k u0 u1 u2 t xs)++[(3,[41])]):List Tk).length≤68000000000:=hb;simp only [G0] at hb)
 refine U.eq (fun n=>zG n k u0 u1 u2 t xs f (M6 s)) ?_
 (refine U.H6 ((M4 (ws:=[(3,[40])]) (K1 rfl) (by decide) f s (by simp only [A0,A8];omega))) ?_;rintro _ _ ⟨⟨f1,s1⟩,h,w1⟩;cases h;have lw1:=Wr.len w1;(try simp only [G0] at lw1);refine⟨rfl,U.I0 (K3 rfl (M3 _ _ _)) ?_⟩)
 (refine U.H6 (hp f1 s1 (by omega)) ?_;rintro _ _ ⟨⟨f2,s2⟩,h,w2⟩;cases h;have lw2:=Wr.len w2;(try simp only [G0] at lw2);refine⟨rfl,U.I0 rfl ?_⟩)
 (refine U.H6 ((M4 (ws:=[(3,[41])]) (K1 rfl) (by decide) f2 s2 (by simp only [A0,A8];omega))) ?_;rintro _ _ ⟨⟨f3,s3⟩,h,w3⟩;cases h;have lw3:=Wr.len w3;(try simp only [G0] at lw3);refine⟨rfl,U.I0 (K3 rfl (M3 _ _ _)) ?_⟩)
 exact U.ret ⟨(f3,s3),rfl,w1.app (w2.app w3)⟩
theorem Tb {t:G1}(ht:gw t){a b c:D}(h1:yR 4 a)(h2:yR 4 b)(h3:yR 4 c):Pr (fun n=>bM n (.str t) (.Z 6 [a,b,c])) (bR t [a,b,c]):=by
 have p1:=SJ h1
 have p2:=SJ h2
 have p3:=SJ h3
 intro f s hb
 (replace hb:s.length+14*([(1,yF),(3,[40]),(1,t),(3,[61])]++(wE 4 a++([(3,[59])]++(wE 4 b++([(3,[59]),(1,t),(3,[61])]++(wE 4 c++[(3,[41])]))))):List Tk).length≤68000000000:=hb;simp only [G0] at hb)
 refine U.eq (fun n=>CI n t _ f (M6 s)) ?_
 (refine U.H6 ((M4 (ws:=[(1,yF),(3,[40]),(1,t),(3,[61])]) (P6 (by decide) (P6 (by decide) (P6 ht (K1 rfl)))) (by simp) f s (by simp only [A0,A8];omega))) ?_;rintro _ _ ⟨⟨f1,s1⟩,h,w1⟩;cases h;have lw1:=Wr.len w1;(try simp only [G0] at lw1);refine⟨rfl,U.I0 (K3 rfl (M3 _ _ _)) ?_⟩)
 refine U.I0 rfl (U.I0 (LR h1) ?_)
 (refine U.H6 (p1 f1 s1 (by omega)) ?_;rintro _ _ ⟨⟨f2,s2⟩,h,w2⟩;cases h;have lw2:=Wr.len w2;(try simp only [G0] at lw2);refine⟨rfl,U.I0 rfl ?_⟩)
 (refine U.H6 ((M4 (ws:=[(3,[59])]) (K1 rfl) (by decide) f2 s2 (by simp only [A0,A8];omega))) ?_;rintro _ _ ⟨⟨f3,s3⟩,h,w3⟩;cases h;have lw3:=Wr.len w3;(try simp only [G0] at lw3);refine⟨rfl,U.I0 (K3 rfl (M3 _ _ _)) ?_⟩)
 refine U.I0 rfl (U.I0 (LR h2) ?_)
 (refine U.H6 (p2 f3 s3 (by omega)) ?_;rintro _ _ ⟨⟨f4,s4⟩,h,w4⟩;cases h;have lw4:=Wr.len w4;(try simp only [G0] at lw4);refine⟨rfl,U.I0 rfl ?_⟩)
 (refine U.H6 ((M4 (ws:=[(3,[59]),(1,t),(3,[61])]) (P6 (by decide) (P6 ht (K1 rfl))) (by simp) f4 s4 (by simp only [A0,A8];omega))) ?_;rintro _ _ ⟨⟨f5,s5⟩,h,w5⟩;cases h;have lw5:=Wr.len w5;(try simp only [G0] at lw5);refine⟨rfl,U.I0 (K3 rfl (M3 _ _ _)) ?_⟩)
 refine U.I0 rfl (U.I0 (LR h3) ?_)
 (refine U.H6 (p3 f5 s5 (by omega)) ?_;rintro _ _ ⟨⟨f6,s6⟩,h,w6⟩;cases h;have lw6:=Wr.len w6;(try simp only [G0] at lw6);refine⟨rfl,U.I0 rfl ?_⟩)
 (refine U.H6 ((M4 (ws:=[(3,[41])]) (K1 rfl) (by decide) f6 s6 (by simp only [A0,A8];omega))) ?_;rintro _ _ ⟨⟨f7,s7⟩,h,w7⟩;cases h;have lw7:=Wr.len w7;(try simp only [G0] at lw7);refine⟨rfl,U.I0 (K3 rfl (M3 _ _ _)) ?_⟩)
 exact U.ret ⟨(f7,s7),rfl,w1.app (w2.app (w3.app (w4.app (w5.app (w6.app w7)))))⟩
theorem WN {Q:Bool×List D→Prop}{xs:List D}{w:D→List Tk}{T:Int→Bool→G1→Nat→Out}{f:Bool}{s:G1}(hl:xs.length≤1000)(hb:s.length+14*(xs.flatMap w).length≤68000000000)
  (step:∀ (j:Nat) (f:Bool) (s:G1) (h:j<xs.length),s.length+14*(w xs[j]).length≤68000000000→(∀ f1 s1,Wr (f,s) (f1,s1) (w xs[j])→U (T (IntKind.i64.wrap ((j:Int)+1)) f1 s1) Q)→U (T (j:Int) f s) Q)
  (fin:∀ f1 s1,Wr (f,s) (f1,s1) (xs.flatMap w)→U (T (xs.length:Int) f1 s1) Q):U (T 0 f s) Q:=by
 have aux:∀ (m j:Nat) (f1:Bool) (s1:G1),xs.length-j=m→j≤xs.length→Wr (f,s) (f1,s1) ((xs.take j).flatMap w)→s1.length+14*((xs.drop j).flatMap w).length≤68000000000→U (T (j:Int) f1 s1) Q:=by
  intro m
  induction m with
  |zero=>
   intro j f1 s1 hm hj hw _
   have:j=xs.length:=by omega
   subst this
   rw [List.take_length] at hw
   exact fin f1 s1 hw
  |succ m ih=>
   intro j f1 s1 hm hj hw hb
   have hlt:j<xs.length:=by omega
   rw [drop_cons hlt,D9,A7] at hb
   refine step j f1 s1 hlt (by omega) fun f2 s2 h2=>?_
   have l2:=h2.len
   rw [P0 (by omega)]
   refine ih (j+1) f2 s2 (by omega) (by omega) ?_ (by omega)
   have W:=hw.app h2
   have e:(xs.take (j+1)).flatMap w=(xs.take j).flatMap w++w xs[j]:=by
    rw [List.take_add_one,C2 hlt,Option.toList_some,List.flatMap_append];simp
   rw [e];exact W
 exact aux xs.length 0 f s rfl (C4 _) (Wr.nil _) (by simpa using hb)
theorem Xf {R:D→D→Prop}{a:D}{ys:List D}(h:Rl R [a] ys):∃ a',ys=[a']∧R a a':=by
 obtain⟨hl,hr⟩:=h
 match ys,hl with
 |[a'],_=>exact⟨a',rfl,hr 0 (by simp) (by simp)⟩
theorem aD5 {R:D→D→Prop}{a b:D}{ys:List D}(h:Rl R [a,b] ys):∃ a' b',ys=[a',b']∧R a a'∧R b b':=by
 obtain⟨hl,hr⟩:=h
 match ys,hl with
 |[a',b'],_=>exact⟨a',b',rfl,hr 0 (by simp) (by simp),hr 1 (by simp) (by simp)⟩
theorem HM {n:Nat}{x y:D}(h:OS n x y):∃ k i j l t es bs zs es' bs' zs',x=S k t es bs zs∧y=AT k i j l t es' bs' zs':=by
 cases n with
 |zero=>exact h.elim
 |succ n=>obtain⟨k,i,j,l,t,es,bs,zs,es',bs',zs',h1,h2,_⟩:=h;exact⟨k,i,j,l,t,es,bs,zs,es',bs',zs',h1,h2⟩
theorem HN {n:Nat}{x y:D}(h:OS n x y):(L6 J5&&Q5 J5 y)=true:=by
 obtain⟨k,i,j,l,t,es,bs,zs,es',bs',zs',_,rfl⟩:=HM h;rfl
theorem WI {n:Nat}{x y:D}(h:OS n x y):J6 J5 y=y:=by
 obtain⟨k,i,j,l,t,es,bs,zs,es',bs',zs',_,rfl⟩:=HM h;rfl
theorem Ni:∀ (n:Nat) (x y:D),sE n x→OS n x y→U (fun m=>lF m y) fun r=>r=(true,[.bool (nT n x)]):=by
 intro n
 induction n with
 |zero=>intro x y h;exact h.elim
 |succ n ih=>
  rintro x y ⟨k,t,es,bs,zs,rfl,_,hb,_,hsh⟩ ⟨k2,i,j,l,t2,es2,bs2,zs2,es',bs',zs',e,rfl,_,_,_,hR,_⟩
  cases e
  refine U.eq (fun m=>XU m k i j l t es' bs' zs') ?_
  rcases hsh with ⟨rfl,_⟩|⟨rfl|rfl,_⟩|⟨rfl,rfl,h1,⟨b,c,rfl,_⟩,rfl⟩|⟨rfl,_⟩|⟨rfl,rfl,h1,h2,rfl⟩|⟨rfl,_⟩|⟨rfl,_⟩
  ·exact U.no rfl (U.no rfl (U.ret rfl))
  ·exact U.no rfl (U.no rfl (U.ret rfl))
  ·exact U.no rfl (U.no rfl (U.ret rfl))
  ·obtain⟨b',c',rfl,hb',hc'⟩:=aD5 hR
   have hc:=hb c (by simp)
   have ih:=ih c c' hc hc'
   cases n with
   |zero=>exact hc.elim
   |succ n=>
    obtain⟨k',i',j',l',t',es',bs3,zs3,es4,bs4,zs4,rfl,rfl⟩:=HM hc'
    refine U.I0 rfl (U.I0 rfl (U.I0 rfl (U.I0 rfl (U.N9 (fun h8=>?_) fun h8=>?_))))
    ·have h8:(k'==8)=true:=h8
     refine U.ret ?_
     show _=(true,[D.bool (k'==8||nT (n+1) (S k' t' es' bs3 zs3))])
     rw [h8];rfl
    ·have h8:(k'==8)=false:=h8
     refine U.I0 rfl (U.I0 rfl (U.H6 ih ?_))
     intro _ ds h;cases h
     refine⟨rfl,U.I0 rfl (U.ret ?_)⟩
     show _=(true,[D.bool (k'==8||nT (n+1) (S k' t' es' bs3 zs3))])
     rw [h8];rfl
  ·exact U.no rfl (U.no rfl (U.ret rfl))
  ·obtain⟨b,rfl⟩:∃ b,bs=[b]:=by
    match bs,h2 with
    |[b],_=>exact⟨b,rfl⟩
   obtain⟨b',rfl,hb'⟩:=Xf hR
   have ih:=ih b b' (hb b (by simp)) hb'
   refine U.no rfl (U.I0 rfl (U.I0 rfl (U.I0 (HN hb') ?_)))
   rw [show J6 J5 ([b'][0]?.getD D.top)=b' from WI hb']
   refine U.H6 ih ?_
   intro _ ds h;cases h
   exact⟨rfl,U.I0 rfl (U.ret rfl)⟩
  ·exact U.no rfl (U.no rfl (U.ret rfl))
  ·exact U.no rfl (U.no rfl (U.ret rfl))
section
variable {d:Nat} (ih:∀ x y,sE d x→OS d x y→Pr (fun n=>L0 n y) (yS d x))
include ih
theorem Fy {x y:D}(h:sE d x)(h':OS d x y):Pr (fun n=>L0 n (J6 J5 y)) (yS d x):=by rw [WI h'];exact ih x y h h'
theorem Yy {x y:D}(h:sE d x)(h':OS d x y)(ho:nT d x=false):Pr (fun n=>dU n (J6 J5 y)) (yS d x):=by
 have ho':=Ni d x y h h'
 have hp:=ih x y h h'
 rw [WI h']
 obtain⟨k,i,j,l,t,es,bs,zs,es',bs',zs',rfl,rfl⟩:=HM h'
 rw [ho] at ho'
 intro f s hb
 refine U.eq (fun n=>CK n k i j l t es' bs' zs' f (M6 s)) (U.H6 ho' ?_)
 intro _ ds h;cases h
 refine⟨rfl,U.I0 rfl (U.no rfl ?_)⟩
 (refine U.H6 (hp f s hb) ?_;rintro _ _ ⟨⟨f2,s2⟩,h,w2⟩;cases h;have lw2:=Wr.len w2;(try simp only [G0] at lw2);refine⟨rfl,U.I0 rfl ?_⟩)
 exact U.ret ⟨(f2,s2),rfl,w2⟩
theorem Wt {xs ys:List D}(hl:xs.length≤10)(hx:∀ x∈xs,sE d x)(hR:Rl (OS d) xs ys)(f:Bool)(s:G1)(hb:s.length+14*(xs.flatMap (yS d)).length≤68000000000) :
  U (fun n=>X0 n (.Z 8 ys) (ys.length:Int) (0:Int) (.bool f) (.Z 1 (M6 s))) fun r=>∃ st:Bool×G1,r=(false,[.Z 8 ys,.int .i64 (ys.length:Int),.int .i64 (ys.length:Int),.bool st.1,.Z 1 (M6 st.2)])∧Wr (f,s) st (xs.flatMap (yS d)):=by
 have el:=hR.1
 refine WN (xs:=xs) (w:=yS d) (T:=fun j f s n=>X0 n (.Z 8 ys) (ys.length:Int) j (.bool f) (.Z 1 (M6 s))) (by omega) hb (fun j f s hj hb K=>?_) fun f1 s1 W=>?_
 ·have hj':j<ys.length:=by omega
  have r:=hR.2 j hj hj'
  have p1:=Fy ih (hx _ (C6 hj)) r
  refine U.eq (fun n=>oC n _ _ _ _ _) (U.I0 (E6 (by omega)) (U.I0 (O5 hj') ?_))
  rw [bN hj']
  refine U.I0 (HN r) ?_
  (refine U.H6 (p1 f s hb) ?_;rintro _ _ ⟨⟨f2,s2⟩,h,w2⟩;cases h;have lw2:=Wr.len w2;(try simp only [G0] at lw2);refine⟨rfl,U.I0 rfl ?_⟩)
  exact K f2 s2 w2
 ·exact U.eq (fun n=>oC n _ _ _ _ _) (U.no (E8 (by omega)) (U.ret ⟨(f1,s1),by rw [el],W⟩))
theorem aB0 {x y:D}(h:Xb d x)(h':OA (OS d) x y):Pr (fun n=>fE n (J6 V6 y)) (iM (yS d) x):=by
 obtain⟨es0,es',k,i,j,l,t,fs,bs,zs,fs',bs',zs',rfl,rfl,hE,hO⟩:=h'
 have hel:=Sr hE
 have hep:=JT hE
 have hle:=hE.2.1
 obtain⟨es,s0,e,hl,_,hs⟩:=h
 have e1:s0=S k t fs bs zs:=by
  cases d with
  |zero=>exact hs.elim
  |succ d=>
   obtain⟨k2,t2,es2,bs2,zs2,rfl,_⟩:=hs
   cases e;rfl
 subst e1
 have e2:es=es0:=by cases e;rfl
 subst e2
 have p2:=ih _ _ hs hO
 have J:∀ (f:Bool) (s:G1),s.length+14*(lW (wE 4) es++([(3,[58])]++yS d (S k t fs bs zs)):List Tk).length≤68000000000→U (fun n=>jP n (M6 s) f es' k i j l t fs' bs' zs') fun r=>∃ st:Bool×G1,r=(true,[.bool st.1,.Z 1 (M6 st.2)])∧Wr (f,s) st (lW (wE 4) es++([(3,[58])]++yS d (S k t fs bs zs))):=by
  intro f s hb
  simp only [G0] at hb
  refine O6 (fun n=>jP.eq_1 n _ _ _ _ _ _ _ _ _ _ _) ?_
  rw [hel] at hb ⊢
  (refine U.H6 (EW (KE 4) (xs:=es') (by omega) hep f s (by omega)) ?_;rintro _ _ ⟨⟨f1,s1⟩,h,w1⟩;cases h;have lw1:=Wr.len w1;(try simp only [G0] at lw1);refine⟨rfl,U.I0 rfl ?_⟩)
  (refine U.H6 ((M4 (ws:=[(3,[58])]) (K1 rfl) (by decide) f1 s1 (by simp only [A0,A8];omega))) ?_;rintro _ _ ⟨⟨f2,s2⟩,h,w2⟩;cases h;have lw2:=Wr.len w2;(try simp only [G0] at lw2);refine⟨rfl,U.I0 (K3 rfl (M3 _ _ _)) ?_⟩)
  (refine U.H6 (p2 f2 s2 (by omega)) ?_;rintro _ _ ⟨⟨f3,s3⟩,h,w3⟩;cases h;have lw3:=Wr.len w3;(try simp only [G0] at lw3);refine⟨rfl,U.I0 rfl ?_⟩)
  exact U.ret ⟨(f3,s3),rfl,w1.app (w2.app w3)⟩
 intro f s hb
 have ea:iM (yS d) (arm es (S k t fs bs zs))=(bif es.isEmpty then [(1,wA)] else [])++(lW (wE 4) es++([(3,[58])]++yS d (S k t fs bs zs))):=rfl
 rw [ea] at hb ⊢
 refine U.eq (fun n=>EB n es' k i j l t fs' bs' zs' f (M6 s)) (U.N9 (fun h=>?_) fun h=>?_)
 ·have h0:es=[]:=by
   have:=eq_of_beq h
   exact E5.1 (by omega)
  subst h0
  (replace hb:s.length+14*([(1,wA)]++(lW (wE 4) []++([(3,[58])]++yS d (S k t fs bs zs))):List Tk).length≤68000000000:=hb;simp only [G0] at hb)
  (refine U.H6 ((M4 (ws:=[(1,wA)]) (K1 rfl) (by decide) f s (by simp only [A0,A8];omega))) ?_;rintro _ _ ⟨⟨f1,s1⟩,h,w1⟩;cases h;have lw1:=Wr.len w1;(try simp only [G0] at lw1);refine⟨rfl,U.I0 (K3 rfl (M3 _ _ _)) ?_⟩)
  refine (J f1 s1 (by simp only [G0];omega)).mono fun r ⟨st,h1,h2⟩=>⟨st,h1,w1.app h2⟩
 ·have h0:es.isEmpty=false:=by
   cases es with
   |nil=>exact absurd h (by rw [show (es'.length:Int)=0 from by simp at hle;omega];decide)
   |cons=>rfl
  rw [h0] at hb ⊢
  exact J f s hb
theorem Xr {xs ys:List D}(hl:xs.length≤10)(hx:∀ x∈xs,Xb d x)(hR:Rl (OA (OS d)) xs ys)(f:Bool)(s:G1)(hb:s.length+14*(xs.flatMap (iM (yS d))).length≤68000000000) :
  U (fun n=>X3 n (.Z 9 ys) (ys.length:Int) (0:Int) (.bool f) (.Z 1 (M6 s))) fun r=>∃ st:Bool×G1,r=(false,[.Z 9 ys,.int .i64 (ys.length:Int),.int .i64 (ys.length:Int),.bool st.1,.Z 1 (M6 st.2)])∧Wr (f,s) st (xs.flatMap (iM (yS d))):=by
 have el:=hR.1
 refine WN (xs:=xs) (w:=iM (yS d)) (T:=fun j f s n=>X3 n (.Z 9 ys) (ys.length:Int) j (.bool f) (.Z 1 (M6 s))) (by omega) hb (fun j f s hj hb K=>?_) fun f1 s1 W=>?_
 ·have hj':j<ys.length:=by omega
  have r:=hR.2 j hj hj'
  have p1:=aB0 ih (hx _ (C6 hj)) r
  refine U.eq (fun n=>oD n _ _ _ _ _) (U.I0 (E6 (by omega)) (U.I0 (O5 hj') ?_))
  rw [bN hj']
  refine U.I0 (by obtain⟨_,_,_,_,_,_,_,_,_,_,_,_,_,_,e,_⟩:=r;rw [e];rfl) ?_
  (refine U.H6 (p1 f s hb) ?_;rintro _ _ ⟨⟨f2,s2⟩,h,w2⟩;cases h;have lw2:=Wr.len w2;(try simp only [G0] at lw2);refine⟨rfl,U.I0 rfl ?_⟩)
  exact K f2 s2 w2
 ·exact U.eq (fun n=>oD n _ _ _ _ _) (U.no (E8 (by omega)) (U.ret ⟨(f1,s1),by rw [el],W⟩))
end
end
theorem Yx:∀ (d:Nat) (x y:D),sE d x→OS d x y→Pr (fun n=>L0 n y) (yS d x):=by
 intro d
 induction d with
 |zero=>intro x y h;exact h.elim
 |succ d ih=>
  rintro x y ⟨k,t,es,bs,zs,rfl,he,hb0,hz,hsh⟩ ⟨k2,i,j,l0,t2,es2,bs2,zs2,es',bs',zs',e,rfl,hE,_,_,hR,hZ⟩ f s hb
  cases e
  rw [aD2] at hb ⊢
  refine U.eq (fun n=>CJ n k i j l0 t es' bs' zs' f (M6 s)) ?_
  rcases hsh with ⟨rfl,rfl,rfl,hl,rfl⟩|⟨hk,rfl,⟨l,e,rfl,_⟩,rfl,rfl⟩|⟨rfl,rfl,hl,⟨b,c,rfl,hop⟩,rfl⟩|⟨rfl,rfl,hl,rfl,hz1,hz2⟩|⟨rfl,rfl,hl,hl2,rfl⟩|⟨rfl,ht,hl,rfl,rfl⟩|⟨rfl,rfl,rfl,rfl,rfl⟩
  ·(replace hb:s.length+14*([(1,V9),nl]++(bs.flatMap (yS d)++[(1,fF),nl]):List Tk).length≤68000000000:=hb;simp only [G0] at hb)
   refine U.I0 rfl ?_
   (refine U.H6 ((pC (ws:=[(1,V9)]) (K1 rfl) (by decide) (by decide) f s (by simp only [G0];omega))) ?_;rintro _ _ ⟨⟨f1,s1⟩,h,w1⟩;cases h;have lw1:=Wr.len w1;(try simp only [G0] at lw1);refine⟨rfl,U.I0 (K3 rfl (M3 _ _ _)) ?_⟩)
   refine U.L3 (Wt ih (xs:=bs) (ys:=bs') (by omega) hb0 hR f1 s1 (by omega)) (fun ds h=>by obtain⟨_,h,_⟩:=h;cases h) fun ds h=>?_
   obtain⟨⟨f2,s2⟩,h,w2⟩:=h
   cases h
   have l2:=w2.len
   refine U.I0 rfl ?_
   (refine U.H6 ((pC (ws:=[(1,fF)]) (K1 rfl) (by decide) (by decide) f2 s2 (by simp only [G0];omega))) ?_;rintro _ _ ⟨⟨f3,s3⟩,h,w3⟩;cases h;have lw3:=Wr.len w3;(try simp only [G0] at lw3);refine⟨rfl,U.I0 (K3 rfl (M3 _ _ _)) ?_⟩)
   exact U.ret ⟨(f3,s3),rfl,w1.app (w2.app w3)⟩
  ·obtain⟨l',e',rfl,h1,h2,e1,e2⟩:=aA8 hE
   have p1:=SJ h1
   have p2:=SJ h2
   rcases hk with rfl|rfl
   ·show U _ fun r=>∃ st:Bool×G1,r=(true,[.bool st.1,.Z 1 (M6 st.2)])∧Wr (f,s) st (wE 4 l++([(3,[61])]++(wE 4 e++[(3,[59]),nl])))
    replace hb:s.length+14*(wE 4 l++([(3,[61])]++(wE 4 e++[(3,[59]),nl])):List Tk).length≤68000000000:=hb
    rw [e1,e2] at hb ⊢
    simp only [G0] at hb
    refine U.no rfl (U.I0 rfl (O6 (fun n=>Z2.eq_1 n _ _ _ _ _ _ _ _) (U.I0 rfl (U.I0 rfl (U.I0 (LR h1) ?_)))))
    (refine U.H6 (p1 f s (by omega)) ?_;rintro _ _ ⟨⟨f1,s1⟩,h,w1⟩;cases h;have lw1:=Wr.len w1;(try simp only [G0] at lw1);refine⟨rfl,U.I0 rfl ?_⟩)
    refine U.I0 rfl ?_
    (refine U.H6 ((M4 (ws:=[(3,[61])]) (K1 rfl) (by decide) f1 s1 (by simp only [A0,A8];omega))) ?_;rintro _ _ ⟨⟨f2,s2⟩,h,w2⟩;cases h;have lw2:=Wr.len w2;(try simp only [G0] at lw2);refine⟨rfl,U.I0 (K3 rfl (M3 _ _ _)) ?_⟩)
    refine O6 (fun n=>iV.eq_1 n _ _ _) (U.I0 rfl (U.I0 (LR h2) ?_))
    (refine U.H6 (p2 f2 s2 (by omega)) ?_;rintro _ _ ⟨⟨f3,s3⟩,h,w3⟩;cases h;have lw3:=Wr.len w3;(try simp only [G0] at lw3);refine⟨rfl,U.I0 rfl ?_⟩)
    (refine U.H6 ((pC (ws:=[(3,[59])]) (K1 rfl) (by decide) (by decide) f3 s3 (by simp only [G0];omega))) ?_;rintro _ _ ⟨⟨f4,s4⟩,h,w4⟩;cases h;have lw4:=Wr.len w4;(try simp only [G0] at lw4);refine⟨rfl,U.I0 (K3 rfl (M3 _ _ _)) ?_⟩)
    exact U.ret ⟨(f4,s4),rfl,w1.app (w2.app (w3.app w4))⟩
   ·show U _ fun r=>∃ st:Bool×G1,r=(true,[.bool st.1,.Z 1 (M6 st.2)])∧Wr (f,s) st (wE 4 l++([(3,[60,61])]++(wE 4 e++[(3,[59]),nl])))
    replace hb:s.length+14*(wE 4 l++([(3,[60,61])]++(wE 4 e++[(3,[59]),nl])):List Tk).length≤68000000000:=hb
    rw [e1,e2] at hb ⊢
    simp only [G0] at hb
    refine U.no rfl (U.no rfl (O6 (fun n=>Z2.eq_1 n _ _ _ _ _ _ _ _) (U.I0 rfl (U.I0 rfl (U.I0 (LR h1) ?_)))))
    (refine U.H6 (p1 f s (by omega)) ?_;rintro _ _ ⟨⟨f1,s1⟩,h,w1⟩;cases h;have lw1:=Wr.len w1;(try simp only [G0] at lw1);refine⟨rfl,U.I0 rfl ?_⟩)
    refine U.no rfl ?_
    (refine U.H6 ((M4 (ws:=[(3,[60,61])]) (K1 rfl) (by decide) f1 s1 (by simp only [A0,A8];omega))) ?_;rintro _ _ ⟨⟨f2,s2⟩,h,w2⟩;cases h;have lw2:=Wr.len w2;(try simp only [G0] at lw2);refine⟨rfl,U.I0 (K3 rfl (M3 _ _ _)) ?_⟩)
    refine O6 (fun n=>iV.eq_1 n _ _ _) (U.I0 rfl (U.I0 (LR h2) ?_))
    (refine U.H6 (p2 f2 s2 (by omega)) ?_;rintro _ _ ⟨⟨f3,s3⟩,h,w3⟩;cases h;have lw3:=Wr.len w3;(try simp only [G0] at lw3);refine⟨rfl,U.I0 rfl ?_⟩)
    (refine U.H6 ((pC (ws:=[(3,[59])]) (K1 rfl) (by decide) (by decide) f3 s3 (by simp only [G0];omega))) ?_;rintro _ _ ⟨⟨f4,s4⟩,h,w4⟩;cases h;have lw4:=Wr.len w4;(try simp only [G0] at lw4);refine⟨rfl,U.I0 (K3 rfl (M3 _ _ _)) ?_⟩)
    exact U.ret ⟨(f4,s4),rfl,w1.app (w2.app (w3.app w4))⟩
  ·obtain⟨b',c',rfl,hb',hc'⟩:=aD5 hR
   have hb1:=hb0 b (by simp)
   have hc1:=hb0 c (by simp)
   match es,hl,he,hE with
   |[e],_,he,hE=>
    obtain⟨e',rfl,h1,e1⟩:=Gi hE
    have p1:=WK h1
    have p2:=Fy ih hb1 hb'
    have p3:=Fy ih hc1 hc'
    have pt:=Yy ih hb1 hb'
    obtain⟨kc,ic,jc,lc,tc,ec,bc,zc,ec',bc',zc',rfl,rfl⟩:=HM hc'
    refine U.no rfl (U.no rfl (O6 (fun n=>Z2.eq_1 n _ _ _ _ _ _ _ _) (U.no rfl (U.I0 rfl ?_))))
    have eW:aA6 (yS d) 4 [] [e] [b,S kc tc ec bc zc] []=[(1,uI)]++(pW e'++(yS d b++(bif kc==8 then [] else [(1,dR)]++yS d (S kc tc ec bc zc)))):=by
     rw [← Rm e1];rfl
    rw [eW] at hb ⊢
    have hb2:s.length+14*(1+((pW e').length+((yS d b).length+(bif kc==8 then [] else [(1,dR)]++yS d (S kc tc ec bc zc):List Tk).length)))≤68000000000:=by simpa only [G0,C5] using hb
    clear hb
    (refine U.H6 ((M4 (ws:=[(1,uI)]) (K1 rfl) (by decide) f s (by simp only [A0,A8];omega))) ?_;rintro _ _ ⟨⟨f1,s1⟩,h,w1⟩;cases h;have lw1:=Wr.len w1;(try simp only [G0] at lw1);refine⟨rfl,U.I0 (K3 rfl (M3 _ _ _)) ?_⟩)
    refine U.I0 rfl (U.I0 (LR h1) ?_)
    (refine U.H6 (p1 f1 s1 (by omega)) ?_;rintro _ _ ⟨⟨f2,s2⟩,h,w2⟩;cases h;have lw2:=Wr.len w2;(try simp only [G0] at lw2);refine⟨rfl,U.I0 rfl ?_⟩)
    refine U.I0 rfl (U.I0 rfl (U.I0 rfl (U.N9 (fun h8=>?_) fun h8=>?_)))
    ·have h8:(kc==8)=true:=h8
     rw [h8] at hb2 ⊢
     refine U.I0 rfl (U.I0 (HN hb') ?_)
     (refine U.H6 (p2 f2 s2 (by omega)) ?_;rintro _ _ ⟨⟨f3,s3⟩,h,w3⟩;cases h;have lw3:=Wr.len w3;(try simp only [G0] at lw3);refine⟨rfl,U.I0 rfl ?_⟩)
     refine U.ret ⟨(f3,s3),rfl,?_⟩
     have W:=w1.app (w2.app w3)
     simpa using W
    ·have h8:(kc==8)=false:=h8
     rw [h8] at hb2 ⊢
     simp only [cond_false,G0] at hb2
     have ho:nT d b=false:=by
      rcases hop with h|h
      ·exact absurd (congrArg (fun x=>(x.at_ 0).i==8) h) (by show ¬ (kc==8)=true;rw [h8];decide)
      ·exact h
     refine U.I0 rfl (U.I0 (HN hb') ?_)
     (refine U.H6 (pt ho f2 s2 (by omega)) ?_;rintro _ _ ⟨⟨f3,s3⟩,h,w3⟩;cases h;have lw3:=Wr.len w3;(try simp only [G0] at lw3);refine⟨rfl,U.I0 rfl ?_⟩)
     (refine U.H6 ((M4 (ws:=[(1,dR)]) (K1 rfl) (by decide) f3 s3 (by simp only [A0,A8];omega))) ?_;rintro _ _ ⟨⟨f4,s4⟩,h,w4⟩;cases h;have lw4:=Wr.len w4;(try simp only [G0] at lw4);refine⟨rfl,U.I0 (K3 rfl (M3 _ _ _)) ?_⟩)
     refine U.I0 rfl (U.I0 (HN hc') ?_)
     (refine U.H6 (p3 f4 s4 (by omega)) ?_;rintro _ _ ⟨⟨f5,s5⟩,h,w5⟩;cases h;have lw5:=Wr.len w5;(try simp only [G0] at lw5);refine⟨rfl,U.I0 rfl ?_⟩)
     exact U.ret ⟨(f5,s5),rfl,w1.app (w2.app (w3.app (w4.app w5)))⟩
  ·match es,hl,he,hE with
   |[e],_,he,hE=>
    obtain⟨e',rfl,h1,e1⟩:=Gi hE
    have p1:=WK h1
    show U _ fun r=>∃ st:Bool×G1,r=(true,[.bool st.1,.Z 1 (M6 st.2)])∧Wr (f,s) st ([(1,pB)]++(pW e++([nl]++(zs.flatMap (iM (yS d))++[(1,dW),nl]))))
    replace hb:s.length+14*([(1,pB)]++(pW e++([nl]++(zs.flatMap (iM (yS d))++[(1,dW),nl]))):List Tk).length≤68000000000:=hb
    rw [Rm e1] at hb ⊢
    simp only [G0] at hb
    refine U.no rfl (U.no rfl (O6 (fun n=>Z2.eq_1 n _ _ _ _ _ _ _ _) (U.no rfl (U.no rfl (U.I0 rfl ?_)))))
    (refine U.H6 ((M4 (ws:=[(1,pB)]) (K1 rfl) (by decide) f s (by simp only [A0,A8];omega))) ?_;rintro _ _ ⟨⟨f1,s1⟩,h,w1⟩;cases h;have lw1:=Wr.len w1;(try simp only [G0] at lw1);refine⟨rfl,U.I0 (K3 rfl (M3 _ _ _)) ?_⟩)
    refine U.I0 rfl (U.I0 (LR h1) ?_)
    (refine U.H6 (p1 f1 s1 (by omega)) ?_;rintro _ _ ⟨⟨f2,s2⟩,h,w2⟩;cases h;have lw2:=Wr.len w2;(try simp only [G0] at lw2);refine⟨rfl,U.I0 rfl ?_⟩)
    refine U.H6 (Yk f2 s2 (by simp only [A0,A8];omega)) ?_
    rintro _ _ ⟨⟨f3,s3⟩,h,w3⟩;cases h
    have l3:=w3.len
    simp only [A0,A8] at l3
    refine⟨rfl,U.I0 rfl ?_⟩
    refine U.L3 (Xr ih (xs:=zs) (ys:=zs') (by omega) hz hZ f3 s3 (by omega)) (fun ds h=>by obtain⟨_,h,_⟩:=h;cases h) fun ds h=>?_
    obtain⟨⟨f4,s4⟩,h,w4⟩:=h
    cases h
    have l4:=w4.len
    refine U.I0 rfl ?_
    (refine U.H6 ((pC (ws:=[(1,dW)]) (K1 rfl) (by decide) (by decide) f4 s4 (by simp only [G0];omega))) ?_;rintro _ _ ⟨⟨f5,s5⟩,h,w5⟩;cases h;have lw5:=Wr.len w5;(try simp only [G0] at lw5);refine⟨rfl,U.I0 (K3 rfl (M3 _ _ _)) ?_⟩)
    exact U.ret ⟨(f5,s5),rfl,w1.app (w2.app (w3.app (w4.app w5)))⟩
  ·obtain⟨b,rfl⟩:∃ b,bs=[b]:=by
    match bs,hl2 with
    |[b],_=>exact⟨b,rfl⟩
   obtain⟨b',rfl,hb'⟩:=Xf hR
   have p2:=Fy ih (hb0 b (by simp)) hb'
   match es,hl,he,hE with
   |[x,y,z],_,he,hE=>
    obtain⟨x',y',z',rfl,h1,h2,h3,e1,e2,e3⟩:=Xo hE
    have p1:=Tb (t:=[105]) (by decide) h1 h2 h3
    show U _ fun r=>∃ st:Bool×G1,r=(true,[.bool st.1,.Z 1 (M6 st.2)])∧Wr (f,s) st (bR [105] [x,y,z]++yS d b)
    replace hb:s.length+14*(bR [105] [x,y,z]++yS d b:List Tk).length≤68000000000:=hb
    rw [Ez e1 e2 e3] at hb ⊢
    rw [A7] at hb
    refine U.no rfl (U.no rfl (O6 (fun n=>Z2.eq_1 n _ _ _ _ _ _ _ _) (U.no rfl (U.no rfl (U.no rfl (U.I0 rfl ?_))))))
    (refine U.H6 (p1 f s (by omega)) ?_;rintro _ _ ⟨⟨f1,s1⟩,h,w1⟩;cases h;have lw1:=Wr.len w1;(try simp only [G0] at lw1);refine⟨rfl,U.I0 rfl ?_⟩)
    refine U.I0 rfl (U.I0 (HN hb') ?_)
    (refine U.H6 (p2 f1 s1 (by omega)) ?_;rintro _ _ ⟨⟨f2,s2⟩,h,w2⟩;cases h;have lw2:=Wr.len w2;(try simp only [G0] at lw2);refine⟨rfl,U.I0 rfl ?_⟩)
    exact U.ret ⟨(f2,s2),rfl,w1.app w2⟩
  ·match es,hl,he,hE with
   |[e],_,he,hE=>
    obtain⟨e',rfl,h1,e1⟩:=Gi hE
    have p1:=WK h1
    have J:∀ (f:Bool) (s:G1),s.length+14*([(1,pK)]++(pW e++[(3,[59]),nl]):List Tk).length≤68000000000→U (fun n=>iX n (M6 s) f [e']) fun r=>∃ st:Bool×G1,r=(true,[.bool st.1,.Z 1 (M6 st.2)])∧Wr (f,s) st ([(1,pK)]++(pW e++[(3,[59]),nl])):=by
     intro f s hb
     rw [Rm e1] at hb ⊢
     simp only [G0] at hb
     refine O6 (fun n=>iX.eq_1 n _ _ _) ?_
     (refine U.H6 ((M4 (ws:=[(1,pK)]) (K1 rfl) (by decide) f s (by simp only [A0,A8];omega))) ?_;rintro _ _ ⟨⟨f1,s1⟩,h,w1⟩;cases h;have lw1:=Wr.len w1;(try simp only [G0] at lw1);refine⟨rfl,U.I0 (K3 rfl (M3 _ _ _)) ?_⟩)
     refine U.I0 rfl (U.I0 (LR h1) ?_)
     (refine U.H6 (p1 f1 s1 (by omega)) ?_;rintro _ _ ⟨⟨f2,s2⟩,h,w2⟩;cases h;have lw2:=Wr.len w2;(try simp only [G0] at lw2);refine⟨rfl,U.I0 rfl ?_⟩)
     (refine U.H6 ((pC (ws:=[(3,[59])]) (K1 rfl) (by decide) (by decide) f2 s2 (by simp only [G0];omega))) ?_;rintro _ _ ⟨⟨f3,s3⟩,h,w3⟩;cases h;have lw3:=Wr.len w3;(try simp only [G0] at lw3);refine⟨rfl,U.I0 (K3 rfl (M3 _ _ _)) ?_⟩)
     exact U.ret ⟨(f3,s3),rfl,w1.app (w2.app w3)⟩
    refine U.no rfl (U.no rfl (O6 (fun n=>Z2.eq_1 n _ _ _ _ _ _ _ _) (U.no rfl (U.no rfl (U.no rfl (U.no rfl (U.I0 rfl ?_)))))))
    rcases ht with rfl|rfl
    ·exact U.no rfl (J f s hb)
    ·(replace hb:s.length+14*([(1,[112,49]),(3,[58])]++([(1,pK)]++(pW e++[(3,[59]),nl])):List Tk).length≤68000000000:=hb;simp only [G0] at hb)
     refine U.I0 rfl ?_
     (refine U.H6 ((M4 (ws:=[(1,[112,49]),(3,[58])]) (K1 rfl) (by decide) f s (by simp only [A0,A8];omega))) ?_;rintro _ _ ⟨⟨f1,s1⟩,h,w1⟩;cases h;have lw1:=Wr.len w1;(try simp only [G0] at lw1);refine⟨rfl,U.I0 (K3 rfl (M3 _ _ _)) ?_⟩)
     exact (J f1 s1 (by simp only [G0];omega)).mono fun r ⟨st,h1,h2⟩=>⟨st,h1,w1.app h2⟩
  ·(replace hb:s.length+14*([(3,[59]),nl]:List Tk).length≤68000000000:=hb;simp only [G0] at hb)
   refine U.no rfl (U.no rfl (O6 (fun n=>Z2.eq_1 n _ _ _ _ _ _ _ _) (U.no rfl (U.no rfl (U.no rfl (U.no rfl (U.no rfl ?_)))))))
   (refine U.H6 ((pC (ws:=[(3,[59])]) (K1 rfl) (by decide) (by decide) f s (by simp only [G0];omega))) ?_;rintro _ _ ⟨⟨f1,s1⟩,h,w1⟩;cases h;have lw1:=Wr.len w1;(try simp only [G0] at lw1);refine⟨rfl,U.I0 (K3 rfl (M3 _ _ _)) ?_⟩)
   exact U.ret ⟨(f1,s1),rfl,w1⟩
end Go.Proofs.YtalibicpmfbieaaGreatDoor
