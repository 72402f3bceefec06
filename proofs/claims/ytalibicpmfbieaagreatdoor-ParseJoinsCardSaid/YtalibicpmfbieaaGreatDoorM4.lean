import Derived.Test.YtalibicpmfbieaaGreatDoorM3
import Derived.Test.YtalibicpmfbieaaGreatDoorM1
namespace Go.Proofs.YtalibicpmfbieaaGreatDoor
open Go.AE
set_option linter.all false
section
section
variable {l:List D} (hl:l.length≤1000000) {n:Nat} (ih:aA9 l n)
include hl
theorem Vo {i:Nat}(ht:K0 l i [(3,[59])]):Pq (fun m=>L4 m) l i 1 1 (OS (n+1) tX) (SH (n+1)):=by
 obtain⟨a1,b1,e1,h1⟩:=J8 ht
 intro d c p0 p1 p2 hd hd2 hc hc2
 have hS:d+1+(SH n:Int)≤40:=by unfold SH at hd2 ⊢;omega
 unfold SH at hd2
 (refine U.eq (fun m=>Y0 m l i d c p0 p1 p2 0) (U.H6 (kG (l:=l) (d:=d) (c:=c) (p0:=p0) (p1:=p1) (p2:=p2) (i:Int) (by omega) hd) ?_);intro _ ds h0;cases h0;refine⟨rfl,U.I0 rfl (U.no rfl (U.H6 (X4 (l:=l) (d:=(d+1)) (c:=c) (p0:=p0) (p1:=p1) (p2:=p2) (i:Int) (by omega) hc) ?_))⟩;intro _ ds h0;cases h0;refine⟨rfl,U.I0 rfl (U.H6 (S5 (d:=(d+1)) (c:=(c+1)) (p0:=p0) (p1:=p1) (p2:=p2) h1) ?_)⟩;intro _ ds h0;cases h0;refine⟨rfl,U.I0 rfl ?_⟩)
 refine U.H6 (N6 (d:=(d+1)) (c:=(c+1)) (p0:=p0) (p1:=p1) (p2:=p2) hl h1 rfl) ?_
 (intro _ ds h0;cases h0;refine⟨rfl,U.I0 rfl ?_⟩)
 refine U.I0 rfl ?_
 (refine U.H6 (fS (l:=l) (d:=d) (c:=(c+1)) (p0:=p0) (p1:=p1) (p2:=p2) _ (by omega) hd) ?_;intro _ ds h0;cases h0;refine⟨rfl,U.I0 rfl ?_⟩)
 exact U.ret ⟨_,⟨8,a1,b1,e1,[],[],[],[],[],[],[],rfl,rfl,jI.nil,by simp,by simp,Rl.nil,Rl.nil⟩,rfl⟩
theorem Nv {k:Int}(hk:k=2∨k=3){x e:D}(hx:isLeft x)(he:fD 4 e){i:Nat}(ht:K0 l i (wE 4 x++([(3,bif k==2 then [61] else [60,61])]++(wE 4 e++[(3,[59])])))) :
  Pq (fun m=>L4 m) l i ((wE 4 x).length+(wE 4 e).length+2) 1 (OS (n+1) (S k [] [x,e] [] [])) (SH (n+1)):=by
 obtain⟨t,a1,b1,e1,h1,hn⟩:=YY hx (K4.1 ht).1
 have hx4:fD 4 x:=fZ (by decide) (uV hx)
 intro d c p0 p1 p2 hd hd2 hc hc2
 unfold SH at hd2
 (refine U.eq (fun m=>Y0 m l i d c p0 p1 p2 0) (U.H6 (kG (l:=l) (d:=d) (c:=c) (p0:=p0) (p1:=p1) (p2:=p2) (i:Int) (by omega) hd) ?_);intro _ ds h0;cases h0;refine⟨rfl,U.I0 rfl (U.no rfl (U.H6 (X4 (l:=l) (d:=(d+1)) (c:=c) (p0:=p0) (p1:=p1) (p2:=p2) (i:Int) (by omega) hc) ?_))⟩;intro _ ds h0;cases h0;refine⟨rfl,U.I0 rfl (U.H6 (S5 (d:=(d+1)) (c:=(c+1)) (p0:=p0) (p1:=p1) (p2:=p2) h1) ?_)⟩;intro _ ds h0;cases h0;refine⟨rfl,U.I0 rfl ?_⟩)
 (refine U.H6 (J7 (d:=(d+1)) (c:=(c+1)) (p0:=p0) (p1:=p1) (p2:=p2) h1 (TB hn rfl)) ?_;intro _ ds h0;cases h0;refine⟨rfl,U.I0 rfl (U.no rfl ?_)⟩)
 (refine U.H6 (J7 (d:=(d+1)) (c:=(c+1)) (p0:=p0) (p1:=p1) (p2:=p2) h1 (TB hn rfl)) ?_;intro _ ds h0;cases h0;refine⟨rfl,U.I0 rfl (U.no rfl ?_)⟩)
 (refine U.H6 (J7 (d:=(d+1)) (c:=(c+1)) (p0:=p0) (p1:=p1) (p2:=p2) h1 (TB hn rfl)) ?_;intro _ ds h0;cases h0;refine⟨rfl,U.I0 rfl (U.no rfl ?_)⟩)
 refine U.H6 (J7 (d:=(d+1)) (c:=(c+1)) (p0:=p0) (p1:=p1) (p2:=p2) h1 (TB hn rfl)) ?_
 intro _ ds h0;cases h0
 refine⟨rfl,U.I0 rfl (U.L3 (Q:=fun r=>∃ y z,OE 4 x y∧OE 4 e z∧r=(false,[.bool false,.Z 5 l,.int .i64 ((i+((wE 4 x).length+(wE 4 e).length+2):Nat):Int),.int .i64 (d+1),.int .i64 (c+1),.int .i64 p0,.int .i64 p1,.int .i64 p2,.int .i64 0,.int .i64 0,.int .i64 0,.int .i64 0,.int .i64 0,.str [],.int .i64 k,.int .i64 a1,.int .i64 b1,.int .i64 e1,.str [],.Z 6 [],.Z 8 [],.Z 9 [],.Z 6 [y,z],.Z 8 [],.Z 9 []])) ?_ (fun ds h=>by obtain⟨_,_,_,_,h⟩:=h;cases h) fun ds h=>?_)⟩
 ·refine U.eq (fun m=>cB m _ _ _ _ _ _ _ _ _ _ _ _ _ _ _ _ _ _ _ _ _ _ _ _ _) (U.no rfl (U.H6 (J7 (d:=(d+1)) (c:=(c+1)) (p0:=p0) (p1:=p1) (p2:=p2) h1 (TB hn rfl)) ?_))
  (intro _ ds h0;cases h0;refine⟨rfl,U.I0 rfl ?_⟩)
  refine U.no rfl (U.H6 (gM (d:=(d+1)) (c:=(c+1)) (p0:=p0) (p1:=p1) (p2:=p2) pK h1) ?_)
  (intro _ ds h0;cases h0;refine⟨rfl,U.I0 rfl ?_⟩)
  refine U.no (by exact TB hn rfl) (U.H6 (Wn hl hk hx he ht a1 b1 e1 (d+1) (c+1) p0 p1 p2 (by omega) (by omega)) ?_)
  rintro _ ds ⟨y,z,hy,hz,h0⟩;cases h0
  exact⟨rfl,U.I0 rfl (U.ret ⟨y,z,hy,hz,rfl⟩)⟩
 ·obtain⟨y,z,hy,hz,h⟩:=h
  cases h
  refine U.I0 rfl ?_
  (refine U.H6 (fS (l:=l) (d:=d) (c:=(c+1)) (p0:=p0) (p1:=p1) (p2:=p2) _ (by omega) hd) ?_;intro _ ds h0;cases h0;refine⟨rfl,U.I0 rfl ?_⟩)
  exact U.ret ⟨_,⟨k,a1,b1,e1,[],[x,e],[],[],[y,z],[],[],rfl,rfl,jI.two hx4 he hy hz,by simp,by simp,Rl.nil,Rl.nil⟩,rfl⟩
theorem Xs {t:G1}(ht':t=[]∨t=[112,49]){e:D}(he:fD 4 e){i:Nat}(ht:K0 l i ((bif t.isEmpty then [] else [(1,t),(3,[58])])++([(1,pK)]++(pW e++[(3,[59])])))) :
  Pq (fun m=>L4 m) l i ((bif t.isEmpty then 0 else 2)+((pW e).length+2)) 1 (OS (n+1) (S 7 t [e] [] [])) (SH (n+1)):=by
 intro d c p0 p1 p2 hd hd2 hc hc2
 unfold SH at hd2
 rcases ht' with rfl|rfl
 ·have ht:K0 l i ([(1,pK)]++(pW e++[(3,[59])])):=ht
  obtain⟨a1,b1,e1,h1⟩:=J8 ht
  (refine U.eq (fun m=>Y0 m l i d c p0 p1 p2 0) (U.H6 (kG (l:=l) (d:=d) (c:=c) (p0:=p0) (p1:=p1) (p2:=p2) (i:Int) (by omega) hd) ?_);intro _ ds h0;cases h0;refine⟨rfl,U.I0 rfl (U.no rfl (U.H6 (X4 (l:=l) (d:=(d+1)) (c:=c) (p0:=p0) (p1:=p1) (p2:=p2) (i:Int) (by omega) hc) ?_))⟩;intro _ ds h0;cases h0;refine⟨rfl,U.I0 rfl (U.H6 (S5 (d:=(d+1)) (c:=(c+1)) (p0:=p0) (p1:=p1) (p2:=p2) h1) ?_)⟩;intro _ ds h0;cases h0;refine⟨rfl,U.I0 rfl ?_⟩)
  (refine U.H6 (J7 (d:=(d+1)) (c:=(c+1)) (p0:=p0) (p1:=p1) (p2:=p2) h1 rfl) ?_;intro _ ds h0;cases h0;refine⟨rfl,U.I0 rfl (U.no rfl ?_)⟩)
  (refine U.H6 (J7 (d:=(d+1)) (c:=(c+1)) (p0:=p0) (p1:=p1) (p2:=p2) h1 rfl) ?_;intro _ ds h0;cases h0;refine⟨rfl,U.I0 rfl (U.no rfl ?_)⟩)
  (refine U.H6 (J7 (d:=(d+1)) (c:=(c+1)) (p0:=p0) (p1:=p1) (p2:=p2) h1 rfl) ?_;intro _ ds h0;cases h0;refine⟨rfl,U.I0 rfl (U.no rfl ?_)⟩)
  refine U.H6 (J7 (d:=(d+1)) (c:=(c+1)) (p0:=p0) (p1:=p1) (p2:=p2) h1 rfl) ?_
  intro _ ds h0;cases h0
  refine⟨rfl,U.I0 rfl (U.L3 (Q:=fun r=>∃ y,OE 4 e y∧r=(false,[.bool false,.Z 5 l,.int .i64 ((i+((pW e).length+2):Nat):Int),.int .i64 (d+1),.int .i64 (c+1),.int .i64 p0,.int .i64 p1,.int .i64 p2,.int .i64 0,.int .i64 0,.int .i64 0,.int .i64 0,.int .i64 0,.str [],.int .i64 7,.int .i64 a1,.int .i64 b1,.int .i64 e1,.str [],.Z 6 [],.Z 8 [],.Z 9 [],.Z 6 [y],.Z 8 [],.Z 9 []])) ?_ (fun ds h=>by obtain⟨_,_,h⟩:=h;cases h) fun ds h=>?_)⟩
  ·refine U.eq (fun m=>cB m _ _ _ _ _ _ _ _ _ _ _ _ _ _ _ _ _ _ _ _ _ _ _ _ _) (U.no rfl (U.H6 (J7 (d:=(d+1)) (c:=(c+1)) (p0:=p0) (p1:=p1) (p2:=p2) h1 rfl) ?_))
   (intro _ ds h0;cases h0;refine⟨rfl,U.I0 rfl ?_⟩)
   refine U.no rfl (U.H6 (gM (d:=(d+1)) (c:=(c+1)) (p0:=p0) (p1:=p1) (p2:=p2) pK h1) ?_)
   (intro _ ds h0;cases h0;refine⟨rfl,U.I0 rfl ?_⟩)
   refine U.I0 rfl (U.H6 (RZ hl he ht 8 a1 b1 e1 [] [] [] [] (d+1) (c+1) p0 p1 p2 (by omega) (by omega)) ?_)
   rintro _ ds ⟨y,hy,h0⟩;cases h0
   exact⟨rfl,U.I0 rfl (U.ret ⟨y,hy,rfl⟩)⟩
  ·obtain⟨y,hy,h⟩:=h
   cases h
   refine U.I0 rfl ?_
   (refine U.H6 (fS (l:=l) (d:=d) (c:=(c+1)) (p0:=p0) (p1:=p1) (p2:=p2) _ (by omega) hd) ?_;intro _ ds h0;cases h0;refine⟨rfl,U.I0 rfl ?_⟩)
   refine U.ret ⟨_,⟨7,a1,b1,e1,[],[e],[],[],[y],[],[],rfl,rfl,jI.one he hy,by simp,by simp,Rl.nil,Rl.nil⟩,?_⟩
   show (_:Bool×List D)=(true,[_,.Z 5 l,.int .i64 ((i+(0+((pW e).length+2)):Nat):Int),.int .i64 d,.int .i64 (c+((1:Nat):Int)),.int .i64 p0,.int .i64 p1,.int .i64 p2,.int .i64 0])
   rw [C5];rfl
 ·have ht:K0 l i ([(1,[112,49]),(3,[58])]++([(1,pK)]++(pW e++[(3,[59])]))):=ht
  obtain⟨a1,b1,e1,h1⟩:=J8 ht
  (refine U.eq (fun m=>Y0 m l i d c p0 p1 p2 0) (U.H6 (kG (l:=l) (d:=d) (c:=c) (p0:=p0) (p1:=p1) (p2:=p2) (i:Int) (by omega) hd) ?_);intro _ ds h0;cases h0;refine⟨rfl,U.I0 rfl (U.no rfl (U.H6 (X4 (l:=l) (d:=(d+1)) (c:=c) (p0:=p0) (p1:=p1) (p2:=p2) (i:Int) (by omega) hc) ?_))⟩;intro _ ds h0;cases h0;refine⟨rfl,U.I0 rfl (U.H6 (S5 (d:=(d+1)) (c:=(c+1)) (p0:=p0) (p1:=p1) (p2:=p2) h1) ?_)⟩;intro _ ds h0;cases h0;refine⟨rfl,U.I0 rfl ?_⟩)
  (refine U.H6 (J7 (d:=(d+1)) (c:=(c+1)) (p0:=p0) (p1:=p1) (p2:=p2) h1 rfl) ?_;intro _ ds h0;cases h0;refine⟨rfl,U.I0 rfl (U.no rfl ?_)⟩)
  (refine U.H6 (J7 (d:=(d+1)) (c:=(c+1)) (p0:=p0) (p1:=p1) (p2:=p2) h1 rfl) ?_;intro _ ds h0;cases h0;refine⟨rfl,U.I0 rfl (U.no rfl ?_)⟩)
  (refine U.H6 (J7 (d:=(d+1)) (c:=(c+1)) (p0:=p0) (p1:=p1) (p2:=p2) h1 rfl) ?_;intro _ ds h0;cases h0;refine⟨rfl,U.I0 rfl (U.no rfl ?_)⟩)
  refine U.H6 (J7 (d:=(d+1)) (c:=(c+1)) (p0:=p0) (p1:=p1) (p2:=p2) h1 rfl) ?_
  intro _ ds h0;cases h0
  refine⟨rfl,U.I0 rfl (U.L3 (Q:=fun r=>∃ y,OE 4 e y∧r=(false,[.bool false,.Z 5 l,.int .i64 ((i+((pW e).length+4):Nat):Int),.int .i64 (d+1),.int .i64 (c+1),.int .i64 p0,.int .i64 p1,.int .i64 p2,.int .i64 0,.int .i64 0,.int .i64 0,.int .i64 0,.int .i64 0,.str [],.int .i64 7,.int .i64 a1,.int .i64 b1,.int .i64 e1,.str [112,49],.Z 6 [],.Z 8 [],.Z 9 [],.Z 6 [y],.Z 8 [],.Z 9 []])) ?_ (fun ds h=>by obtain⟨_,_,h⟩:=h;cases h) fun ds h=>?_)⟩
  ·refine U.eq (fun m=>cB m _ _ _ _ _ _ _ _ _ _ _ _ _ _ _ _ _ _ _ _ _ _ _ _ _) (U.no rfl (U.H6 (J7 (d:=(d+1)) (c:=(c+1)) (p0:=p0) (p1:=p1) (p2:=p2) h1 rfl) ?_))
   (intro _ ds h0;cases h0;refine⟨rfl,U.I0 rfl ?_⟩)
   refine U.no rfl (U.H6 (gM (d:=(d+1)) (c:=(c+1)) (p0:=p0) (p1:=p1) (p2:=p2) pK h1) ?_)
   (intro _ ds h0;cases h0;refine⟨rfl,U.I0 rfl ?_⟩)
   refine U.no rfl (U.H6 (Mn hl he ht a1 b1 e1 (d+1) (c+1) p0 p1 p2 (by omega) (by omega)) ?_)
   rintro _ ds ⟨y,hy,h0⟩;cases h0
   exact⟨rfl,U.I0 rfl (U.ret ⟨y,hy,rfl⟩)⟩
  ·obtain⟨y,hy,h⟩:=h
   cases h
   refine U.I0 rfl ?_
   (refine U.H6 (fS (l:=l) (d:=d) (c:=(c+1)) (p0:=p0) (p1:=p1) (p2:=p2) _ (by omega) hd) ?_;intro _ ds h0;cases h0;refine⟨rfl,U.I0 rfl ?_⟩)
   refine U.ret ⟨_,⟨7,a1,b1,e1,[112,49],[e],[],[],[y],[],[],rfl,rfl,jI.one he hy,by simp,by simp,Rl.nil,Rl.nil⟩,?_⟩
   show (_:Bool×List D)=(true,[_,.Z 5 l,.int .i64 ((i+(2+((pW e).length+2)):Nat):Int),.int .i64 d,.int .i64 (c+((1:Nat):Int)),.int .i64 p0,.int .i64 p1,.int .i64 p2,.int .i64 0])
   rw [show i+(2+((pW e).length+2))=i+((pW e).length+4) from by omega];rfl
include ih
theorem Xt {bs:List D}(hn:bs.length≤3)(hb:∀ b∈bs,sE n b){i:Nat}(ht:K0 l i ([(1,V9)]++(bs.flatMap (wS n)++[(1,fF)]))) :
  Pq (fun m=>L4 m) l i ((bs.flatMap (wS n)).length+2) (1+sQ (qS n) bs) (OS (n+1) (S 1 [] [] bs [])) (SH (n+1)):=by
 have ht:=eI ht
 obtain⟨a1,b1,e1,h1⟩:=J8 ht
 have ht:=K7 ht
 intro d c p0 p1 p2 hd hd2 hc hc2
 have hS:d+1+(SH n:Int)≤40:=by unfold SH at hd2 ⊢;omega
 unfold SH at hd2
 have B:=Ee hl ih a1 b1 e1 (d+1) p0 p1 p2 (by omega) hS bs (i+1) (c+1) [] [] hb ht (by simp;omega) (by omega) (by omega) Rl.nil
 (refine U.eq (fun m=>Y0 m l i d c p0 p1 p2 0) (U.H6 (kG (l:=l) (d:=d) (c:=c) (p0:=p0) (p1:=p1) (p2:=p2) (i:Int) (by omega) hd) ?_);intro _ ds h0;cases h0;refine⟨rfl,U.I0 rfl (U.no rfl (U.H6 (X4 (l:=l) (d:=(d+1)) (c:=c) (p0:=p0) (p1:=p1) (p2:=p2) (i:Int) (by omega) hc) ?_))⟩;intro _ ds h0;cases h0;refine⟨rfl,U.I0 rfl (U.H6 (S5 (d:=(d+1)) (c:=(c+1)) (p0:=p0) (p1:=p1) (p2:=p2) h1) ?_)⟩;intro _ ds h0;cases h0;refine⟨rfl,U.I0 rfl ?_⟩)
 (refine U.H6 (J7 (d:=(d+1)) (c:=(c+1)) (p0:=p0) (p1:=p1) (p2:=p2) h1 rfl) ?_;intro _ ds h0;cases h0;refine⟨rfl,U.I0 rfl (U.no rfl ?_)⟩)
 refine U.H6 (N6 (d:=(d+1)) (c:=(c+1)) (p0:=p0) (p1:=p1) (p2:=p2) hl h1 rfl) ?_
 (intro _ ds h0;cases h0;refine⟨rfl,U.I0 rfl ?_⟩)
 refine U.I0 rfl (U.L3 B (fun ds h=>by obtain⟨_,_,h⟩:=h;cases h) fun ds h=>?_)
 obtain⟨ys,hy,h⟩:=h
 cases h
 refine U.I0 rfl ?_
 (refine U.H6 (fS (l:=l) (d:=d) (c:=(c+1+(sQ (qS n) bs:Int))) (p0:=p0) (p1:=p1) (p2:=p2) _ (by omega) hd) ?_;intro _ ds h0;cases h0;refine⟨rfl,U.I0 rfl ?_⟩)
 refine U.ret ⟨_,⟨1,a1,b1,e1,[],[],bs,[],[],ys,[],rfl,rfl,jI.nil,by omega,by simp,hy,Rl.nil⟩,?_⟩
 rw [show i+((bs.flatMap (wS n)).length+2)=i+1+((bs.flatMap (wS n)).length+1) from by omega,show c+((1+sQ (qS n) bs:Nat):Int)=c+1+(sQ (qS n) bs:Int) from by omega]
 rfl
theorem aB2 {e b c0:D}(he:fD 4 e)(hb:sE n b)(hc0:sE n c0)(hop:c0=tX∨nT n b=false){i:Nat}(ht:K0 l i (wS (n+1) (S 4 [] [e] [b,c0] [])))(hN:nT (n+1) (S 4 [] [e] [b,c0] [])=true→Js l (i+(wS (n+1) (S 4 [] [e] [b,c0] [])).length)) :
  Pq (fun m=>L4 m) l i (wS (n+1) (S 4 [] [e] [b,c0] [])).length (qS (n+1) (S 4 [] [e] [b,c0] [])) (OS (n+1) (S 4 [] [e] [b,c0] [])) (SH (n+1)):=by
 intro d c p0 p1 p2 hd hd2 hc hc2
 have hS:d+1+(SH n:Int)≤40:=by unfold SH at hd2 ⊢;omega
 unfold SH at hd2
 have hn0:n≠0:=by rintro rfl;exact hb.elim
 obtain⟨n',rfl⟩:∃ n',n=n'+1:=⟨n-1,by omega⟩
 have hnull:(c0.at_ 0).i==8→c0=tX:=by
  intro h8
  obtain⟨k,t,es,bs,zs,rfl,_,_,_,hs⟩:=hc0
  have h8:(k==8)=true:=h8
  have h8:=eq_of_beq h8
  subst h8
  rcases hs with ⟨h,_⟩|⟨h|h,_⟩|⟨h,_⟩|⟨h,_⟩|⟨h,_⟩|⟨h,_⟩|⟨_,rfl,rfl,rfl,rfl⟩
  all_goals first|rfl|exact absurd h (by decide)
 have hopen:nT (n'+1+1) (S 4 [] [e] [b,c0] [])=((c0.at_ 0).i==8||nT (n'+1) c0):=by
  obtain⟨k,t,es,bs,zs,rfl,_⟩:=hc0
  rfl
 cases h8:(c0.at_ 0).i==8 with
 |true=>
  have e0:=hnull h8
  subst e0
  have ew:wS (n'+1+1) (S 4 [] [e] [b,tX] [])=[(1,uI)]++(pW e++wS (n'+1) b):=by
   show [(1,uI)]++(pW e++(wS (n'+1) b++[]))=_
   rw [D5]
  have eq:qS (n'+1+1) (S 4 [] [e] [b,tX] [])=1+qS (n'+1) b:=rfl
  have hN:=hN (by rw [hopen,h8];rfl)
  rw [ew] at ht hN
  rw [ew,eq]
  rw [eq] at hc2
  have ht:=eI ht
  obtain⟨a1,b1,e1,h1⟩:=J8 ht
  obtain⟨h2,h3⟩:=K4.1 (K7 ht)
  have el:([(1,uI)]++(pW e++wS (n'+1) b):List Tk).length=1+(pW e).length+(wS (n'+1) b).length:=by simp only [G0];omega
  rw [el] at hN ⊢
  obtain⟨kn,tn,an,bn,en,hn1,hn2⟩:=hN
  have hn1:l[i+1+(pW e).length+(wS (n'+1) b).length]? = some (tk kn tn an bn en):=QP hn1 (by omega)
  have I:=ih b hb _ h3 (fun _=>⟨kn,tn,an,bn,en,hn1,hn2⟩) (d+1) (c+1) p0 p1 p2 (by omega) hS (by omega) (by omega)
  (refine U.eq (fun m=>Y0 m l i d c p0 p1 p2 0) (U.H6 (kG (l:=l) (d:=d) (c:=c) (p0:=p0) (p1:=p1) (p2:=p2) (i:Int) (by omega) hd) ?_);intro _ ds h0;cases h0;refine⟨rfl,U.I0 rfl (U.no rfl (U.H6 (X4 (l:=l) (d:=(d+1)) (c:=c) (p0:=p0) (p1:=p1) (p2:=p2) (i:Int) (by omega) hc) ?_))⟩;intro _ ds h0;cases h0;refine⟨rfl,U.I0 rfl (U.H6 (S5 (d:=(d+1)) (c:=(c+1)) (p0:=p0) (p1:=p1) (p2:=p2) h1) ?_)⟩;intro _ ds h0;cases h0;refine⟨rfl,U.I0 rfl ?_⟩)
  (refine U.H6 (J7 (d:=(d+1)) (c:=(c+1)) (p0:=p0) (p1:=p1) (p2:=p2) h1 rfl) ?_;intro _ ds h0;cases h0;refine⟨rfl,U.I0 rfl (U.no rfl ?_)⟩)
  (refine U.H6 (J7 (d:=(d+1)) (c:=(c+1)) (p0:=p0) (p1:=p1) (p2:=p2) h1 rfl) ?_;intro _ ds h0;cases h0;refine⟨rfl,U.I0 rfl (U.no rfl ?_)⟩)
  refine U.H6 (N6 (d:=(d+1)) (c:=(c+1)) (p0:=p0) (p1:=p1) (p2:=p2) hl h1 rfl) ?_
  (intro _ ds h0;cases h0;refine⟨rfl,U.I0 rfl ?_⟩)
  refine U.I0 rfl (U.H6 (vC hl he h2 (d+1) (c+1) p0 p1 p2 (by omega) (by omega)) ?_)
  rintro _ ds ⟨x,hx,h0⟩;cases h0
  have hx0:=hx
  obtain⟨k4,t4,r4,a4,b4,e4,s4,_,rfl⟩:=cD hx
  refine⟨rfl,U.I0 rfl (U.H6 I ?_)⟩
  rintro _ ds ⟨y,hy,h0⟩;cases h0
  have hy0:=hy
  obtain⟨k5,i5,j5,l5,t5,es5,bs5,zs5,es6,bs6,zs6,_,rfl⟩:=rQ hy
  refine⟨rfl,U.I0 rfl (U.H6 (J7 (d:=(d+1)) (c:=(c+1+(qS (n'+1) b:Int))) (p0:=p0) (p1:=p1) (p2:=p2) hn1 (PA hn2)) ?_)⟩
  (intro _ ds h0;cases h0;refine⟨rfl,U.I0 rfl ?_⟩)
  refine U.no rfl ?_
  (refine U.H6 (fS (l:=l) (d:=d) (c:=(c+1+(qS (n'+1) b:Int))) (p0:=p0) (p1:=p1) (p2:=p2) _ (by omega) hd) ?_;intro _ ds h0;cases h0;refine⟨rfl,U.I0 rfl ?_⟩)
  have hO:OS (n'+1) tX (AT 8 0 0 0 [] [] [] []):=⟨8,0,0,0,[],[],[],[],[],[],[],rfl,rfl,jI.nil,by simp,by simp,Rl.nil,Rl.nil⟩
  refine U.ret ⟨_,⟨4,a1,b1,e1,[],[e],[b,tX],[],[PE k4 a4 b4 e4 t4 s4],[AT k5 i5 j5 l5 t5 es6 bs6 zs6,AT 8 0 0 0 [] [] [] []],[],rfl,rfl,jI.one he hx0,by simp,by simp,(Rl.one hy0).snoc hO,Rl.nil⟩,?_⟩
  rw [show i+(1+(pW e).length+(wS (n'+1) b).length)=i+1+(pW e).length+(wS (n'+1) b).length from by omega,show c+((1+qS (n'+1) b:Nat):Int)=c+1+(qS (n'+1) b:Int) from by omega]
  rfl
 |false=>
  have ho:nT (n'+1) b=false:=by
   rcases hop with h|h
   ·subst h;exact absurd h8 (by decide)
   ·exact h
  have ew:wS (n'+1+1) (S 4 [] [e] [b,c0] [])=[(1,uI)]++(pW e++(wS (n'+1) b++([(1,dR)]++wS (n'+1) c0))):=by
   show [(1,uI)]++(pW e++(wS (n'+1) b++(bif (c0.at_ 0).i==8 then [] else [(1,dR)]++wS (n'+1) c0)))=_
   rw [h8];rfl
  have eq:qS (n'+1+1) (S 4 [] [e] [b,c0] [])=1+(qS (n'+1) b+qS (n'+1) c0):=by
   show 1+(qS (n'+1) b+(bif (c0.at_ 0).i==8 then 0 else qS (n'+1) c0))=_
   rw [h8];rfl
  rw [ew] at ht hN
  rw [ew,eq]
  rw [eq] at hc2
  have ht:=eI ht
  obtain⟨a1,b1,e1,h1⟩:=J8 ht
  obtain⟨h2,h3⟩:=K4.1 (K7 ht)
  obtain⟨h3,h4⟩:=K4.1 h3
  have h4:=eI h4
  obtain⟨a5,b5,e5,h5⟩:=J8 h4
  have h6:=K7 h4
  have el:([(1,uI)]++(pW e++(wS (n'+1) b++([(1,dR)]++wS (n'+1) c0))):List Tk).length=1+(pW e).length+(wS (n'+1) b).length+1+(wS (n'+1) c0).length:=by simp only [G0];omega
  rw [el] at hN ⊢
  have I:=ih b hb _ h3 (fun h=>by rw [ho] at h;cases h) (d+1) (c+1) p0 p1 p2 (by omega) hS (by omega) (by omega)
  have I2:=ih c0 hc0 _ h6 (fun h=>by
   obtain⟨kn,tn,an,bn,en,hn1,hn2⟩:=hN (by rw [hopen,h,Bool.or_true])
   exact⟨kn,tn,an,bn,en,QP hn1 (by omega),hn2⟩) (d+1) (c+1+(qS (n'+1) b:Int)) p0 p1 p2 (by omega) hS (by omega) (by omega)
  (refine U.eq (fun m=>Y0 m l i d c p0 p1 p2 0) (U.H6 (kG (l:=l) (d:=d) (c:=c) (p0:=p0) (p1:=p1) (p2:=p2) (i:Int) (by omega) hd) ?_);intro _ ds h0;cases h0;refine⟨rfl,U.I0 rfl (U.no rfl (U.H6 (X4 (l:=l) (d:=(d+1)) (c:=c) (p0:=p0) (p1:=p1) (p2:=p2) (i:Int) (by omega) hc) ?_))⟩;intro _ ds h0;cases h0;refine⟨rfl,U.I0 rfl (U.H6 (S5 (d:=(d+1)) (c:=(c+1)) (p0:=p0) (p1:=p1) (p2:=p2) h1) ?_)⟩;intro _ ds h0;cases h0;refine⟨rfl,U.I0 rfl ?_⟩)
  (refine U.H6 (J7 (d:=(d+1)) (c:=(c+1)) (p0:=p0) (p1:=p1) (p2:=p2) h1 rfl) ?_;intro _ ds h0;cases h0;refine⟨rfl,U.I0 rfl (U.no rfl ?_)⟩)
  (refine U.H6 (J7 (d:=(d+1)) (c:=(c+1)) (p0:=p0) (p1:=p1) (p2:=p2) h1 rfl) ?_;intro _ ds h0;cases h0;refine⟨rfl,U.I0 rfl (U.no rfl ?_)⟩)
  refine U.H6 (N6 (d:=(d+1)) (c:=(c+1)) (p0:=p0) (p1:=p1) (p2:=p2) hl h1 rfl) ?_
  (intro _ ds h0;cases h0;refine⟨rfl,U.I0 rfl ?_⟩)
  refine U.I0 rfl (U.H6 (vC hl he h2 (d+1) (c+1) p0 p1 p2 (by omega) (by omega)) ?_)
  rintro _ ds ⟨x,hx,h0⟩;cases h0
  have hx0:=hx
  obtain⟨k4,t4,r4,a4,b4,e4,s4,_,rfl⟩:=cD hx
  refine⟨rfl,U.I0 rfl (U.H6 I ?_)⟩
  rintro _ ds ⟨y,hy,h0⟩;cases h0
  have hy0:=hy
  obtain⟨k5,i5,j5,l5,t5,es5,bs5,zs5,es6,bs6,zs6,_,rfl⟩:=rQ hy
  refine⟨rfl,U.I0 rfl (U.H6 (N6 (d:=(d+1)) (c:=(c+1+(qS (n'+1) b:Int))) (p0:=p0) (p1:=p1) (p2:=p2) hl h5 rfl) ?_)⟩
  (intro _ ds h0;cases h0;refine⟨rfl,U.I0 rfl ?_⟩)
  refine U.I0 rfl (U.H6 I2 ?_)
  rintro _ ds ⟨z,hz,h0⟩;cases h0
  have hz0:=hz
  obtain⟨k7,i7,j7,l7,t7,es7,bs7,zs7,es8,bs8,zs8,_,rfl⟩:=rQ hz
  refine⟨rfl,U.I0 rfl ?_⟩
  (refine U.H6 (fS (l:=l) (d:=d) (c:=(c+1+(qS (n'+1) b:Int)+(qS (n'+1) c0:Int))) (p0:=p0) (p1:=p1) (p2:=p2) _ (by omega) hd) ?_;intro _ ds h0;cases h0;refine⟨rfl,U.I0 rfl ?_⟩)
  refine U.ret ⟨_,⟨4,a1,b1,e1,[],[e],[b,c0],[],[PE k4 a4 b4 e4 t4 s4],[AT k5 i5 j5 l5 t5 es6 bs6 zs6,AT k7 i7 j7 l7 t7 es8 bs8 zs8],[],rfl,rfl,jI.one he hx0,by simp,by simp,(Rl.one hy0).snoc hz0,Rl.nil⟩,?_⟩
  rw [show i+(1+(pW e).length+(wS (n'+1) b).length+1+(wS (n'+1) c0).length)=i+1+(pW e).length+(wS (n'+1) b).length+1+(wS (n'+1) c0).length from by omega,show c+((1+(qS (n'+1) b+qS (n'+1) c0):Nat):Int)=c+1+(qS (n'+1) b:Int)+(qS (n'+1) c0:Int) from by omega]
  rfl
theorem Xz {es:List D}{b:D}(h3:es.length=3)(he:∀ e∈es,fD 4 e)(hb:sE n b){i:Nat}(ht:K0 l i (bR [105] es++wS n b))(hN:nT n b=true→Js l (i+((bR [105] es).length+(wS n b).length))) :
  Pq (fun m=>L4 m) l i ((bR [105] es).length+(wS n b).length) (1+qS n b) (OS (n+1) (S 6 [105] es [b] [])) (SH (n+1)):=by
 intro d c p0 p1 p2 hd hd2 hc hc2
 have hS:d+1+(SH n:Int)≤40:=by unfold SH at hd2 ⊢;omega
 unfold SH at hd2
 obtain⟨h2,hB⟩:=K4.1 ht
 obtain⟨a1,b1,e1,h1⟩:∃ a b e,l[i]? = some (tk 1 yF a b e):=by
  match es,h3,h2 with
  |[x,y,z],_,h2=>exact J8 (show K0 l i ((1,yF)::_) from h2)
 have L:=Fa hl (t:=[105]) (by kernel_rfl) h3 he h2 (d+1) (c+1) p0 p1 p2 (by omega) (by omega)
 have I:=ih b hb _ hB (fun h=>by
  obtain⟨kn,tn,an,bn,en,hn1,hn2⟩:=hN h
  exact⟨kn,tn,an,bn,en,QP hn1 (by omega),hn2⟩) (d+1) (c+1) p0 p1 p2 (by omega) hS (by omega) (by omega)
 (refine U.eq (fun m=>Y0 m l i d c p0 p1 p2 0) (U.H6 (kG (l:=l) (d:=d) (c:=c) (p0:=p0) (p1:=p1) (p2:=p2) (i:Int) (by omega) hd) ?_);intro _ ds h0;cases h0;refine⟨rfl,U.I0 rfl (U.no rfl (U.H6 (X4 (l:=l) (d:=(d+1)) (c:=c) (p0:=p0) (p1:=p1) (p2:=p2) (i:Int) (by omega) hc) ?_))⟩;intro _ ds h0;cases h0;refine⟨rfl,U.I0 rfl (U.H6 (S5 (d:=(d+1)) (c:=(c+1)) (p0:=p0) (p1:=p1) (p2:=p2) h1) ?_)⟩;intro _ ds h0;cases h0;refine⟨rfl,U.I0 rfl ?_⟩)
 (refine U.H6 (J7 (d:=(d+1)) (c:=(c+1)) (p0:=p0) (p1:=p1) (p2:=p2) h1 rfl) ?_;intro _ ds h0;cases h0;refine⟨rfl,U.I0 rfl (U.no rfl ?_)⟩)
 (refine U.H6 (J7 (d:=(d+1)) (c:=(c+1)) (p0:=p0) (p1:=p1) (p2:=p2) h1 rfl) ?_;intro _ ds h0;cases h0;refine⟨rfl,U.I0 rfl (U.no rfl ?_)⟩)
 (refine U.H6 (J7 (d:=(d+1)) (c:=(c+1)) (p0:=p0) (p1:=p1) (p2:=p2) h1 rfl) ?_;intro _ ds h0;cases h0;refine⟨rfl,U.I0 rfl (U.no rfl ?_)⟩)
 refine U.H6 (J7 (d:=(d+1)) (c:=(c+1)) (p0:=p0) (p1:=p1) (p2:=p2) h1 rfl) ?_
 intro _ ds h0;cases h0
 refine⟨rfl,U.I0 rfl (U.L3 (Q:=fun r=>∃ ys y,jI es ys∧OS n b y∧r=(false,[.bool false,.Z 5 l,.int .i64 ((i+(bR [105] es).length+(wS n b).length:Nat):Int),.int .i64 (d+1),.int .i64 (c+1+(qS n b:Int)),.int .i64 p0,.int .i64 p1,.int .i64 p2,.int .i64 0,.int .i64 0,.int .i64 0,.int .i64 0,.int .i64 0,.str [],.int .i64 6,.int .i64 a1,.int .i64 b1,.int .i64 e1,.str [105],.Z 6 [],.Z 8 [],.Z 9 [],.Z 6 ys,.Z 8 [y],.Z 9 []])) ?_ (fun ds h=>by obtain⟨_,_,_,_,h⟩:=h;cases h) fun ds h=>?_)⟩
 ·refine U.eq (fun m=>cB m _ _ _ _ _ _ _ _ _ _ _ _ _ _ _ _ _ _ _ _ _ _ _ _ _) (U.no rfl (U.H6 (N6 (d:=(d+1)) (c:=(c+1)) (p0:=p0) (p1:=p1) (p2:=p2) hl h1 rfl) ?_))
  (intro _ ds h0;cases h0;refine⟨rfl,U.I0 rfl ?_⟩)
  refine U.I0 rfl (U.H6 L ?_)
  rintro _ ds ⟨ys,hys,h0⟩;cases h0
  refine⟨rfl,U.I0 rfl (U.H6 I ?_)⟩
  rintro _ ds ⟨y,hy,h0⟩;cases h0
  have hy0:=hy
  obtain⟨k5,i5,j5,l5,t5,es5,bs5,zs5,es6,bs6,zs6,_,rfl⟩:=rQ hy
  exact⟨rfl,U.I0 rfl (U.ret ⟨ys,_,hys,hy0,rfl⟩)⟩
 ·obtain⟨ys,y,hys,hy,h⟩:=h
  cases h
  refine U.I0 rfl ?_
  (refine U.H6 (fS (l:=l) (d:=d) (c:=(c+1+(qS n b:Int))) (p0:=p0) (p1:=p1) (p2:=p2) _ (by omega) hd) ?_;intro _ ds h0;cases h0;refine⟨rfl,U.I0 rfl ?_⟩)
  refine U.ret ⟨_,⟨6,a1,b1,e1,[105],es,[b],[],ys,[y],[],rfl,rfl,hys,by simp,by simp,Rl.one hy,Rl.nil⟩,?_⟩
  rw [show i+((bR [105] es).length+(wS n b).length)=i+(bR [105] es).length+(wS n b).length from by omega,show c+((1+qS n b:Nat):Int)=c+1+(qS n b:Int) from by omega]
  rfl
omit hl ih in
theorem Oo {n:Nat}{x:D}(h:sE n x):∃ k t fs bs zs,x=S k t fs bs zs:=by
 cases n with
 |zero=>exact h.elim
 |succ n=>obtain⟨k,t,fs,bs,zs,e,_⟩:=h;exact⟨k,t,fs,bs,zs,e⟩
theorem Kh (k1 k2 k3 d p0 p1 p2:Int)(hd:0≤d)(hd2:d+SH n≤40)(hd3:d≤32)(e':D):∀ (zs:List D) (i:Nat) (c:Int) (acc xs:List D),(∀ z∈zs,Xb n z)→K0 l i (zs.flatMap (iM (wS n))++[(1,dW)])→zs.length+acc.length≤100→1≤zs.length+acc.length→0≤c→c+sQ (fun a=>qS n (CF a)) zs≤4000→Rl (OA (OS n)) xs acc→
  U (fun m=>W4 m (.Z 5 l) (i:Int) d c p0 p1 p2 (0:Int) (5:Int) k1 k2 k3 (.str []) (.Z 6 [e']) (.Z 8 []) (.Z 9 acc)) fun r=>
   ∃ ys,Rl (OA (OS n)) (xs++zs) ys∧r=(false,[.Z 5 l,.int .i64 ((i+(zs.flatMap (iM (wS n))).length:Nat):Int),.int .i64 d,.int .i64 (c+(sQ (fun a=>qS n (CF a)) zs:Nat)),.int .i64 p0,.int .i64 p1,.int .i64 p2,.int .i64 0,.int .i64 5,.int .i64 k1,.int .i64 k2,.int .i64 k3,.str [],.Z 6 [e'],.Z 8 [],.Z 9 ys])
 |[],i,c,acc,xs,_,ht,_,h1,hc,hq,hr=>by
  obtain⟨a,b,e,h2⟩:=J8 (show K0 l i [(1,dW)] from ht)
  refine U.eq (fun m=>mX m _ _ _ _ _ _ _ _ _ _ _ _ _ _ _ _) (U.I0 rfl (U.no (F4.2 (by simp only [A8] at h1;omega)) (U.H6 (gM (d:=d) (c:=c) (p0:=p0) (p1:=p1) (p2:=p2) dW h2) ?_)))
  (intro _ ds h0;cases h0;refine⟨rfl,U.I0 rfl ?_⟩)
  refine O6 (fun m=>Y4.eq_1 m _ _ _ _ _ _ _ _ _ _ _ _ _ _ _ _ _) (U.no rfl (U.ret ⟨acc,by rw [D5];exact hr,?_⟩))
  show (_:Bool×List D)=(false,[.Z 5 l,.int .i64 ((i+0:Nat):Int),.int .i64 d,.int .i64 (c+((0:Nat):Int)),.int .i64 p0,.int .i64 p1,.int .i64 p2,.int .i64 0,_,_,_,_,_,_,_,_])
  rw [show c+((0:Nat):Int)=c from by omega]
  rfl
 |z::zs,i,c,acc,xs,hz,ht,hn,h1,hc,hq,hr=>by
  have hq:c+((qS n (CF z)+sQ (fun a=>qS n (CF a)) zs:Nat):Int)≤4000:=hq
  rw [D9,C1] at ht
  obtain⟨hT,h2⟩:=K4.1 ht
  obtain⟨es,s0,ez,hle,he,hs⟩:=hz z (B8 ..)
  have hs0:=hs
  obtain⟨k,t,fs,bs,zs0,rfl⟩:=Oo hs
  subst ez
  have hq:c+((qS n (S k t fs bs zs0)+sQ (fun a=>qS n (CF a)) zs:Nat):Int)≤4000:=hq
  have eA:iM (wS n) (arm es (S k t fs bs zs0))=(bif es.isEmpty then [(1,wA)] else [])++(lW (wE 4) es++([(3,[58])]++wS n (S k t fs bs zs0))):=rfl
  rw [eA] at hT
  have eLen:(iM (wS n) (arm es (S k t fs bs zs0))).length=(bif es.isEmpty then 1 else 0)+(lW (wE 4) es).length+1+(wS n (S k t fs bs zs0)).length:=by
   rw [eA]
   cases es.isEmpty<;>simp only [cond_true,cond_false,G0]<;>omega
  rw [eLen] at h2
  have hNel:Js l (i+((bif es.isEmpty then 1 else 0)+(lW (wE 4) es).length+1+(wS n (S k t fs bs zs0)).length)):=by
   cases zs with
   |nil=>
    obtain⟨a,b,e,h3⟩:=J8 (show K0 l _ [(1,dW)] from h2)
    exact⟨1,dW,a,b,e,h3,rfl⟩
   |cons z2 zs=>
    rw [D9,C1] at h2
    obtain⟨k,t,a,b,e,g1,g2,_⟩:=Ec (hz z2 (by simp)) (K4.1 h2).1
    exact⟨k,t,a,b,e,g1,g2⟩
  have J2:∀ (j:Nat) (es':List D),jI es es'→K0 l j ([(3,[58])]++wS n (S k t fs bs zs0))→i+((bif es.isEmpty then 1 else 0)+(lW (wE 4) es).length)=j→
    U (fun m=>eK m l (j:Int) d c p0 p1 p2 0 es' acc 5 k1 k2 k3 [] [e'] []) fun r=>∃ ys,Rl (OA (OS n)) (xs++arm es (S k t fs bs zs0)::zs) ys∧r=(false,[.Z 5 l,.int .i64 ((i+((arm es (S k t fs bs zs0)::zs).flatMap (iM (wS n))).length:Nat):Int),.int .i64 d,.int .i64 (c+(sQ (fun a=>qS n (CF a)) (arm es (S k t fs bs zs0)::zs):Nat)),.int .i64 p0,.int .i64 p1,.int .i64 p2,.int .i64 0,.int .i64 5,.int .i64 k1,.int .i64 k2,.int .i64 k3,.str [],.Z 6 [e'],.Z 8 [],.Z 9 ys]):=by
   intro j es' hE hj ej
   have hj:=eI hj
   obtain⟨a3,b3,e3,h3⟩:=J8 hj
   have I:=ih _ hs0 (j+1) (K7 hj) (fun _=>by rw [show j+1+(wS n (S k t fs bs zs0)).length=i+((bif es.isEmpty then 1 else 0)+(lW (wE 4) es).length+1+(wS n (S k t fs bs zs0)).length) from by omega];exact hNel) d c p0 p1 p2 hd hd2 hc (by omega)
   refine O6 (fun m=>eK.eq_1 m _ _ _ _ _ _ _ _ _ _ _ _ _ _ _ _ _) (U.H6 (O7 (d:=d) (c:=c) (p0:=p0) (p1:=p1) (p2:=p2) hl [[58]] (by decide) (P5 h3 rfl)) ?_)
   (intro _ ds h0;cases h0;refine⟨rfl,U.I0 rfl ?_⟩)
   refine U.H6 I ?_
   rintro _ ds ⟨y,hy,h0⟩;cases h0
   have hy0:=hy
   obtain⟨k5,i5,j5,l5,t5,es5,bs5,zs5,es6,bs6,zs6,e5,rfl⟩:=rQ hy
   cases e5
   simp only [A0] at hn
   refine⟨rfl,U.I0 rfl (U.I0 (B2 (by simp only [L7];omega)) (U.I0 (by rw [E6 (by omega),E6 (by rw [A7,C9];omega)];rfl) ?_))⟩
   rw [Al]
   have hA:OA (OS n) (arm es (S k t fs bs zs0)) (AA es' k i5 j5 l5 t es6 bs6 zs6):=⟨es,es',k,i5,j5,l5,t,fs,bs,zs0,es6,bs6,zs6,rfl,rfl,hE,hy0⟩
   have K:=Kh k1 k2 k3 d p0 p1 p2 hd hd2 hd3 e' zs (j+1+(wS n (S k t fs bs zs0)).length) (c+(qS n (S k t fs bs zs0):Int)) (acc++[AA es' k i5 j5 l5 t es6 bs6 zs6]) (xs++[arm es (S k t fs bs zs0)]) (fun x hx=>hz x (C0 _ hx)) (Pg h2 (by omega)) (by rw [A7,C9];omega) (by rw [A7,C9];omega) (by omega) (by omega) (hr.snoc hA)
   refine K.mono fun r ⟨ys,g1,g2⟩=>⟨ys,by rw [C1] at g1;exact g1,?_⟩
   rw [g2,D9,A7,eLen,show j+1+(wS n (S k t fs bs zs0)).length+(zs.flatMap (iM (wS n))).length=i+((bif es.isEmpty then 1 else 0)+(lW (wE 4) es).length+1+(wS n (S k t fs bs zs0)).length+(zs.flatMap (iM (wS n))).length) from by omega]
   show (_:Bool×List D)=(false,[.Z 5 l,.int .i64 ((i+((bif es.isEmpty then 1 else 0)+(lW (wE 4) es).length+1+(wS n (S k t fs bs zs0)).length+(zs.flatMap (iM (wS n))).length):Nat):Int),.int .i64 d,.int .i64 (c+((qS n (S k t fs bs zs0)+sQ (fun a=>qS n (CF a)) zs:Nat):Int)),.int .i64 p0,.int .i64 p1,.int .i64 p2,.int .i64 0,_,_,_,_,_,_,_,_])
   rw [show c+(qS n (S k t fs bs zs0):Int)+(sQ (fun a=>qS n (CF a)) zs:Int)=c+((qS n (S k t fs bs zs0)+sQ (fun a=>qS n (CF a)) zs:Nat):Int) from by omega]
  have J1:U (fun m=>Y4 m true l (i:Int) d c p0 p1 p2 0 acc 5 k1 k2 k3 [] [e'] []) fun r=>∃ ys,Rl (OA (OS n)) (xs++arm es (S k t fs bs zs0)::zs) ys∧r=(false,[.Z 5 l,.int .i64 ((i+((arm es (S k t fs bs zs0)::zs).flatMap (iM (wS n))).length:Nat):Int),.int .i64 d,.int .i64 (c+(sQ (fun a=>qS n (CF a)) (arm es (S k t fs bs zs0)::zs):Nat)),.int .i64 p0,.int .i64 p1,.int .i64 p2,.int .i64 0,.int .i64 5,.int .i64 k1,.int .i64 k2,.int .i64 k3,.str [],.Z 6 [e'],.Z 8 [],.Z 9 ys]):=by
   refine O6 (fun m=>Y4.eq_1 m _ _ _ _ _ _ _ _ _ _ _ _ _ _ _ _ _) (U.I0 rfl ?_)
   cases hes:es with
   |nil=>
    rw [hes] at hT
    obtain⟨a3,b3,e3,h3⟩:=J8 (show K0 l i ((1,wA)::([(3,[58])]++wS n (S k t fs bs zs0))) from hT)
    refine U.H6 (N6 (d:=d) (c:=c) (p0:=p0) (p1:=p1) (p2:=p2) hl h3 rfl) ?_
    (intro _ ds h0;cases h0;refine⟨rfl,U.I0 rfl ?_⟩)
    refine U.no rfl ?_
    have J:=J2 (i+1) [] (by rw [hes];exact jI.nil) (K7 (show K0 l i ((1,wA)::([(3,[58])]++wS n (S k t fs bs zs0))) from hT)) (by rw [hes];rfl)
    rw [hes] at J
    exact J
   |cons e0 er=>
    rw [← hes]
    have hne:es.isEmpty=false:=by rw [hes];rfl
    rw [hne] at hT
    obtain⟨h3,h4⟩:=K4.1 (show K0 l i (lW (wE 4) es++([(3,[58])]++wS n (S k t fs bs zs0))) from hT)
    obtain⟨a4,b4,e4,g4⟩:=J8 h4
    obtain⟨kk,t3,a3,b3,e3,g3,g5,_⟩:=ZD (xs:=es) (by rw [hes];simp) he h3
    have X:=Uq hl (by rw [hes];simp) (by omega) he h3 g4 rfl rfl d c p0 p1 p2 hd hd3
    refine U.H6 (J7 (d:=d) (c:=c) (p0:=p0) (p1:=p1) (p2:=p2) g3 g5) ?_
    (intro _ ds h0;cases h0;refine⟨rfl,U.I0 rfl ?_⟩)
    refine U.I0 rfl (U.H6 X ?_)
    rintro _ ds ⟨es',hE,h0⟩;cases h0
    exact⟨rfl,U.I0 rfl (J2 _ es' hE h4 (by rw [hne];simp))⟩
  refine U.eq (fun m=>mX m _ _ _ _ _ _ _ _ _ _ _ _ _ _ _ _) (U.I0 rfl (U.N9 (fun _=>J1) fun _=>?_))
  obtain⟨kk,t3,a3,b3,e3,g3,_,g5⟩:=Ec (n:=n) ⟨es,_,rfl,hle,he,hs0⟩ (show K0 l i (iM (wS n) (arm es (S k t fs bs zs0))) from hT)
  refine U.H6 (gM (d:=d) (c:=c) (p0:=p0) (p1:=p1) (p2:=p2) dW g3) ?_
  (intro _ ds h0;cases h0;refine⟨rfl,U.I0 rfl ?_⟩)
  show U (fun m=>Y4 m (!(t3==dW&&kk !=2)) l (i:Int) d c p0 p1 p2 0 acc 5 k1 k2 k3 [] [e'] []) _
  rw [g5]
  exact J1
theorem Uj {e:D}{zs:List D}(he:fD 4 e)(hz:∀ z∈zs,Xb n z)(h1z:1≤zs.length)(h2z:zs.length≤4){i:Nat}(ht:K0 l i ([(1,pB)]++(pW e++(zs.flatMap (iM (wS n))++[(1,dW)])))) :
  Pq (fun m=>L4 m) l i (1+(pW e).length+(zs.flatMap (iM (wS n))).length+1) (1+sQ (fun a=>qS n (CF a)) zs) (OS (n+1) (S 5 [] [e] [] zs)) (SH (n+1)):=by
 intro d c p0 p1 p2 hd hd2 hc hc2
 have hS:d+1+(SH n:Int)≤40:=by unfold SH at hd2 ⊢;omega
 unfold SH at hd2
 have ht:=eI ht
 obtain⟨a1,b1,e1,h1⟩:=J8 ht
 obtain⟨h2,hA⟩:=K4.1 (K7 ht)
 obtain⟨_,h9⟩:=K4.1 hA
 obtain⟨a9,b9,e9,h9⟩:=J8 h9
 (refine U.eq (fun m=>Y0 m l i d c p0 p1 p2 0) (U.H6 (kG (l:=l) (d:=d) (c:=c) (p0:=p0) (p1:=p1) (p2:=p2) (i:Int) (by omega) hd) ?_);intro _ ds h0;cases h0;refine⟨rfl,U.I0 rfl (U.no rfl (U.H6 (X4 (l:=l) (d:=(d+1)) (c:=c) (p0:=p0) (p1:=p1) (p2:=p2) (i:Int) (by omega) hc) ?_))⟩;intro _ ds h0;cases h0;refine⟨rfl,U.I0 rfl (U.H6 (S5 (d:=(d+1)) (c:=(c+1)) (p0:=p0) (p1:=p1) (p2:=p2) h1) ?_)⟩;intro _ ds h0;cases h0;refine⟨rfl,U.I0 rfl ?_⟩)
 (refine U.H6 (J7 (d:=(d+1)) (c:=(c+1)) (p0:=p0) (p1:=p1) (p2:=p2) h1 rfl) ?_;intro _ ds h0;cases h0;refine⟨rfl,U.I0 rfl (U.no rfl ?_)⟩)
 (refine U.H6 (J7 (d:=(d+1)) (c:=(c+1)) (p0:=p0) (p1:=p1) (p2:=p2) h1 rfl) ?_;intro _ ds h0;cases h0;refine⟨rfl,U.I0 rfl (U.no rfl ?_)⟩)
 (refine U.H6 (J7 (d:=(d+1)) (c:=(c+1)) (p0:=p0) (p1:=p1) (p2:=p2) h1 rfl) ?_;intro _ ds h0;cases h0;refine⟨rfl,U.I0 rfl (U.no rfl ?_)⟩)
 refine U.H6 (N6 (d:=(d+1)) (c:=(c+1)) (p0:=p0) (p1:=p1) (p2:=p2) hl h1 rfl) ?_
 intro _ ds h0;cases h0
 refine⟨rfl,U.I0 rfl (U.L3 (Q:=fun r=>∃ y ys,OE 4 e y∧Rl (OA (OS n)) zs ys∧r=(false,[.bool true,.Z 5 l,.int .i64 ((i+1+(pW e).length+(zs.flatMap (iM (wS n))).length+1:Nat):Int),.int .i64 (d+1),.int .i64 (c+1+(sQ (fun a=>qS n (CF a)) zs:Int)),.int .i64 p0,.int .i64 p1,.int .i64 p2,.int .i64 0,.int .i64 0,.int .i64 0,.int .i64 0,.int .i64 0,.str [],.int .i64 5,.int .i64 a1,.int .i64 b1,.int .i64 e1,.str [],.Z 6 [],.Z 8 [],.Z 9 [],.Z 6 [y],.Z 8 [],.Z 9 ys])) ?_ (fun ds h=>by obtain⟨_,_,_,_,h⟩:=h;cases h) fun ds h=>?_)⟩
 ·refine U.eq (fun m=>cB m _ _ _ _ _ _ _ _ _ _ _ _ _ _ _ _ _ _ _ _ _ _ _ _ _) (U.I0 rfl (U.H6 (Q:=fun r=>∃ y ys,OE 4 e y∧Rl (OA (OS n)) zs ys∧r=(true,[.Z 5 l,.int .i64 ((i+1+(pW e).length+(zs.flatMap (iM (wS n))).length+1:Nat):Int),.int .i64 (d+1),.int .i64 (c+1+(sQ (fun a=>qS n (CF a)) zs:Int)),.int .i64 p0,.int .i64 p1,.int .i64 p2,.int .i64 0,.int .i64 5,.int .i64 a1,.int .i64 b1,.int .i64 e1,.str [],.Z 6 [y],.Z 8 [],.Z 9 ys])) ?_ ?_))
  ·refine U.eq (fun m=>yJ m l _ _ _ _ _ _ _ _ _ _ _ _ _ _ _) (U.H6 (vC hl he h2 (d+1) (c+1) p0 p1 p2 (by omega) (by omega)) ?_)
   rintro _ ds ⟨x,hx,h0⟩;cases h0
   have hx0:=hx
   obtain⟨k4,t4,r4,a4,b4,e4,s4,_,rfl⟩:=cD hx
   have B:=Kh hl ih a1 b1 e1 (d+1) p0 p1 p2 (by omega) hS (by omega) (PE k4 a4 b4 e4 t4 s4) zs (i+1+(pW e).length) (c+1) [] [] hz hA (by simp;omega) (by simp;omega) (by omega) (by omega) Rl.nil
   refine⟨rfl,U.I0 rfl (U.L3 B (fun ds h=>by obtain⟨_,_,h⟩:=h;cases h) fun ds h=>?_)⟩
   obtain⟨ys,hy,h⟩:=h
   cases h
   refine U.I0 rfl (U.H6 (O7 (d:=(d+1)) (c:=(c+1+(sQ (fun a=>qS n (CF a)) zs:Int))) (p0:=p0) (p1:=p1) (p2:=p2) hl [dW] (by decide) (P5 h9 rfl)) ?_)
   (intro _ ds h0;cases h0;refine⟨rfl,U.I0 rfl ?_⟩)
   exact U.ret ⟨_,ys,hx0,hy,rfl⟩
  ·rintro _ ds ⟨y,ys,hy,hys,h0⟩;cases h0
   exact⟨rfl,U.I0 rfl (U.ret ⟨y,ys,hy,hys,rfl⟩)⟩
 ·obtain⟨y,ys,hy,hys,h⟩:=h
  cases h
  refine U.I0 rfl ?_
  (refine U.H6 (fS (l:=l) (d:=d) (c:=(c+1+(sQ (fun a=>qS n (CF a)) zs:Int))) (p0:=p0) (p1:=p1) (p2:=p2) _ (by omega) hd) ?_;intro _ ds h0;cases h0;refine⟨rfl,U.I0 rfl ?_⟩)
  refine U.ret ⟨_,⟨5,a1,b1,e1,[],[e],[],zs,[y],[],ys,rfl,rfl,jI.one he hy,by simp,by omega,Rl.nil,hys⟩,?_⟩
  rw [show i+(1+(pW e).length+(zs.flatMap (iM (wS n))).length+1)=i+1+(pW e).length+(zs.flatMap (iM (wS n))).length+1 from by omega,show c+((1+sQ (fun a=>qS n (CF a)) zs:Nat):Int)=c+1+(sQ (fun a=>qS n (CF a)) zs:Int) from by omega]
  rfl
end
theorem Pq.cast {F:PW}{l:List D}{i m q m' q':Nat}{R:D→Prop}{h:Nat}(H:Pq F l i m q R h)(e:m=m')(e':q=q'):Pq F l i m' q' R h:=e▸e'▸H
theorem aA3 {l:List D}(hl:l.length≤1000000):∀ n,aA9 l n
 |0=>fun _ h=>h.elim
 |n+1=>by
  have ih:=aA3 hl n
  rintro x ⟨k,t,es,bs,zs,rfl,he,hb,hz,hs⟩ i ht hN
  rcases hs with ⟨rfl,rfl,rfl,hn,rfl⟩|⟨hk,rfl,⟨x,e,rfl,hx⟩,rfl,rfl⟩|⟨rfl,rfl,hn,⟨b,c,rfl,hop⟩,rfl⟩|⟨rfl,rfl,hn,rfl,hz1,hz2⟩|⟨rfl,rfl,hn,hl2,rfl⟩|⟨rfl,ht',hn,rfl,rfl⟩|⟨rfl,rfl,rfl,rfl,rfl⟩
  ·exact (Xt hl ih hn hb (show K0 l i ([(1,V9)]++(bs.flatMap (wS n)++[(1,fF)])) from ht)).cast (by show _=([(1,V9)]++(bs.flatMap (wS n)++[(1,fF)]):List Tk).length;simp only [G0];omega) rfl
  ·have h2:=he e (by simp)
   have eW:wS (n+1) (S k [] [x,e] [] [])=wE 4 x++([(3,bif k==2 then [61] else [60,61])]++(wE 4 e++[(3,[59])])):=by rcases hk with rfl|rfl<;>rfl
   rw [eW] at ht ⊢
   exact (Nv hl hk hx h2 ht).cast (by simp only [G0];omega) (by rcases hk with rfl|rfl<;>rfl)
  ·match es,hn,he,ht,hN with
   |[e],_,he,ht,hN=>exact aB2 hl ih (he e (by simp)) (hb b (by simp)) (hb c (by simp)) hop ht hN
  ·match es,hn,he,ht with
   |[e],_,he,ht=>
    exact (Uj hl ih (he e (by simp)) hz hz1 hz2 (show K0 l i ([(1,pB)]++(pW e++(zs.flatMap (iM (wS n))++[(1,dW)]))) from ht)).cast (by show _=([(1,pB)]++(pW e++(zs.flatMap (iM (wS n))++[(1,dW)])):List Tk).length;simp only [G0];omega) (by show 1+sQ (fun a=>qS n (CF a)) zs=1+(0+sQ (fun a=>qS n (CF a)) zs);omega)
  ·match bs,hl2,hb,ht,hN with
   |[b],_,hb,ht,hN=>
    have eW:wS (n+1) (S 6 [105] es [b] [])=bR [105] es++wS n b:=rfl
    have eL:(wS (n+1) (S 6 [105] es [b] [])).length=(bR [105] es).length+(wS n b).length:=by rw [eW,A7]
    refine (Xz hl ih hn he (hb b (by simp)) (show K0 l i (bR [105] es++wS n b) from ht) (fun h=>?_)).cast eL.symm (by show _=1+((qS n b+0)+0);omega)
    rw [← eL]
    exact hN h
  ·match es,hn,he,ht with
   |[e],_,he,ht=>
    exact (Xs hl ht' (he e (by simp)) (show K0 l i ((bif t.isEmpty then [] else [(1,t),(3,[58])])++([(1,pK)]++(pW e++[(3,[59])]))) from ht)).cast (by show _=((bif t.isEmpty then [] else [(1,t),(3,[58])])++([(1,pK)]++(pW e++[(3,[59])])):List Tk).length;cases t.isEmpty<;>simp only [cond_true,cond_false,G0]<;>omega) rfl
  ·exact Vo hl (show K0 l i [(3,[59])] from ht)
theorem KY {q:D→Nat}{w:D→List Tk}:∀ {xs:List D},(∀ x∈xs,q x≤(w x).length)→sQ q xs≤(xs.flatMap w).length
 |[],_=>C4 _
 |x::xs,h=>by
  have h1:=h x (B8 ..)
  have h2:=KY (q:=q) (w:=w) (xs:=xs) fun y hy=>h y (C0 _ hy)
  simp only [sQ,D9,A7];omega
theorem Ft:∀ (n:Nat) (x:D),sE n x→qS n x≤(wS n x).length
 |0,_,h=>h.elim
 |n+1,x,h=>by
  obtain⟨k,t,es,bs,zs,rfl,he,hb,hz,hs⟩:=h
  have ih:=Ft n
  have hB:sQ (qS n) bs≤(bs.flatMap (wS n)).length:=KY fun x hx=>ih x (hb x hx)
  have hZ:sQ (fun a=>qS n (CF a)) zs≤(zs.flatMap (iM (wS n))).length:=KY fun a ha=>by
   obtain⟨es,s,rfl,_,_,hs⟩:=hz a ha
   have h1:=ih s hs
   show qS n (CF (arm es s))≤((bif (arm es s |>.at_ 0).l.isEmpty then [(1,wA)] else [])++(lW (wE 4) (arm es s |>.at_ 0).l++([(3,[58])]++wS n (CF (arm es s)))):List Tk).length
   rw [Dd hs]
   simp only [A7];omega
  rw [Zq,aC4]
  rcases hs with ⟨rfl,rfl,rfl,hn,rfl⟩|⟨hk,rfl,⟨x,e,rfl,hx⟩,rfl,rfl⟩|⟨rfl,rfl,hn,⟨b,c,rfl,hop⟩,rfl⟩|⟨rfl,rfl,hn,rfl,hz1,hz2⟩|⟨rfl,rfl,hn,hl2,rfl⟩|⟨rfl,ht',hn,rfl,rfl⟩|⟨rfl,rfl,rfl,rfl,rfl⟩
  ·show 1+(sQ (qS n) bs+0)≤([(1,V9)]++(bs.flatMap (wS n)++[(1,fF)]):List Tk).length
   simp only [G0];omega
  ·rcases hk with rfl|rfl
   ·show 1≤(wE 4 x++([(3,[61])]++(wE 4 e++[(3,[59])])):List Tk).length
    simp only [G0];omega
   ·show 1≤(wE 4 x++([(3,[60,61])]++(wE 4 e++[(3,[59])])):List Tk).length
    simp only [G0];omega
  ·have h1:=ih b (hb b (by simp))
   have h2:=ih c (hb c (by simp))
   show 1+(qS n b+(bif (c.at_ 0).i==8 then 0 else qS n c))≤([(1,uI)]++(pW (x0 es)++(wS n b++(bif (c.at_ 0).i==8 then [] else [(1,dR)]++wS n c))):List Tk).length
   cases (c.at_ 0).i==8<;>simp only [cond_true,cond_false,G0]<;>omega
  ·show 1+(0+sQ (fun a=>qS n (CF a)) zs)≤([(1,pB)]++(pW (x0 es)++(zs.flatMap (iM (wS n))++[(1,dW)])):List Tk).length
   simp only [G0];omega
  ·match bs,hl2,hb with
   |[b],_,hb=>
    have h1:=ih b (hb b (by simp))
    show 1+(qS n b+0+0)≤(bR [105] es++wS n b:List Tk).length
    have:1≤(bR [105] es).length:=by simp only [bR,G0];omega
    rw [A7];omega
  ·show 1≤((bif t.isEmpty then [] else [(1,t),(3,[58])])++([(1,pK)]++(pW (x0 es)++[(3,[59])])):List Tk).length
   simp only [G0];omega
  ·show 1≤([(3,[59])]:List Tk).length
   simp
end
section
def Xg (fs:List D):List Tk:=bif fs.isEmpty then [] else [(3,[61])]++wE 4 (x0 fs)
def nR (nm ty:G1)(sg:Bool)(es fs:List D):List Tk:=(bif sg&&!(ty==iS) then [(1,mL)] else [])++(pA (es.take 2)++([(1,nm)]++(pA (es.drop 2)++Xg fs)))
theorem Qr (nm ty:G1)(sg:Bool)(es fs:List D):nW nm ty sg es fs=(bif ty==bY then [(1,nL),(1,lC)] else [(1,ty)])++nR nm ty sg es fs:=rfl
theorem Qw:(cN.all fun t=>([[91],mL,[35],[40],[41]]:List G1).all fun w=>!(t==w))=true:=by kernel_rfl
theorem Th {t w:G1}(h:t∈cN)(hw:w∈([[91],mL,[35],[40],[41]]:List G1)):(t==w&&(1:Int) !=2)=false:=by
 have:=B6.1 (B6.1 Qw t h) w hw
 rw [D8] at this
 rw [this];rfl
section
variable {l:List D} (hl:l.length≤1000000)
include hl
theorem IK {es:List D}(h2:es.length=0∨es.length=2)(he:∀ e∈es,fD 4 e){i:Nat}(ht:K0 l i (pA es)){k:Int}{t:G1}{a b e:Int}(hn:l[i+(pA es).length]? = some (tk k t a b e))(hc:(t==[91]&&k !=2)=false)(d c p0 p1 p2:Int)(hd:0≤d)(hd2:d≤32) :
  U (fun n=>U5 n (.Z 5 l) (i:Int) d c p0 p1 p2 (0:Int)) fun r=>∃ es',jI es es'∧r=(true,[.Z 5 l,.int .i64 ((i+(pA es).length:Nat):Int),.int .i64 d,.int .i64 c,.int .i64 p0,.int .i64 p1,.int .i64 p2,.int .i64 0,.Z 6 es']):=by
 match es,h2,he,ht,hn with
 |[],_,_,_,hn=>
  have hn:l[i]? = some (tk k t a b e):=hn
  refine U.eq (fun n=>oW n l i d c p0 p1 p2 0) (U.H6 (J7 (d:=d) (c:=c) (p0:=p0) (p1:=p1) (p2:=p2) hn hc) ?_)
  (intro _ ds h0;cases h0;refine⟨rfl,U.I0 rfl ?_⟩)
  exact U.I0 rfl (U.ret ⟨[],jI.nil,rfl⟩)
 |[x,y],_,he,ht,_=>
  have hx:=he x (by simp)
  have hy:=he y (by simp)
  have ht:K0 l i ((3,[91])::(wE 4 x++((3,[58])::(wE 4 y++[(3,[93])])))):=ht
  obtain⟨a1,b1,e1,h1⟩:=J8 ht
  obtain⟨h3,h4⟩:=K4.1 (K7 ht)
  obtain⟨a4,b4,e4,g4⟩:=J8 h4
  obtain⟨h5,h6⟩:=K4.1 (K7 h4)
  obtain⟨a6,b6,e6,g6⟩:=J8 h6
  have eL:i+(pA [x,y]).length=i+1+(wE 4 x).length+1+(wE 4 y).length+1:=by
   show i+([(3,[91])]++(wE 4 x++([(3,[58])]++(wE 4 y++[(3,[93])]))):List Tk).length=_
   simp only [G0];omega
  refine U.eq (fun n=>oW n l i d c p0 p1 p2 0) (U.H6 (N6 (d:=d) (c:=c) (p0:=p0) (p1:=p1) (p2:=p2) hl h1 rfl) ?_)
  (intro _ ds h0;cases h0;refine⟨rfl,U.I0 rfl ?_⟩)
  refine U.no rfl (U.H6 (zT hl hx h3 g4 rfl d c p0 p1 p2 hd hd2) ?_)
  rintro _ ds ⟨u,hu,h0⟩;cases h0
  have hu0:=hu
  obtain⟨k7,t7,r7,a7,b7,e7,s7,_,rfl⟩:=cD hu
  refine⟨rfl,U.I0 rfl (U.H6 (O7 (d:=d) (c:=c) (p0:=p0) (p1:=p1) (p2:=p2) hl [[58]] (by decide) (P5 g4 rfl)) ?_)⟩
  (intro _ ds h0;cases h0;refine⟨rfl,U.I0 rfl ?_⟩)
  refine U.H6 (zT hl hy h5 g6 rfl d c p0 p1 p2 hd hd2) ?_
  rintro _ ds ⟨w,hw,h0⟩;cases h0
  have hw0:=hw
  obtain⟨k8,t8,r8,a8,b8,e8,s8,_,rfl⟩:=cD hw
  refine⟨rfl,U.I0 rfl (U.H6 (O7 (d:=d) (c:=c) (p0:=p0) (p1:=p1) (p2:=p2) hl [[93]] (by decide) (P5 g6 rfl)) ?_)⟩
  (intro _ ds h0;cases h0;refine⟨rfl,U.I0 rfl ?_⟩)
  refine U.ret ⟨_,jI.two hx hy hu0 hw0,?_⟩
  rw [eL]
  rfl
theorem PB {T:NT}(hT:∀ p∈T,p.1∈([LH,lC,iS,QK,nL,bY]:List G1)∧(p.2.2=true→p.1=lC∨p.1=bY)∧(p.1=lC∨p.2.1≤2)∧(p.1=iS→p.2.1=0∧p.2.2=false))
  {nm ty:G1} {q:Nat} {f sg:Bool} {es fs:List D} (hn:nm∈cN) (hm:(ty,q,f)∈T) (hi:ty=iS→sg=true) (hq:es.length≤q) (hes:es.length=0∨es.length=2∨es.length=4) (hfs:fs=[]∨(f=true∧fs.length=1∧es.length≤2)) (he:∀ e∈es,fD 4 e) (hf:∀ e∈fs,fD 4 e)
  {i:Nat} (ht:K0 l i (nR nm ty sg es fs)) {t:G1} {a b e:Int} (hcl:l[i+(nR nm ty sg es fs).length]? = some (tk 3 t a b e)) (hc:cl t=true) (q0 q1 q2 d c p0 p1 p2:Int) (hd:0≤d) (hd2:d≤32) :
  U (fun n=>V5 n (.agg [.int .i64 q0,.int .i64 q1,.int .i64 q2]) (.str ty) (.Z 5 l) (i:Int) d c p0 p1 p2 (0:Int)) fun r=>∃ es' fs',jI es es'∧jI fs fs'∧r=(true,[AJ 1 q0 q1 q2 nm ty sg es' fs' [] [] [] [] [],.Z 5 l,.int .i64 ((i+(nR nm ty sg es fs).length:Nat):Int),.int .i64 d,.int .i64 c,.int .i64 p0,.int .i64 p1,.int .i64 p2,.int .i64 0]):=by
 obtain⟨hty,hff,hqq,hii⟩:=hT _ hm
 have hg:=pT (uJ hn)
 by_cases hint:ty=iS
 ·subst hint
  obtain⟨rfl,rfl⟩:=hii rfl
  have hsg:=hi rfl
  subst hsg
  have:es=[]:=E5.1 (by omega)
  subst this
  have:fs=[]:=by rcases hfs with h|⟨h,_⟩;exact h;cases h
  subst this
  have ht:K0 l i [(1,nm)]:=ht
  obtain⟨a1,b1,e1,h1⟩:=J8 ht
  refine U.eq (fun n=>rP n q0 q1 q2 iS l i d c p0 p1 p2 0) (U.no rfl (U.H6 (kB (d:=d) (c:=c) (p0:=p0) (p1:=p1) (p2:=p2) hl h1 hg) ?_))
  (intro _ ds h0;cases h0;refine⟨rfl,U.I0 rfl ?_⟩)
  exact U.no rfl (U.no rfl (U.no rfl (U.ret ⟨[],[],jI.nil,jI.nil,rfl⟩)))
 have hni:(ty==iS)=false:=F4.2 hint
 have eR:nR nm ty sg es fs=(bif sg then [(1,mL)] else [])++(pA (es.take 2)++([(1,nm)]++(pA (es.drop 2)++Xg fs))):=by
  unfold nR;rw [hni,Bool.not_false,Bool.and_true]
 have hes1:(es.take 2).length=0∨(es.take 2).length=2:=by rw [D7];omega
 have hes2:(es.drop 2).length=0∨(es.drop 2).length=2:=by rw [F9];omega
 have he1:∀ e∈es.take 2,fD 4 e:=fun e h=>he e (List.mem_of_mem_take h)
 have he2:∀ e∈es.drop 2,fD 4 e:=fun e h=>he e (List.mem_of_mem_drop h)
 have fin:∀ (j:Nat),K0 l j (Xg fs)→j+(Xg fs).length=i+(nR nm ty sg es fs).length→U (fun n=>H8 n (.str [61]) (.Z 5 l) (j:Int) d c p0 p1 p2 (0:Int)) fun r=>(fs=[]∧r=(true,[.bool false,.Z 5 l,.int .i64 ((i+(nR nm ty sg es fs).length:Nat):Int),.int .i64 d,.int .i64 c,.int .i64 p0,.int .i64 p1,.int .i64 p2,.int .i64 0]))∨(∃ x,fs=[x]∧fD 4 x∧r=(true,[.bool true,.Z 5 l,.int .i64 ((j+1:Nat):Int),.int .i64 d,.int .i64 c,.int .i64 p0,.int .i64 p1,.int .i64 p2,.int .i64 0])∧U (fun n=>I7 n (.Z 5 l) ((j+1:Nat):Int) d c p0 p1 p2 (0:Int)) fun r=>∃ y,OE 4 x y∧r=(true,[y,.Z 5 l,.int .i64 ((i+(nR nm ty sg es fs).length:Nat):Int),.int .i64 d,.int .i64 c,.int .i64 p0,.int .i64 p1,.int .i64 p2,.int .i64 0])):=by
  intro j hj ej
  have hfl:fs.length≤1:=by rcases hfs with rfl|⟨_,h,_⟩;exact C4 _;omega
  match fs,hfl,hf,hj,ej,hcl with
  |[],_,_,_,ej,hcl=>
   have ej:j=i+(nR nm ty sg es []).length:=ej
   rw [← ej] at hcl ⊢
   exact (J7 (d:=d) (c:=c) (p0:=p0) (p1:=p1) (p2:=p2) hcl (Ku hc rfl 3)).mono fun r h=> .inl ⟨rfl,h⟩
  |[x],_,hf,hj,ej,hcl=>
   have hj:K0 l j ((3,[61])::wE 4 x):=hj
   have ej:j+(1+(wE 4 x).length)=i+(nR nm ty sg es [x]).length:=by
    rw [← ej];show _=j+([(3,[61])]++wE 4 x:List Tk).length
    simp only [G0]
   obtain⟨a1,b1,e1,h1⟩:=J8 hj
   have hx:=hf x (by simp)
   have X:=zT hl hx (K7 hj) (QP hcl (by omega)) hc d c p0 p1 p2 hd hd2
   rw [show j+1+(wE 4 x).length=i+(nR nm ty sg es [x]).length from by omega] at X
   exact (N6 (d:=d) (c:=c) (p0:=p0) (p1:=p1) (p2:=p2) hl h1 rfl).mono fun r h=> .inr ⟨x,rfl,hx,h,X⟩
 rw [eR] at ht
 obtain⟨hs,ht⟩:=K4.1 ht
 obtain⟨hb1,ht⟩:=K4.1 ht
 have ht:=eI ht
 obtain⟨a1,b1,e1,h1⟩:=J8 ht
 obtain⟨hb2,hF⟩:=K4.1 (K7 ht)
 have sgl:((bif sg then [(1,mL)] else []):List Tk).length=(bif sg then 1 else 0):=by cases sg<;>rfl
 rw [sgl] at hb1 h1 hb2 hF
 have eL:i+(nR nm ty sg es fs).length=i+(bif sg then 1 else 0)+(pA (es.take 2)).length+1+(pA (es.drop 2)).length+(Xg fs).length:=by
  rw [eR];simp only [A7,sgl,A0,A8];omega
 have hS:U (fun n=>H8 n (.str mL) (.Z 5 l) (i:Int) d c p0 p1 p2 (0:Int)) fun r=>r=(true,[.bool sg,.Z 5 l,.int .i64 ((i+(bif sg then 1 else 0):Nat):Int),.int .i64 d,.int .i64 c,.int .i64 p0,.int .i64 p1,.int .i64 p2,.int .i64 0]):=by
  cases sg with
  |true=>
   obtain⟨a2,b2,e2,h2⟩:=J8 (show K0 l i [(1,mL)] from hs)
   exact N6 (d:=d) (c:=c) (p0:=p0) (p1:=p1) (p2:=p2) hl h2 rfl
  |false=>
   rcases hes1 with h0|h0
   ·have:es.take 2=[]:=E5.1 h0
    rw [this] at h1
    exact J7 (d:=d) (c:=c) (p0:=p0) (p1:=p1) (p2:=p2) (show l[i]? = _ from h1) (Th hn (by simp))
   ·match es.take 2,h0,hb1 with
    |[x,y],_,hb1=>
     obtain⟨a2,b2,e2,h2⟩:=J8 (show K0 l i ((3,[91])::_) from hb1)
     exact J7 (d:=d) (c:=c) (p0:=p0) (p1:=p1) (p2:=p2) h2 rfl
 have hB1:=IK hl hes1 he1 hb1 h1 (Th hn (by simp)) d c p0 p1 p2 hd hd2
 have hN:=kB (d:=d) (c:=c) (p0:=p0) (p1:=p1) (p2:=p2) hl h1 hg
 have hJ:∀ es1,jI (es.take 2) es1→es1.length=(es.take 2).length:=fun es1 h=>h.2.1.symm
 refine U.eq (fun n=>rP n q0 q1 q2 ty l i d c p0 p1 p2 0) (U.I0 (by show (!(ty==iS))=true;rw [hni];rfl) (U.H6 hS ?_))
 (intro _ ds h0;cases h0;refine⟨rfl,U.I0 rfl ?_⟩)
 refine U.H6 hB1 ?_
 rintro _ ds ⟨es1,hE1,h0⟩;cases h0
 have hle1:=hJ es1 hE1
 refine⟨rfl,U.I0 rfl (U.H6 hN ?_)⟩
 (intro _ ds h0;cases h0;refine⟨rfl,U.I0 rfl ?_⟩)
 by_cases hreg:ty=lC
 ·subst hreg
  refine U.I0 rfl (U.N9 (fun hpos=>?_) fun hpos=>?_)
  ·have hpos:(es1.length:Int)>0:=E7 hpos
   have hnext:∃ k t a b e,l[i+(bif sg then 1 else 0)+(pA (es.take 2)).length+1+(pA (es.drop 2)).length]? = some (tk k t a b e)∧(t==[91]&&k !=2)=false:=by
    have hfl:fs.length≤1:=by rcases hfs with rfl|⟨_,h,_⟩;exact C4 _;omega
    match fs,hfl,hF,hcl,eL with
    |[],_,_,hcl,eL=>exact⟨3,t,a,b,e,QP hcl (by rw [eL];rfl),Ku hc rfl 3⟩
    |[x],_,hF,_,_=>
     obtain⟨a2,b2,e2,h2⟩:=J8 (show K0 l _ ((3,[61])::_) from hF)
     exact⟨3,[61],a2,b2,e2,h2,rfl⟩
   obtain⟨k9,t9,a9,b9,e9,g9,c9⟩:=hnext
   refine U.H6 (IK hl hes2 he2 hb2 g9 c9 d c p0 p1 p2 hd hd2) ?_
   rintro _ ds ⟨es2,hE2,h0⟩;cases h0
   have hle2:=hE2.2.1
   have hEE:jI es (es1++es2):=by
    refine⟨⟨by omega,he⟩,?_⟩
    have:=hE1.2.app hE2.2
    rwa [List.take_append_drop] at this
   have hlen:(es1++es2).length=es.length:=hEE.2.1.symm
   refine⟨rfl,U.I0 rfl (U.I0 (B2 (by show es1.length+es2.length≤L7;rw [← A7,hlen];simp only [L7];omega)) (U.I0 rfl (U.N9 (fun h4=>?_) fun h4=>?_)))⟩
   ·refine U.H6 (fin _ hF (by rw [eL])) ?_
    rintro _ ds (⟨hf0,h0⟩|⟨x,hf0,hx,h0,X⟩)
    ·cases h0;subst hf0
     exact⟨rfl,U.I0 rfl (U.no rfl (U.ret ⟨es1++es2,[],hEE,jI.nil,rfl⟩))⟩
    ·cases h0
     refine⟨rfl,U.I0 rfl (U.I0 rfl (U.H6 X ?_))⟩
     rintro _ ds ⟨y,hy,h0⟩;cases h0
     have hy0:=hy
     obtain⟨k7,t7,r7,a7,b7,e7,s7,_,rfl⟩:=cD hy
     subst hf0
     exact⟨rfl,U.I0 rfl (U.ret ⟨es1++es2,_,hEE,jI.one hx hy0,rfl⟩)⟩
   ·have h4:=E9 h4
    have h4:¬ (((es1++es2).length:Int)<4):=h4
    have:fs=[]:=by
     rcases hfs with h|⟨_,_,h⟩
     ·exact h
     ·omega
    subst this
    refine U.ret ⟨es1++es2,[],hEE,jI.nil,?_⟩
    rw [eL];rfl
  ·have hpos:¬ ((es1.length:Int)>0):=E9 hpos
   have h10:es1=[]:=E5.1 (by omega)
   have h00:es=[]:=E5.1 (by rw [D7] at hle1;omega)
   subst h10 h00
   refine U.I0 rfl (U.I0 rfl (U.H6 (fin _ hF (by rw [eL];rfl)) ?_))
   rintro _ ds (⟨hf0,h0⟩|⟨x,hf0,hx,h0,X⟩)
   ·cases h0;subst hf0
    exact⟨rfl,U.I0 rfl (U.no rfl (U.ret ⟨[],[],jI.nil,jI.nil,rfl⟩))⟩
   ·cases h0
    refine⟨rfl,U.I0 rfl (U.I0 rfl (U.H6 X ?_))⟩
    rintro _ ds ⟨y,hy,h0⟩;cases h0
    have hy0:=hy
    obtain⟨k7,t7,r7,a7,b7,e7,s7,_,rfl⟩:=cD hy
    subst hf0
    exact⟨rfl,U.I0 rfl (U.ret ⟨[],_,jI.nil,jI.one hx hy0,rfl⟩)⟩
 ·have hnr:(ty==lC)=false:=F4.2 hreg
  have hq2:q≤2:=by rcases hqq with h|h;exact absurd h hreg;exact h
  have e0:es.drop 2=[]:=D4 (by omega)
  have et:es.take 2=es:=List.take_of_length_le (by omega)
  rw [et] at hE1
  have hle:es1.length=es.length:=hE1.2.1.symm
  rw [e0] at hF eL
  refine U.no hnr (U.no hnr (U.N9 (fun ho=>?_) fun ho=>?_))
  ·refine U.I0 (E6 (by show (es1.length:Int)<4;omega)) (U.H6 (fin _ hF (by rw [eL];rfl)) ?_)
   rintro _ ds (⟨hf0,h0⟩|⟨x,hf0,hx,h0,X⟩)
   ·cases h0;subst hf0
    exact⟨rfl,U.I0 rfl (U.no rfl (U.ret ⟨es1,[],hE1,jI.nil,rfl⟩))⟩
   ·cases h0
    refine⟨rfl,U.I0 rfl (U.I0 rfl (U.H6 X ?_))⟩
    rintro _ ds ⟨y,hy,h0⟩;cases h0
    have hy0:=hy
    obtain⟨k7,t7,r7,a7,b7,e7,s7,_,rfl⟩:=cD hy
    subst hf0
    exact⟨rfl,U.I0 rfl (U.ret ⟨es1,_,hE1,jI.one hx hy0,rfl⟩)⟩
  ·have hno:(ty==bY)=false:=ho
   have:fs=[]:=by
    rcases hfs with h|⟨h,_⟩
    ·exact h
    ·rcases hff h with h|h
     ·exact absurd h hreg
     ·rw [show ty=bY from h] at hno;exact absurd hno (by decide)
   subst this
   refine U.ret ⟨es1,[],hE1,jI.nil,?_⟩
   rw [eL];rfl
theorem Ad {nm ty:G1}(hn:nm∈cN){x:D}(hx:fD 4 x){i:Nat}(ht:K0 l i ([(1,nm),(3,[61])]++wE 4 x)){t:G1}{a b e:Int}(hcl:l[i+(2+(wE 4 x).length)]? = some (tk 3 t a b e))(hc:cl t=true)(q0 q1 q2 d c p0 p1 p2:Int)(hd:0≤d)(hd2:d≤32) :
  U (fun n=>aF n (.agg [.int .i64 q0,.int .i64 q1,.int .i64 q2]) (.str ty) (.Z 5 l) (i:Int) d c p0 p1 p2 (0:Int)) fun r=>∃ y,OE 4 x y∧r=(true,[AJ 2 q0 q1 q2 nm ty false [y] [] [] [] [] [] [],.Z 5 l,.int .i64 ((i+(2+(wE 4 x).length):Nat):Int),.int .i64 d,.int .i64 c,.int .i64 p0,.int .i64 p1,.int .i64 p2,.int .i64 0]):=by
 obtain⟨a1,b1,e1,h1⟩:=J8 ht
 obtain⟨a2,b2,e2,h2⟩:=J8 (K7 ht)
 have h3:K0 l (i+1+1) (wE 4 x):=K7 (K7 ht)
 have X:=zT hl hx h3 (QP hcl (by omega)) hc d c p0 p1 p2 hd hd2
 refine U.eq (fun n=>yO n q0 q1 q2 ty l i d c p0 p1 p2 0) (U.H6 (kB (d:=d) (c:=c) (p0:=p0) (p1:=p1) (p2:=p2) hl h1 (pT (uJ hn))) ?_)
 (intro _ ds h0;cases h0;refine⟨rfl,U.I0 rfl ?_⟩)
 refine U.H6 (O7 (d:=d) (c:=c) (p0:=p0) (p1:=p1) (p2:=p2) hl [[61]] (by decide) (P5 h2 rfl)) ?_
 (intro _ ds h0;cases h0;refine⟨rfl,U.I0 rfl ?_⟩)
 refine U.H6 X ?_
 rintro _ ds ⟨y,hy,h0⟩;cases h0
 have hy0:=hy
 obtain⟨k7,t7,r7,a7,b7,e7,s7,_,rfl⟩:=cD hy
 refine⟨rfl,U.I0 rfl (U.ret ⟨_,hy0,?_⟩)⟩
 rw [show i+(2+(wE 4 x).length)=i+1+1+(wE 4 x).length from by omega]
 rfl
def Jk (l:List D)(d c p0 p1 p2:Int)(zs:List D)(z:D):Prop:=∀ (i:Nat) (acc xs:List D),(∀ y∈z::zs,xC y)→K0 l i (lW cW (z::zs)++[(3,[41])])→(z::zs).length+acc.length≤100→Rl OC xs acc→
  U (fun n=>aP n true l (i:Int) d c p0 p1 p2 0 acc) fun r=>∃ ys,Rl OC (xs++z::zs) ys∧r=(false,[.Z 5 l,.int .i64 ((i+(lW cW (z::zs)).length:Nat):Int),.int .i64 d,.int .i64 c,.int .i64 p0,.int .i64 p1,.int .i64 p2,.int .i64 0,.Z 5 ys])
set_option maxHeartbeats 1000000 in
theorem Ei (d c p0 p1 p2:Int)(hd:0≤d)(hd2:d≤32)(zs:List D)(z:D)(hK:∀ z2 zs2,zs=z2::zs2→Jk l d c p0 p1 p2 zs2 z2):Jk l d c p0 p1 p2 zs z:=by
  intro i acc xs hz ht hn hr
  obtain⟨nm,es,ez,hnm,hle,he⟩:=hz z (B8 ..)
  subst ez
  have eC:cW (D.agg [.str nm,.Z 6 es])=[(3,[46]),(1,nm),(3,[40])]++(lW (wE 4) es++[(3,[41])]):=rfl
  have eCl:(cW (D.agg [.str nm,.Z 6 es])).length=4+(lW (wE 4) es).length:=by rw [eC];simp only [G0];omega
  have hhead:∃ rest,lW cW (D.agg [.str nm,.Z 6 es]::zs)++[(3,[41])]=[(3,[46]),(1,nm),(3,[40])]++(lW (wE 4) es++((3,[41])::rest))∧rest=(match zs with|[]=>[(3,[41])]|z2::zs2=>(3,[44])::(lW cW (z2::zs2)++[(3,[41])])):=by
   cases zs with
   |nil=>exact⟨_,by show cW _++[(3,[41])]=_;rw [eC];simp,rfl⟩
   |cons z2 zs2=>exact⟨_,by show (cW _++((3,[44])::lW cW (z2::zs2)))++[(3,[41])]=_;rw [eC];simp,rfl⟩
  obtain⟨rest,h0,hrest⟩:=hhead
  rw [h0] at ht
  have ht:K0 l i ((3,[46])::(1,nm)::(3,[40])::(lW (wE 4) es++((3,[41])::rest))):=ht
  obtain⟨a1,b1,e1,h1⟩:=J8 ht
  obtain⟨a2,b2,e2,h2⟩:=J8 (K7 ht)
  obtain⟨a3,b3,e3,h3⟩:=J8 (K7 (K7 ht))
  obtain⟨hE,h4⟩:=K4.1 (K7 (K7 (K7 ht)))
  obtain⟨a4,b4,e4,g4⟩:=J8 h4
  have hR:=K7 h4
  have J2:∀ (es':List D) (r1 r3:List D),jI es es'→r1=[tk 3 [46] a1 b1 e1,.Z 5 l,.int .i64 (i:Int),.int .i64 d,.int .i64 c,.int .i64 p0,.int .i64 p1,.int .i64 p2,.int .i64 0]→r3=[.str nm,.Z 5 l,.int .i64 ((i+1+1:Nat):Int),.int .i64 d,.int .i64 c,.int .i64 p0,.int .i64 p1,.int .i64 p2,.int .i64 0]→
    U (fun n=>eM n l ((i+1+1+1+(lW (wE 4) es).length:Nat):Int) d c p0 p1 p2 0 es' acc r3 r1) fun r=>∃ ys,Rl OC (xs++D.agg [.str nm,.Z 6 es]::zs) ys∧r=(false,[.Z 5 l,.int .i64 ((i+(lW cW (D.agg [.str nm,.Z 6 es]::zs)).length:Nat):Int),.int .i64 d,.int .i64 c,.int .i64 p0,.int .i64 p1,.int .i64 p2,.int .i64 0,.Z 5 ys]):=by
   intro es' r1 r3 hes' hr1 hr3
   subst hr1 hr3
   have hO:OC (D.agg [.str nm,.Z 6 es]) (AC nm a1 b1 e1 es'):=⟨nm,a1,b1,e1,es,es',rfl,rfl,hes'⟩
   simp only [A0] at hn
   refine O6 (fun n=>eM.eq_1 n _ _ _ _ _ _ _ _ _ _ _ _) (U.H6 (O7 (d:=d) (c:=c) (p0:=p0) (p1:=p1) (p2:=p2) hl [[41]] (by decide) (P5 g4 rfl)) ?_)
   (intro _ ds h0;cases h0;refine⟨rfl,U.I0 rfl ?_⟩)
   refine U.I0 (B2 (by simp only [L7];omega)) ?_
   cases zs with
   |nil=>
    subst hrest
    obtain⟨a5,b5,e5,h5⟩:=J8 hR
    refine U.H6 (J7 (d:=d) (c:=c) (p0:=p0) (p1:=p1) (p2:=p2) h5 rfl) ?_
    (intro _ ds h0;cases h0;refine⟨rfl,U.I0 rfl ?_⟩)
    refine U.I0 rfl (U.ret ⟨acc++[AC nm a1 b1 e1 es'],hr.snoc hO,?_⟩)
    rw [show i+(lW cW [D.agg [.str nm,.Z 6 es]]).length=i+1+1+1+(lW (wE 4) es).length+1 from by show i+(cW _).length=_;rw [eCl];omega]
    rfl
   |cons z2 zs2=>
    subst hrest
    obtain⟨a5,b5,e5,h5⟩:=J8 hR
    have hR:=K7 hR
    have K:=hK z2 zs2 rfl (i+1+1+1+(lW (wE 4) es).length+1+1) (acc++[AC nm a1 b1 e1 es']) (xs++[D.agg [.str nm,.Z 6 es]]) (fun y hy=>hz y (C0 _ hy)) hR (by simp only [G0] at hn ⊢;omega) (hr.snoc hO)
    refine U.H6 (N6 (d:=d) (c:=c) (p0:=p0) (p1:=p1) (p2:=p2) hl h5 rfl) ?_
    (intro _ ds h0;cases h0;refine⟨rfl,U.I0 rfl ?_⟩)
    refine U.no rfl (U.eq (fun n=>iO n _ _ _ _ _ _ _ _ _) (U.I0 rfl (U.I0 (E6 (by show ((acc++[AC nm a1 b1 e1 es']).length:Int)>0;rw [A7,C9];omega)) ?_)))
    refine K.mono fun r ⟨ys,g1,g2⟩=>⟨ys,by rw [C1] at g1;exact g1,?_⟩
    rw [g2,show i+(lW cW (D.agg [.str nm,.Z 6 es]::z2::zs2)).length=i+1+1+1+(lW (wE 4) es).length+1+1+(lW cW (z2::zs2)).length from by
     show i+(cW _++((3,[44])::lW cW (z2::zs2))).length=_
     rw [A7,eCl,A0];omega]
  refine O6 (fun n=>aP.eq_1 n _ _ _ _ _ _ _ _ _ _) (U.I0 rfl (U.H6 (S5 (d:=d) (c:=c) (p0:=p0) (p1:=p1) (p2:=p2) h1) ?_))
  (intro _ ds h0;cases h0;refine⟨rfl,U.I0 rfl ?_⟩)
  refine U.H6 (O7 (d:=d) (c:=c) (p0:=p0) (p1:=p1) (p2:=p2) hl [[46]] (by decide) (P5 h1 rfl)) ?_
  (intro _ ds h0;cases h0;refine⟨rfl,U.I0 rfl ?_⟩)
  refine U.H6 (kB (d:=d) (c:=c) (p0:=p0) (p1:=p1) (p2:=p2) hl h2 (pT (uJ hnm))) ?_
  (intro _ ds h0;cases h0;refine⟨rfl,U.I0 rfl ?_⟩)
  refine U.H6 (O7 (d:=d) (c:=c) (p0:=p0) (p1:=p1) (p2:=p2) hl [[40]] (by decide) (P5 h3 rfl)) ?_
  (intro _ ds h0;cases h0;refine⟨rfl,U.I0 rfl ?_⟩)
  rcases es with _|⟨x,_|⟨x2,er⟩⟩
  ·have g4:l[i+1+1+1]? = _:=g4
   refine U.H6 (gM (d:=d) (c:=c) (p0:=p0) (p1:=p1) (p2:=p2) [41] g4) ?_
   (intro _ ds h0;cases h0;refine⟨rfl,U.I0 rfl ?_⟩)
   exact U.no rfl (J2 [] _ _ jI.nil rfl rfl)
  ·have hx:=he x (by simp)
   have hE:K0 l (i+1+1+1) (wE 4 x):=hE
   obtain⟨kk,t5,a5,b5,e5,h5,h6⟩:=GN 4 x hx _ hE
   refine U.H6 (gM (d:=d) (c:=c) (p0:=p0) (p1:=p1) (p2:=p2) [41] h5) ?_
   (intro _ ds h0;cases h0;refine⟨rfl,U.I0 rfl ?_⟩)
   refine U.I0 (by show (!(t5==[41]&&kk !=2))=true;rw [Em h6 (by simp [Xi])];rfl) (U.H6 (zT hl hx hE g4 rfl d c p0 p1 p2 hd hd2) ?_)
   rintro _ ds ⟨y,hy,h0⟩;cases h0
   have hy0:=hy
   obtain⟨k7,t7,r7,a7,b7,e7,s7,_,rfl⟩:=cD hy
   exact⟨rfl,U.I0 rfl (J2 _ _ _ (jI.one hx hy0) rfl rfl)⟩
  ·exact absurd hle (by simp)
theorem Pw (d c p0 p1 p2:Int)(hd:0≤d)(hd2:d≤32):∀ (zs:List D) (z:D),Jk l d c p0 p1 p2 zs z:=by
 intro zs
 induction zs with
 |nil=>exact fun z=>Ei hl d c p0 p1 p2 hd hd2 [] z fun _ _ h=>(by cases h)
 |cons z2 zs2 ih=>exact fun z=>Ei hl d c p0 p1 p2 hd hd2 (z2::zs2) z fun z3 zs3 h=>(by cases h;exact ih z2)
theorem YL {zs:List D}(hn:zs.length≤10)(hz:∀ y∈zs,xC y){i:Nat}(ht:K0 l i (oI zs))(d c p0 p1 p2:Int)(hd:0≤d)(hd2:d≤32) :
  U (fun n=>Y5 n (.Z 5 l) (i:Int) d c p0 p1 p2 (0:Int)) fun r=>∃ ys,Rl OC zs ys∧r=(true,[.Z 5 l,.int .i64 ((i+(oI zs).length:Nat):Int),.int .i64 d,.int .i64 c,.int .i64 p0,.int .i64 p1,.int .i64 p2,.int .i64 0,.Z 5 ys]):=by
 have ht:K0 l i ((3,[40])::(lW cW zs++[(3,[41])])):=ht
 obtain⟨a1,b1,e1,h1⟩:=J8 ht
 have ht:=K7 ht
 obtain⟨_,h9⟩:=K4.1 ht
 obtain⟨a9,b9,e9,h9⟩:=J8 h9
 have eL:i+(oI zs).length=i+1+(lW cW zs).length+1:=by simp only [oI,G0];omega
 refine U.eq (fun n=>yK n l i d c p0 p1 p2 0) (U.H6 (O7 (d:=d) (c:=c) (p0:=p0) (p1:=p1) (p2:=p2) hl [[40]] (by decide) (P5 h1 rfl)) ?_)
 (intro _ ds h0;cases h0;refine⟨rfl,U.I0 rfl ?_⟩)
 refine U.L3 (Q:=fun r=>∃ ys,Rl OC zs ys∧r=(false,[.Z 5 l,.int .i64 ((i+1+(lW cW zs).length:Nat):Int),.int .i64 d,.int .i64 c,.int .i64 p0,.int .i64 p1,.int .i64 p2,.int .i64 0,.Z 5 ys])) ?_ (fun ds h=>by obtain⟨_,_,h⟩:=h;cases h) fun ds h=>?_
 ·cases zs with
  |nil=>
   have h9:l[i+1]? = _:=h9
   refine U.eq (fun n=>iO n _ _ _ _ _ _ _ _ _) (U.I0 rfl (U.no rfl (U.H6 (gM (d:=d) (c:=c) (p0:=p0) (p1:=p1) (p2:=p2) [41] h9) ?_)))
   (intro _ ds h0;cases h0;refine⟨rfl,U.I0 rfl ?_⟩)
   exact O6 (fun n=>aP.eq_1 n _ _ _ _ _ _ _ _ _ _) (U.no rfl (U.ret ⟨[],Rl.nil,rfl⟩))
  |cons z zs=>
   have K:=Pw hl d c p0 p1 p2 hd hd2 zs z (i+1) [] [] hz ht (by simp only [A0,A8] at hn ⊢;omega) Rl.nil
   obtain⟨nm,es,ez,_⟩:=hz z (B8 ..)
   have h2:∃ a b e,l[i+1]? = some (tk 3 [46] a b e):=by
    subst ez
    cases zs with
    |nil=>exact J8 (show K0 l (i+1) ((3,[46])::_) from ht)
    |cons z2 zs2=>exact J8 (show K0 l (i+1) ((3,[46])::_) from ht)
   obtain⟨a2,b2,e2,h2⟩:=h2
   refine U.eq (fun n=>iO n _ _ _ _ _ _ _ _ _) (U.I0 rfl (U.no rfl (U.H6 (gM (d:=d) (c:=c) (p0:=p0) (p1:=p1) (p2:=p2) [41] h2) ?_)))
   (intro _ ds h0;cases h0;refine⟨rfl,U.I0 rfl ?_⟩)
   exact K
 ·obtain⟨ys,hy,h⟩:=h
  cases h
  refine U.I0 rfl (U.H6 (O7 (d:=d) (c:=c) (p0:=p0) (p1:=p1) (p2:=p2) hl [[41]] (by decide) (P5 h9 rfl)) ?_)
  (intro _ ds h0;cases h0;refine⟨rfl,U.I0 rfl ?_⟩)
  refine U.ret ⟨ys,hy,?_⟩
  rw [eL];rfl
end
end
section
theorem AO {n:Nat}{k i j l:Int}{nm ty:G1}{sg:Bool}{es fs bs its els ps qs es' fs' bs' its' els' ps' qs':List D}(h1:jI es es')(h2:jI fs fs')(l1:bs.length≤10)(l2:its.length≤10)(l3:els.length≤10)(l4:ps.length≤10)(l5:qs.length≤10)
  (h3:Rl (OS 4) bs bs') (h4:Rl (OI n) its its') (h5:Rl (OI n) els els') (h6:Rl OC ps ps') (h7:Rl OC qs qs'):OI (n+1) (I k nm ty sg es fs bs its els ps qs) (AJ k i j l nm ty sg es' fs' bs' its' els' ps' qs'):=
 ⟨k,i,j,l,nm,ty,sg,es,fs,bs,its,els,ps,qs,es',fs',bs',its',els',ps',qs',rfl,rfl,h1,h2,l1,l2,l3,l4,l5,h3,h4,h5,h6,h7⟩
def Pi (F:PW)(l:List D)(i m q:Nat)(R:D→Prop)(h:Nat):Prop:=
 ∀ d c p0 p1 p2:Int,0≤d→d+h≤40→0≤c→c+q≤4000→U (fun n=>F n (.Z 5 l) (i:Int) d c p0 p1 p2 (0:Int)) fun r=>∃ y,R y∧r=(true,[.Z 5 l,.int .i64 ((i+m:Nat):Int),.int .i64 d,.int .i64 (c+(q:Int)),.int .i64 p0,.int .i64 p1,.int .i64 p2,.int .i64 0,.Z 14 [y]])
theorem Pi.cast {F:PW}{l:List D}{i m q m' q':Nat}{R:D→Prop}{h:Nat}(H:Pi F l i m q R h)(e:m=m')(e':q=q'):Pi F l i m' q' R h:=e▸e'▸H
theorem Gp:∀ {T:NT},T=vN∨T=JN∨T=CO∨T=nA→∀ p∈T,p.1∈([LH,lC,iS,QK,nL,bY]:List G1)∧(p.2.2=true→p.1=lC∨p.1=bY)∧(p.1=lC∨p.2.1≤2)∧(p.1=iS→p.2.1=0∧p.2.2=false):=by
 intro T h
 rcases h with rfl|rfl|rfl|rfl<;>decide
section
variable {l:List D} (hl:l.length≤1000000) {n:Nat}
include hl
theorem Yo {T:NT}(hT:T=vN∨T=JN){nm ty:G1}{q:Nat}{f sg:Bool}{es fs:List D}(hn:nm∈cN)(hm:(ty,q,f)∈T)(hi:ty=iS→sg=true)(hq:es.length≤q)(hes:es.length=0∨es.length=2∨es.length=4)(hfs:fs=[]∨(f=true∧fs.length=1∧es.length≤2))(he:∀ e∈es,fD 4 e)(hf:∀ e∈fs,fD 4 e)
  {i:Nat} (ht:K0 l i ([(1,ty)]++(nR nm ty sg es fs++[(3,[59])]))):Pi (fun m=>O0 m) l i ((nR nm ty sg es fs).length+2) 1 (OI (n+1) (I 1 nm ty sg es fs [] [] [] [] [])) 16:=by
 have ht:=eI ht
 obtain⟨a1,b1,e1,h1⟩:=J8 ht
 obtain⟨h2,h3⟩:=K4.1 (K7 ht)
 obtain⟨a3,b3,e3,h3⟩:=J8 h3
 intro d c p0 p1 p2 hd hd2 hc hc2
 have N:=PB hl (Gp (hT.imp id .inl)) hn hm hi hq hes hfs he hf h2 h3 rfl a1 b1 e1 (d+1) (c+1) p0 p1 p2 (by omega) (by omega)
 have J:∀ r4,U (fun m=>N8 m true l ((i+1:Nat):Int) (d+1) (c+1) p0 p1 p2 0 [tk 1 ty a1 b1 e1,.Z 5 l,.int .i64 (i:Int),.int .i64 (d+1),.int .i64 (c+1),.int .i64 p0,.int .i64 p1,.int .i64 p2,.int .i64 0] r4) fun r=>∃ y,OI (n+1) (I 1 nm ty sg es fs [] [] [] [] []) y∧r=(true,[.Z 5 l,.int .i64 ((i+((nR nm ty sg es fs).length+2):Nat):Int),.int .i64 d,.int .i64 (c+((1:Nat):Int)),.int .i64 p0,.int .i64 p1,.int .i64 p2,.int .i64 0,.Z 14 [y]]):=by
  intro r4
  refine O6 (fun m=>N8.eq_1 m _ _ _ _ _ _ _ _ _ _ _) (U.I0 rfl (U.H6 N ?_))
  rintro _ ds ⟨es',fs',hE,hF,h0⟩;cases h0
  refine⟨rfl,U.I0 rfl (U.H6 (O7 (d:=(d+1)) (c:=(c+1)) (p0:=p0) (p1:=p1) (p2:=p2) hl [[59]] (by decide) (P5 h3 rfl)) ?_)⟩
  (intro _ ds h0;cases h0;refine⟨rfl,U.I0 rfl ?_⟩)
  (refine O6 (fun m=>M0.eq_1 m _ _ _ _ _ _ _ _ _) (U.H6 (fS (l:=l) (d:=d) (c:=(c+1)) (p0:=p0) (p1:=p1) (p2:=p2) _ (by omega) hd) ?_);intro _ ds h0;cases h0;refine⟨rfl,U.I0 rfl ?_⟩)
  refine U.ret ⟨_,AO (i:=a1) (j:=b1) (l:=e1) hE hF (by simp) (by simp) (by simp) (by simp) (by simp) Rl.nil Rl.nil Rl.nil Rl.nil Rl.nil,?_⟩
  rw [show i+((nR nm ty sg es fs).length+2)=i+1+(nR nm ty sg es fs).length+1 from by omega]
  rfl
 have hty:ty=LH∨ty=lC∨ty=iS:=by
  rcases hT with rfl|rfl
  ·simp only [vN,C3,C7] at hm
   exact .inl hm.1
  ·simp only [JN,B7,C7,List.not_mem_nil,or_false] at hm
   rcases hm with h|h
   ·exact .inr (.inl h.1)
   ·exact .inr (.inr h.1)
 rcases hty with rfl|rfl|rfl
 ·(refine U.eq (fun m=>P3 m l i d c p0 p1 p2 0) (U.H6 (kG (l:=l) (d:=d) (c:=c) (p0:=p0) (p1:=p1) (p2:=p2) (i:Int) (by omega) hd) ?_);intro _ ds h0;cases h0;refine⟨rfl,U.I0 rfl (U.no rfl (U.H6 (X4 (l:=l) (d:=(d+1)) (c:=c) (p0:=p0) (p1:=p1) (p2:=p2) (i:Int) (by omega) hc) ?_))⟩;intro _ ds h0;cases h0;refine⟨rfl,U.I0 rfl (U.H6 (S5 (d:=(d+1)) (c:=(c+1)) (p0:=p0) (p1:=p1) (p2:=p2) h1) ?_)⟩;intro _ ds h0;cases h0;refine⟨rfl,U.I0 rfl ?_⟩)
  (refine U.H6 (N6 (d:=(d+1)) (c:=(c+1)) (p0:=p0) (p1:=p1) (p2:=p2) hl h1 rfl) ?_;intro _ ds h0;cases h0;refine⟨rfl,U.I0 rfl (U.I0 rfl ?_)⟩)
  exact J _
 ·(refine U.eq (fun m=>P3 m l i d c p0 p1 p2 0) (U.H6 (kG (l:=l) (d:=d) (c:=c) (p0:=p0) (p1:=p1) (p2:=p2) (i:Int) (by omega) hd) ?_);intro _ ds h0;cases h0;refine⟨rfl,U.I0 rfl (U.no rfl (U.H6 (X4 (l:=l) (d:=(d+1)) (c:=c) (p0:=p0) (p1:=p1) (p2:=p2) (i:Int) (by omega) hc) ?_))⟩;intro _ ds h0;cases h0;refine⟨rfl,U.I0 rfl (U.H6 (S5 (d:=(d+1)) (c:=(c+1)) (p0:=p0) (p1:=p1) (p2:=p2) h1) ?_)⟩;intro _ ds h0;cases h0;refine⟨rfl,U.I0 rfl ?_⟩)
  (refine U.H6 (J7 (d:=(d+1)) (c:=(c+1)) (p0:=p0) (p1:=p1) (p2:=p2) h1 rfl) ?_;intro _ ds h0;cases h0;refine⟨rfl,U.I0 rfl (U.no rfl ?_)⟩)
  (refine U.H6 (N6 (d:=(d+1)) (c:=(c+1)) (p0:=p0) (p1:=p1) (p2:=p2) hl h1 rfl) ?_;intro _ ds h0;cases h0;refine⟨rfl,U.I0 rfl (U.I0 rfl ?_)⟩)
  exact J _
 ·(refine U.eq (fun m=>P3 m l i d c p0 p1 p2 0) (U.H6 (kG (l:=l) (d:=d) (c:=c) (p0:=p0) (p1:=p1) (p2:=p2) (i:Int) (by omega) hd) ?_);intro _ ds h0;cases h0;refine⟨rfl,U.I0 rfl (U.no rfl (U.H6 (X4 (l:=l) (d:=(d+1)) (c:=c) (p0:=p0) (p1:=p1) (p2:=p2) (i:Int) (by omega) hc) ?_))⟩;intro _ ds h0;cases h0;refine⟨rfl,U.I0 rfl (U.H6 (S5 (d:=(d+1)) (c:=(c+1)) (p0:=p0) (p1:=p1) (p2:=p2) h1) ?_)⟩;intro _ ds h0;cases h0;refine⟨rfl,U.I0 rfl ?_⟩)
  (refine U.H6 (J7 (d:=(d+1)) (c:=(c+1)) (p0:=p0) (p1:=p1) (p2:=p2) h1 rfl) ?_;intro _ ds h0;cases h0;refine⟨rfl,U.I0 rfl (U.no rfl ?_)⟩)
  (refine U.H6 (J7 (d:=(d+1)) (c:=(c+1)) (p0:=p0) (p1:=p1) (p2:=p2) h1 rfl) ?_;intro _ ds h0;cases h0;refine⟨rfl,U.I0 rfl (U.no rfl ?_)⟩)
  refine U.H6 (N6 (d:=(d+1)) (c:=(c+1)) (p0:=p0) (p1:=p1) (p2:=p2) hl h1 rfl) ?_
  intro _ ds h0;cases h0
  exact⟨rfl,U.I0 rfl (J _)⟩
theorem Rn {nm:G1}(hn:nm∈cN){x:D}(hx:fD 4 x){i:Nat}(ht:K0 l i ([(1,oP)]++([(1,nm),(3,[61])]++(wE 4 x++[(3,[59])])))):Pi (fun m=>O0 m) l i ((wE 4 x).length+4) 1 (OI (n+1) (I 2 nm oP false [x] [] [] [] [] [] [])) 16:=by
 have ht:=eI ht
 obtain⟨a1,b1,e1,h1⟩:=J8 ht
 have h2:K0 l (i+1) ([(1,nm),(3,[61])]++wE 4 x++[(3,[59])]):=by rw [C1];exact K7 ht
 obtain⟨h2,h3⟩:=K4.1 h2
 obtain⟨a3,b3,e3,h3⟩:=J8 h3
 have eL:([(1,nm),(3,[61])]++wE 4 x:List Tk).length=2+(wE 4 x).length:=by simp only [G0]
 rw [eL] at h3
 intro d c p0 p1 p2 hd hd2 hc hc2
 have N:=Ad hl (ty:=oP) hn hx h2 h3 rfl a1 b1 e1 (d+1) (c+1) p0 p1 p2 (by omega) (by omega)
 (refine U.eq (fun m=>P3 m l i d c p0 p1 p2 0) (U.H6 (kG (l:=l) (d:=d) (c:=c) (p0:=p0) (p1:=p1) (p2:=p2) (i:Int) (by omega) hd) ?_);intro _ ds h0;cases h0;refine⟨rfl,U.I0 rfl (U.no rfl (U.H6 (X4 (l:=l) (d:=(d+1)) (c:=c) (p0:=p0) (p1:=p1) (p2:=p2) (i:Int) (by omega) hc) ?_))⟩;intro _ ds h0;cases h0;refine⟨rfl,U.I0 rfl (U.H6 (S5 (d:=(d+1)) (c:=(c+1)) (p0:=p0) (p1:=p1) (p2:=p2) h1) ?_)⟩;intro _ ds h0;cases h0;refine⟨rfl,U.I0 rfl ?_⟩)
 (refine U.H6 (J7 (d:=(d+1)) (c:=(c+1)) (p0:=p0) (p1:=p1) (p2:=p2) h1 rfl) ?_;intro _ ds h0;cases h0;refine⟨rfl,U.I0 rfl (U.no rfl (U.H6 (J7 (d:=(d+1)) (c:=(c+1)) (p0:=p0) (p1:=p1) (p2:=p2) h1 rfl) ?_))⟩;intro _ ds h0;cases h0;refine⟨rfl,U.I0 rfl (U.no rfl (U.H6 (J7 (d:=(d+1)) (c:=(c+1)) (p0:=p0) (p1:=p1) (p2:=p2) h1 rfl) ?_))⟩;intro _ ds h0;cases h0;refine⟨rfl,U.I0 rfl (O6 (fun m=>N8.eq_1 m _ _ _ _ _ _ _ _ _ _ _) (U.no rfl ?_))⟩)
 (refine U.H6 (N6 (d:=(d+1)) (c:=(c+1)) (p0:=p0) (p1:=p1) (p2:=p2) hl h1 rfl) ?_;intro _ ds h0;cases h0;refine⟨rfl,U.I0 rfl (U.I0 rfl ?_)⟩)
 refine U.H6 N ?_
 rintro _ ds ⟨y,hy,h0⟩;cases h0
 refine⟨rfl,U.I0 rfl (U.H6 (O7 (d:=(d+1)) (c:=(c+1)) (p0:=p0) (p1:=p1) (p2:=p2) hl [[59]] (by decide) (P5 h3 rfl)) ?_)⟩
 (intro _ ds h0;cases h0;refine⟨rfl,U.I0 rfl ?_⟩)
 (refine O6 (fun m=>M0.eq_1 m _ _ _ _ _ _ _ _ _) (U.H6 (fS (l:=l) (d:=d) (c:=(c+1)) (p0:=p0) (p1:=p1) (p2:=p2) _ (by omega) hd) ?_);intro _ ds h0;cases h0;refine⟨rfl,U.I0 rfl ?_⟩)
 refine U.ret ⟨_,AO (i:=a1) (j:=b1) (l:=e1) (jI.one hx hy) jI.nil (by simp) (by simp) (by simp) (by simp) (by simp) Rl.nil Rl.nil Rl.nil Rl.nil Rl.nil,?_⟩
 rw [show i+((wE 4 x).length+4)=i+1+(2+(wE 4 x).length)+1 from by omega]
 rfl
theorem Lm {nm:G1}(hn:nm∈cN){i:Nat}(ht:K0 l i [(1,GO),(1,nm),(3,[59])]):Pi (fun m=>O0 m) l i 3 1 (OI (n+1) (I 3 nm [] false [] [] [] [] [] [] [])) 16:=by
 obtain⟨a1,b1,e1,h1⟩:=J8 ht
 obtain⟨a2,b2,e2,h2⟩:=J8 (K7 ht)
 obtain⟨a3,b3,e3,h3⟩:=J8 (K7 (K7 ht))
 intro d c p0 p1 p2 hd hd2 hc hc2
 (refine U.eq (fun m=>P3 m l i d c p0 p1 p2 0) (U.H6 (kG (l:=l) (d:=d) (c:=c) (p0:=p0) (p1:=p1) (p2:=p2) (i:Int) (by omega) hd) ?_);intro _ ds h0;cases h0;refine⟨rfl,U.I0 rfl (U.no rfl (U.H6 (X4 (l:=l) (d:=(d+1)) (c:=c) (p0:=p0) (p1:=p1) (p2:=p2) (i:Int) (by omega) hc) ?_))⟩;intro _ ds h0;cases h0;refine⟨rfl,U.I0 rfl (U.H6 (S5 (d:=(d+1)) (c:=(c+1)) (p0:=p0) (p1:=p1) (p2:=p2) h1) ?_)⟩;intro _ ds h0;cases h0;refine⟨rfl,U.I0 rfl ?_⟩)
 (refine U.H6 (J7 (d:=(d+1)) (c:=(c+1)) (p0:=p0) (p1:=p1) (p2:=p2) h1 rfl) ?_;intro _ ds h0;cases h0;refine⟨rfl,U.I0 rfl (U.no rfl (U.H6 (J7 (d:=(d+1)) (c:=(c+1)) (p0:=p0) (p1:=p1) (p2:=p2) h1 rfl) ?_))⟩;intro _ ds h0;cases h0;refine⟨rfl,U.I0 rfl (U.no rfl (U.H6 (J7 (d:=(d+1)) (c:=(c+1)) (p0:=p0) (p1:=p1) (p2:=p2) h1 rfl) ?_))⟩;intro _ ds h0;cases h0;refine⟨rfl,U.I0 rfl (O6 (fun m=>N8.eq_1 m _ _ _ _ _ _ _ _ _ _ _) (U.no rfl ?_))⟩)
 (refine U.H6 (J7 (d:=(d+1)) (c:=(c+1)) (p0:=p0) (p1:=p1) (p2:=p2) h1 rfl) ?_;intro _ ds h0;cases h0;refine⟨rfl,U.I0 rfl (U.no rfl ?_)⟩)
 (refine U.H6 (N6 (d:=(d+1)) (c:=(c+1)) (p0:=p0) (p1:=p1) (p2:=p2) hl h1 rfl) ?_;intro _ ds h0;cases h0;refine⟨rfl,U.I0 rfl (U.I0 rfl ?_)⟩)
 refine U.H6 (kB (d:=(d+1)) (c:=(c+1)) (p0:=p0) (p1:=p1) (p2:=p2) hl h2 (pT (uJ hn))) ?_
 (intro _ ds h0;cases h0;refine⟨rfl,U.I0 rfl ?_⟩)
 refine U.H6 (O7 (d:=(d+1)) (c:=(c+1)) (p0:=p0) (p1:=p1) (p2:=p2) hl [[59]] (by decide) (P5 h3 rfl)) ?_
 (intro _ ds h0;cases h0;refine⟨rfl,U.I0 rfl ?_⟩)
 (refine O6 (fun m=>M0.eq_1 m _ _ _ _ _ _ _ _ _) (U.H6 (fS (l:=l) (d:=d) (c:=(c+1)) (p0:=p0) (p1:=p1) (p2:=p2) _ (by omega) hd) ?_);intro _ ds h0;cases h0;refine⟨rfl,U.I0 rfl ?_⟩)
 exact U.ret ⟨_,AO (i:=a1) (j:=b1) (l:=e1) jI.nil jI.nil (by simp) (by simp) (by simp) (by simp) (by simp) Rl.nil Rl.nil Rl.nil Rl.nil Rl.nil,rfl⟩
theorem Ki {x e:D}(hx:isLeft x)(he:fD 4 e){i:Nat}(ht:K0 l i ([(1,qG)]++(wE 4 x++([(3,[61])]++(wE 4 e++[(3,[59])]))))):Pi (fun m=>O0 m) l i ((wE 4 x).length+(wE 4 e).length+3) 1 (OI (n+1) (I 4 [] [] false [x,e] [] [] [] [] [] [])) 16:=by
 have ht:=eI ht
 obtain⟨a1,b1,e1,h1⟩:=J8 ht
 obtain⟨h2,h3⟩:=K4.1 (K7 ht)
 have h3:=eI h3
 obtain⟨a3,b3,e3,g3⟩:=J8 h3
 obtain⟨h4,h5⟩:=K4.1 (K7 h3)
 obtain⟨a5,b5,e5,h5⟩:=J8 h5
 intro d c p0 p1 p2 hd hd2 hc hc2
 (refine U.eq (fun m=>P3 m l i d c p0 p1 p2 0) (U.H6 (kG (l:=l) (d:=d) (c:=c) (p0:=p0) (p1:=p1) (p2:=p2) (i:Int) (by omega) hd) ?_);intro _ ds h0;cases h0;refine⟨rfl,U.I0 rfl (U.no rfl (U.H6 (X4 (l:=l) (d:=(d+1)) (c:=c) (p0:=p0) (p1:=p1) (p2:=p2) (i:Int) (by omega) hc) ?_))⟩;intro _ ds h0;cases h0;refine⟨rfl,U.I0 rfl (U.H6 (S5 (d:=(d+1)) (c:=(c+1)) (p0:=p0) (p1:=p1) (p2:=p2) h1) ?_)⟩;intro _ ds h0;cases h0;refine⟨rfl,U.I0 rfl ?_⟩)
 (refine U.H6 (J7 (d:=(d+1)) (c:=(c+1)) (p0:=p0) (p1:=p1) (p2:=p2) h1 rfl) ?_;intro _ ds h0;cases h0;refine⟨rfl,U.I0 rfl (U.no rfl (U.H6 (J7 (d:=(d+1)) (c:=(c+1)) (p0:=p0) (p1:=p1) (p2:=p2) h1 rfl) ?_))⟩;intro _ ds h0;cases h0;refine⟨rfl,U.I0 rfl (U.no rfl (U.H6 (J7 (d:=(d+1)) (c:=(c+1)) (p0:=p0) (p1:=p1) (p2:=p2) h1 rfl) ?_))⟩;intro _ ds h0;cases h0;refine⟨rfl,U.I0 rfl (O6 (fun m=>N8.eq_1 m _ _ _ _ _ _ _ _ _ _ _) (U.no rfl ?_))⟩)
 (refine U.H6 (J7 (d:=(d+1)) (c:=(c+1)) (p0:=p0) (p1:=p1) (p2:=p2) h1 rfl) ?_;intro _ ds h0;cases h0;refine⟨rfl,U.I0 rfl (U.no rfl ?_)⟩)
 (refine U.H6 (J7 (d:=(d+1)) (c:=(c+1)) (p0:=p0) (p1:=p1) (p2:=p2) h1 rfl) ?_;intro _ ds h0;cases h0;refine⟨rfl,U.I0 rfl (U.no rfl ?_)⟩)
 (refine U.H6 (N6 (d:=(d+1)) (c:=(c+1)) (p0:=p0) (p1:=p1) (p2:=p2) hl h1 rfl) ?_;intro _ ds h0;cases h0;refine⟨rfl,U.I0 rfl (U.I0 rfl ?_)⟩)
 refine U.H6 (Fw hl hx h2 g3 rfl (d+1) (c+1) p0 p1 p2 (by omega) (by omega)) ?_
 rintro _ ds ⟨y,hy,h0⟩;cases h0
 have hy0:=hy
 obtain⟨k7,t7,r7,a7,b7,e7,s7,_,rfl⟩:=cD hy
 refine⟨rfl,U.I0 rfl (U.H6 (O7 (d:=(d+1)) (c:=(c+1)) (p0:=p0) (p1:=p1) (p2:=p2) hl [[61]] (by decide) (P5 g3 rfl)) ?_)⟩
 (intro _ ds h0;cases h0;refine⟨rfl,U.I0 rfl ?_⟩)
 refine U.H6 (zT hl he h4 h5 rfl (d+1) (c+1) p0 p1 p2 (by omega) (by omega)) ?_
 rintro _ ds ⟨z,hz,h0⟩;cases h0
 have hz0:=hz
 obtain⟨k8,t8,r8,a8,b8,e8,s8,_,rfl⟩:=cD hz
 refine⟨rfl,U.I0 rfl (U.H6 (O7 (d:=(d+1)) (c:=(c+1)) (p0:=p0) (p1:=p1) (p2:=p2) hl [[59]] (by decide) (P5 h5 rfl)) ?_)⟩
 (intro _ ds h0;cases h0;refine⟨rfl,U.I0 rfl ?_⟩)
 (refine O6 (fun m=>M0.eq_1 m _ _ _ _ _ _ _ _ _) (U.H6 (fS (l:=l) (d:=d) (c:=(c+1)) (p0:=p0) (p1:=p1) (p2:=p2) _ (by omega) hd) ?_);intro _ ds h0;cases h0;refine⟨rfl,U.I0 rfl ?_⟩)
 refine U.ret ⟨_,AO (i:=a1) (j:=b1) (l:=e1) (jI.two (fZ (by decide) (uV hx)) he hy0 hz0) jI.nil (by simp) (by simp) (by simp) (by simp) (by simp) Rl.nil Rl.nil Rl.nil Rl.nil Rl.nil,?_⟩
 rw [show i+((wE 4 x).length+(wE 4 e).length+3)=i+1+(wE 4 x).length+1+(wE 4 e).length+1 from by omega]
 rfl
theorem Um {s:D}(hs:sE 4 s){i:Nat}(ht:K0 l i ([(1,lU),(3,[64]),(3,[42])]++wS 4 s))(hN:Js l (i+(3+(wS 4 s).length))):Pi (fun m=>O0 m) l i (3+(wS 4 s).length) (1+qS 4 s) (OI (n+1) (I 5 [] [] false [] [] [s] [] [] [] [])) 16:=by
 have ht:K0 l i ((1,lU)::(3,[64])::(3,[42])::wS 4 s):=ht
 obtain⟨a1,b1,e1,h1⟩:=J8 ht
 obtain⟨a2,b2,e2,h2⟩:=J8 (K7 ht)
 obtain⟨a3,b3,e3,h3⟩:=J8 (K7 (K7 ht))
 have h4:=K7 (K7 (K7 ht))
 intro d c p0 p1 p2 hd hd2 hc hc2
 have I:=aA3 hl 4 s hs _ h4 (fun _=>by rw [show i+1+1+1+(wS 4 s).length=i+(3+(wS 4 s).length) from by omega];exact hN) (d+1) (c+1) p0 p1 p2 (by omega) (by show d+1+14≤40;omega) (by omega) (by omega)
 have A:U (fun m=>aS m (.agg [.int .i64 a1,.int .i64 b1,.int .i64 e1]) (.Z 5 l) ((i+1:Nat):Int) (d+1:Int) (c+1:Int) p0 p1 p2 (0:Int)) fun r=>∃ y,OS 4 s y∧r=(true,[AJ 5 a1 b1 e1 [] [] false [] [] [y] [] [] [] [],.Z 5 l,.int .i64 ((i+(3+(wS 4 s).length):Nat):Int),.int .i64 (d+1),.int .i64 (c+1+(qS 4 s:Int)),.int .i64 p0,.int .i64 p1,.int .i64 p2,.int .i64 0]):=by
  refine U.eq (fun m=>oV m a1 b1 e1 l _ (d+1) (c+1) p0 p1 p2 0) (U.H6 (O7 (d:=(d+1)) (c:=(c+1)) (p0:=p0) (p1:=p1) (p2:=p2) hl [[64]] (by decide) (P5 h2 rfl)) ?_)
  (intro _ ds h0;cases h0;refine⟨rfl,U.I0 rfl ?_⟩)
  refine U.H6 (N6 (d:=(d+1)) (c:=(c+1)) (p0:=p0) (p1:=p1) (p2:=p2) hl h3 rfl) ?_
  (intro _ ds h0;cases h0;refine⟨rfl,U.I0 rfl ?_⟩)
  refine U.no rfl (O6 (fun m=>dC.eq_1 m _ _ _ _ _ _ _ _ _ _ _ _ _) (U.H6 I ?_))
  rintro _ ds ⟨y,hy,h0⟩;cases h0
  have hy0:=hy
  obtain⟨k5,i5,j5,l5,t5,es5,bs5,zs5,es6,bs6,zs6,_,rfl⟩:=rQ hy
  refine⟨rfl,U.I0 rfl (U.ret ⟨_,hy0,?_⟩)⟩
  rw [show i+(3+(wS 4 s).length)=i+1+1+1+(wS 4 s).length from by omega]
  rfl
 (refine U.eq (fun m=>P3 m l i d c p0 p1 p2 0) (U.H6 (kG (l:=l) (d:=d) (c:=c) (p0:=p0) (p1:=p1) (p2:=p2) (i:Int) (by omega) hd) ?_);intro _ ds h0;cases h0;refine⟨rfl,U.I0 rfl (U.no rfl (U.H6 (X4 (l:=l) (d:=(d+1)) (c:=c) (p0:=p0) (p1:=p1) (p2:=p2) (i:Int) (by omega) hc) ?_))⟩;intro _ ds h0;cases h0;refine⟨rfl,U.I0 rfl (U.H6 (S5 (d:=(d+1)) (c:=(c+1)) (p0:=p0) (p1:=p1) (p2:=p2) h1) ?_)⟩;intro _ ds h0;cases h0;refine⟨rfl,U.I0 rfl ?_⟩)
 (refine U.H6 (J7 (d:=(d+1)) (c:=(c+1)) (p0:=p0) (p1:=p1) (p2:=p2) h1 rfl) ?_;intro _ ds h0;cases h0;refine⟨rfl,U.I0 rfl (U.no rfl (U.H6 (J7 (d:=(d+1)) (c:=(c+1)) (p0:=p0) (p1:=p1) (p2:=p2) h1 rfl) ?_))⟩;intro _ ds h0;cases h0;refine⟨rfl,U.I0 rfl (U.no rfl (U.H6 (J7 (d:=(d+1)) (c:=(c+1)) (p0:=p0) (p1:=p1) (p2:=p2) h1 rfl) ?_))⟩;intro _ ds h0;cases h0;refine⟨rfl,U.I0 rfl (O6 (fun m=>N8.eq_1 m _ _ _ _ _ _ _ _ _ _ _) (U.no rfl ?_))⟩)
 (refine U.H6 (J7 (d:=(d+1)) (c:=(c+1)) (p0:=p0) (p1:=p1) (p2:=p2) h1 rfl) ?_;intro _ ds h0;cases h0;refine⟨rfl,U.I0 rfl (U.no rfl ?_)⟩)
 (refine U.H6 (J7 (d:=(d+1)) (c:=(c+1)) (p0:=p0) (p1:=p1) (p2:=p2) h1 rfl) ?_;intro _ ds h0;cases h0;refine⟨rfl,U.I0 rfl (U.no rfl ?_)⟩)
 (refine U.H6 (J7 (d:=(d+1)) (c:=(c+1)) (p0:=p0) (p1:=p1) (p2:=p2) h1 rfl) ?_;intro _ ds h0;cases h0;refine⟨rfl,U.I0 rfl (U.no rfl ?_)⟩)
 (refine U.H6 (N6 (d:=(d+1)) (c:=(c+1)) (p0:=p0) (p1:=p1) (p2:=p2) hl h1 rfl) ?_;intro _ ds h0;cases h0;refine⟨rfl,U.I0 rfl (U.I0 rfl ?_)⟩)
 refine U.H6 A ?_
 rintro _ ds ⟨y,hy,h0⟩;cases h0
 refine⟨rfl,U.I0 rfl ?_⟩
 (refine O6 (fun m=>M0.eq_1 m _ _ _ _ _ _ _ _ _) (U.H6 (fS (l:=l) (d:=d) (c:=(c+1+(qS 4 s:Int))) (p0:=p0) (p1:=p1) (p2:=p2) _ (by omega) hd) ?_);intro _ ds h0;cases h0;refine⟨rfl,U.I0 rfl ?_⟩)
 refine U.ret ⟨_,AO (i:=a1) (j:=b1) (l:=e1) jI.nil jI.nil (by simp) (by simp) (by simp) (by simp) (by simp) (Rl.one hy) Rl.nil Rl.nil Rl.nil Rl.nil,?_⟩
 rw [show c+((1+qS 4 s:Nat):Int)=c+1+(qS 4 s:Int) from by omega]
 rfl
theorem Gz {s:D}(hs:sE 4 s){i:Nat}(ht:K0 l i ([(1,lU),(3,[64]),(3,[40]),(1,CT),(1,vZ),(3,[41])]++wS 4 s))(hN:Js l (i+(6+(wS 4 s).length))):Pi (fun m=>O0 m) l i (6+(wS 4 s).length) (1+qS 4 s) (OI (n+1) (I 6 vZ [] false [] [] [s] [] [] [] [])) 16:=by
 have ht:K0 l i ((1,lU)::(3,[64])::(3,[40])::(1,CT)::(1,vZ)::(3,[41])::wS 4 s):=ht
 obtain⟨a1,b1,e1,h1⟩:=J8 ht
 have ht:=K7 ht
 obtain⟨a2,b2,e2,h2⟩:=J8 ht
 have ht:=K7 ht
 obtain⟨a3,b3,e3,h3⟩:=J8 ht
 have ht:=K7 ht
 obtain⟨a4,b4,e4,h4⟩:=J8 ht
 have ht:=K7 ht
 obtain⟨a5,b5,e5,h5⟩:=J8 ht
 have ht:=K7 ht
 obtain⟨a6,b6,e6,h6⟩:=J8 ht
 have h7:=K7 ht
 intro d c p0 p1 p2 hd hd2 hc hc2
 have I:=aA3 hl 4 s hs _ h7 (fun _=>by rw [show i+1+1+1+1+1+1+(wS 4 s).length=i+(6+(wS 4 s).length) from by omega];exact hN) (d+1) (c+1) p0 p1 p2 (by omega) (by show d+1+14≤40;omega) (by omega) (by omega)
 have A:U (fun m=>aS m (.agg [.int .i64 a1,.int .i64 b1,.int .i64 e1]) (.Z 5 l) ((i+1:Nat):Int) (d+1:Int) (c+1:Int) p0 p1 p2 (0:Int)) fun r=>∃ y,OS 4 s y∧r=(true,[AJ 6 a1 b1 e1 vZ [] false [] [] [y] [] [] [] [],.Z 5 l,.int .i64 ((i+(6+(wS 4 s).length):Nat):Int),.int .i64 (d+1),.int .i64 (c+1+(qS 4 s:Int)),.int .i64 p0,.int .i64 p1,.int .i64 p2,.int .i64 0]):=by
  refine U.eq (fun m=>oV m a1 b1 e1 l _ (d+1) (c+1) p0 p1 p2 0) (U.H6 (O7 (d:=(d+1)) (c:=(c+1)) (p0:=p0) (p1:=p1) (p2:=p2) hl [[64]] (by decide) (P5 h2 rfl)) ?_)
  (intro _ ds h0;cases h0;refine⟨rfl,U.I0 rfl ?_⟩)
  refine U.H6 (J7 (d:=(d+1)) (c:=(c+1)) (p0:=p0) (p1:=p1) (p2:=p2) h3 rfl) ?_
  (intro _ ds h0;cases h0;refine⟨rfl,U.I0 rfl ?_⟩)
  refine U.I0 rfl (U.H6 (O7 (d:=(d+1)) (c:=(c+1)) (p0:=p0) (p1:=p1) (p2:=p2) hl [[40]] (by decide) (P5 h3 rfl)) ?_)
  (intro _ ds h0;cases h0;refine⟨rfl,U.I0 rfl ?_⟩)
  refine U.H6 (N6 (d:=(d+1)) (c:=(c+1)) (p0:=p0) (p1:=p1) (p2:=p2) hl h4 rfl) ?_
  (intro _ ds h0;cases h0;refine⟨rfl,U.I0 rfl ?_⟩)
  refine U.I0 rfl (U.H6 (kB (d:=(d+1)) (c:=(c+1)) (p0:=p0) (p1:=p1) (p2:=p2) hl h5 (by kernel_rfl)) ?_)
  (intro _ ds h0;cases h0;refine⟨rfl,U.I0 rfl ?_⟩)
  refine U.H6 (O7 (d:=(d+1)) (c:=(c+1)) (p0:=p0) (p1:=p1) (p2:=p2) hl [[41]] (by decide) (P5 h6 rfl)) ?_
  (intro _ ds h0;cases h0;refine⟨rfl,U.I0 rfl ?_⟩)
  refine O6 (fun m=>dC.eq_1 m _ _ _ _ _ _ _ _ _ _ _ _ _) (U.H6 I ?_)
  rintro _ ds ⟨y,hy,h0⟩;cases h0
  have hy0:=hy
  obtain⟨k5,i5,j5,l5,t5,es5,bs5,zs5,es6,bs6,zs6,_,rfl⟩:=rQ hy
  refine⟨rfl,U.I0 rfl (U.ret ⟨_,hy0,?_⟩)⟩
  rw [show i+(6+(wS 4 s).length)=i+1+1+1+1+1+1+(wS 4 s).length from by omega]
  rfl
 (refine U.eq (fun m=>P3 m l i d c p0 p1 p2 0) (U.H6 (kG (l:=l) (d:=d) (c:=c) (p0:=p0) (p1:=p1) (p2:=p2) (i:Int) (by omega) hd) ?_);intro _ ds h0;cases h0;refine⟨rfl,U.I0 rfl (U.no rfl (U.H6 (X4 (l:=l) (d:=(d+1)) (c:=c) (p0:=p0) (p1:=p1) (p2:=p2) (i:Int) (by omega) hc) ?_))⟩;intro _ ds h0;cases h0;refine⟨rfl,U.I0 rfl (U.H6 (S5 (d:=(d+1)) (c:=(c+1)) (p0:=p0) (p1:=p1) (p2:=p2) h1) ?_)⟩;intro _ ds h0;cases h0;refine⟨rfl,U.I0 rfl ?_⟩)
 (refine U.H6 (J7 (d:=(d+1)) (c:=(c+1)) (p0:=p0) (p1:=p1) (p2:=p2) h1 rfl) ?_;intro _ ds h0;cases h0;refine⟨rfl,U.I0 rfl (U.no rfl (U.H6 (J7 (d:=(d+1)) (c:=(c+1)) (p0:=p0) (p1:=p1) (p2:=p2) h1 rfl) ?_))⟩;intro _ ds h0;cases h0;refine⟨rfl,U.I0 rfl (U.no rfl (U.H6 (J7 (d:=(d+1)) (c:=(c+1)) (p0:=p0) (p1:=p1) (p2:=p2) h1 rfl) ?_))⟩;intro _ ds h0;cases h0;refine⟨rfl,U.I0 rfl (O6 (fun m=>N8.eq_1 m _ _ _ _ _ _ _ _ _ _ _) (U.no rfl ?_))⟩)
 (refine U.H6 (J7 (d:=(d+1)) (c:=(c+1)) (p0:=p0) (p1:=p1) (p2:=p2) h1 rfl) ?_;intro _ ds h0;cases h0;refine⟨rfl,U.I0 rfl (U.no rfl ?_)⟩)
 (refine U.H6 (J7 (d:=(d+1)) (c:=(c+1)) (p0:=p0) (p1:=p1) (p2:=p2) h1 rfl) ?_;intro _ ds h0;cases h0;refine⟨rfl,U.I0 rfl (U.no rfl ?_)⟩)
 (refine U.H6 (J7 (d:=(d+1)) (c:=(c+1)) (p0:=p0) (p1:=p1) (p2:=p2) h1 rfl) ?_;intro _ ds h0;cases h0;refine⟨rfl,U.I0 rfl (U.no rfl ?_)⟩)
 (refine U.H6 (N6 (d:=(d+1)) (c:=(c+1)) (p0:=p0) (p1:=p1) (p2:=p2) hl h1 rfl) ?_;intro _ ds h0;cases h0;refine⟨rfl,U.I0 rfl (U.I0 rfl ?_)⟩)
 refine U.H6 A ?_
 rintro _ ds ⟨y,hy,h0⟩;cases h0
 refine⟨rfl,U.I0 rfl ?_⟩
 (refine O6 (fun m=>M0.eq_1 m _ _ _ _ _ _ _ _ _) (U.H6 (fS (l:=l) (d:=d) (c:=(c+1+(qS 4 s:Int))) (p0:=p0) (p1:=p1) (p2:=p2) _ (by omega) hd) ?_);intro _ ds h0;cases h0;refine⟨rfl,U.I0 rfl ?_⟩)
 refine U.ret ⟨_,AO (i:=a1) (j:=b1) (l:=e1) jI.nil jI.nil (by simp) (by simp) (by simp) (by simp) (by simp) (Rl.one hy) Rl.nil Rl.nil Rl.nil Rl.nil,?_⟩
 rw [show c+((1+qS 4 s:Nat):Int)=c+1+(qS 4 s:Int) from by omega]
 rfl
theorem Ux {k:UInt8}{ps qs:List D}(hg:qQ [117,48+k]=true)(hp:ps.length≤2)(hq:qs.length≤2)(hpc:∀ c∈ps,xC c)(hqc:∀ c∈qs,xC c){i:Nat}(ht:K0 l i ([(1,uN)]++((bif ps.isEmpty then [] else [(3,[35])]++oI ps)++([(1,[117,48+k])]++(oI qs++[(3,[59])]))))) :
  Pi (fun m=>O0 m) l i ((bif ps.isEmpty then 0 else 1+(oI ps).length)+(oI qs).length+3) 1 (OI (n+1) (I 8 [117,48+k] uN false [] [] [] [] [] ps qs)) 16:=by
 have ht:=eI ht
 obtain⟨a1,b1,e1,h1⟩:=J8 ht
 obtain⟨h2,h3⟩:=K4.1 (K7 ht)
 have eP:((bif ps.isEmpty then [] else [(3,[35])]++oI ps):List Tk).length=(bif ps.isEmpty then 0 else 1+(oI ps).length):=by cases ps.isEmpty<;>simp only [cond_true,cond_false,G0]<;>omega
 rw [eP] at h3
 have h3:=eI h3
 obtain⟨a3,b3,e3,g3⟩:=J8 h3
 obtain⟨h4,h5⟩:=K4.1 (K7 h3)
 obtain⟨a5,b5,e5,h5⟩:=J8 h5
 intro d c p0 p1 p2 hd hd2 hc hc2
 have J:∀ ps' r1,Rl OC ps ps'→r1=[.str uN,.Z 5 l,.int .i64 ((i+1:Nat):Int),.int .i64 (d+1),.int .i64 (c+1),.int .i64 p0,.int .i64 p1,.int .i64 p2,.int .i64 0]→U (fun m=>iG m l ((i+1+(bif ps.isEmpty then 0 else 1+(oI ps).length):Nat):Int) (d+1) (c+1) p0 p1 p2 0 ps' a1 b1 e1 r1) fun r=>∃ ps' qs',Rl OC ps ps'∧Rl OC qs qs'∧r=(true,[AJ 8 a1 b1 e1 [117,48+k] uN false [] [] [] [] [] ps' qs',.Z 5 l,.int .i64 ((i+((bif ps.isEmpty then 0 else 1+(oI ps).length)+(oI qs).length+3):Nat):Int),.int .i64 (d+1),.int .i64 (c+1),.int .i64 p0,.int .i64 p1,.int .i64 p2,.int .i64 0]):=by
  intro ps' r1 hp' hr1
  subst hr1
  refine O6 (fun m=>iG.eq_1 m _ _ _ _ _ _ _ _ _ _ _ _ _) (U.H6 (kB (d:=(d+1)) (c:=(c+1)) (p0:=p0) (p1:=p1) (p2:=p2) hl g3 hg) ?_)
  (intro _ ds h0;cases h0;refine⟨rfl,U.I0 rfl ?_⟩)
  refine U.H6 (YL hl (by omega) hqc h4 (d+1) (c+1) p0 p1 p2 (by omega) (by omega)) ?_
  rintro _ ds ⟨qs',hq',h0⟩;cases h0
  refine⟨rfl,U.I0 rfl (U.H6 (O7 (d:=(d+1)) (c:=(c+1)) (p0:=p0) (p1:=p1) (p2:=p2) hl [[59]] (by decide) (P5 h5 rfl)) ?_)⟩
  (intro _ ds h0;cases h0;refine⟨rfl,U.I0 rfl ?_⟩)
  refine U.ret ⟨ps',qs',hp',hq',?_⟩
  rw [show i+((bif ps.isEmpty then 0 else 1+(oI ps).length)+(oI qs).length+3)=i+1+(bif ps.isEmpty then 0 else 1+(oI ps).length)+1+(oI qs).length+1 from by omega]
  rfl
 have A:U (fun m=>dF m (.agg [.int .i64 a1,.int .i64 b1,.int .i64 e1]) (.Z 5 l) (i:Int) (d+1:Int) (c+1:Int) p0 p1 p2 (0:Int)) fun r=>∃ ps' qs',Rl OC ps ps'∧Rl OC qs qs'∧r=(true,[AJ 8 a1 b1 e1 [117,48+k] uN false [] [] [] [] [] ps' qs',.Z 5 l,.int .i64 ((i+((bif ps.isEmpty then 0 else 1+(oI ps).length)+(oI qs).length+3):Nat):Int),.int .i64 (d+1),.int .i64 (c+1),.int .i64 p0,.int .i64 p1,.int .i64 p2,.int .i64 0]):=by
  refine U.eq (fun m=>AX m a1 b1 e1 l _ (d+1) (c+1) p0 p1 p2 0) (U.H6 (kB (d:=(d+1)) (c:=(c+1)) (p0:=p0) (p1:=p1) (p2:=p2) hl h1 (by kernel_rfl)) ?_)
  (intro _ ds h0;cases h0;refine⟨rfl,U.I0 rfl ?_⟩)
  cases ps with
  |nil=>
   have g3:l[i+1]? = _:=g3
   refine U.H6 (J7 (d:=(d+1)) (c:=(c+1)) (p0:=p0) (p1:=p1) (p2:=p2) g3 rfl) ?_
   (intro _ ds h0;cases h0;refine⟨rfl,U.I0 rfl ?_⟩)
   exact U.no rfl (J [] _ Rl.nil rfl)
  |cons p0' pr=>
   have h2:=eI (show K0 l (i+1) ([(3,[35])]++oI (p0'::pr)) from h2)
   obtain⟨a6,b6,e6,h6⟩:=J8 h2
   refine U.H6 (N6 (d:=(d+1)) (c:=(c+1)) (p0:=p0) (p1:=p1) (p2:=p2) hl h6 rfl) ?_
   (intro _ ds h0;cases h0;refine⟨rfl,U.I0 rfl ?_⟩)
   refine U.I0 rfl (U.H6 (YL hl (by omega) hpc (K7 h2) (d+1) (c+1) p0 p1 p2 (by omega) (by omega)) ?_)
   rintro _ ds ⟨ps',hp',h0⟩;cases h0
   refine⟨rfl,U.I0 rfl ?_⟩
   have K:=J ps' _ hp' rfl
   rw [show i+1+(bif (p0'::pr).isEmpty then 0 else 1+(oI (p0'::pr)).length)=i+1+1+(oI (p0'::pr)).length from by show i+1+(1+_)=_;omega] at K
   exact K
 (refine U.eq (fun m=>P3 m l i d c p0 p1 p2 0) (U.H6 (kG (l:=l) (d:=d) (c:=c) (p0:=p0) (p1:=p1) (p2:=p2) (i:Int) (by omega) hd) ?_);intro _ ds h0;cases h0;refine⟨rfl,U.I0 rfl (U.no rfl (U.H6 (X4 (l:=l) (d:=(d+1)) (c:=c) (p0:=p0) (p1:=p1) (p2:=p2) (i:Int) (by omega) hc) ?_))⟩;intro _ ds h0;cases h0;refine⟨rfl,U.I0 rfl (U.H6 (S5 (d:=(d+1)) (c:=(c+1)) (p0:=p0) (p1:=p1) (p2:=p2) h1) ?_)⟩;intro _ ds h0;cases h0;refine⟨rfl,U.I0 rfl ?_⟩)
 (refine U.H6 (J7 (d:=(d+1)) (c:=(c+1)) (p0:=p0) (p1:=p1) (p2:=p2) h1 rfl) ?_;intro _ ds h0;cases h0;refine⟨rfl,U.I0 rfl (U.no rfl (U.H6 (J7 (d:=(d+1)) (c:=(c+1)) (p0:=p0) (p1:=p1) (p2:=p2) h1 rfl) ?_))⟩;intro _ ds h0;cases h0;refine⟨rfl,U.I0 rfl (U.no rfl (U.H6 (J7 (d:=(d+1)) (c:=(c+1)) (p0:=p0) (p1:=p1) (p2:=p2) h1 rfl) ?_))⟩;intro _ ds h0;cases h0;refine⟨rfl,U.I0 rfl (O6 (fun m=>N8.eq_1 m _ _ _ _ _ _ _ _ _ _ _) (U.no rfl ?_))⟩)
 (refine U.H6 (J7 (d:=(d+1)) (c:=(c+1)) (p0:=p0) (p1:=p1) (p2:=p2) h1 rfl) ?_;intro _ ds h0;cases h0;refine⟨rfl,U.I0 rfl (U.no rfl ?_)⟩)
 (refine U.H6 (J7 (d:=(d+1)) (c:=(c+1)) (p0:=p0) (p1:=p1) (p2:=p2) h1 rfl) ?_;intro _ ds h0;cases h0;refine⟨rfl,U.I0 rfl (U.no rfl ?_)⟩)
 (refine U.H6 (J7 (d:=(d+1)) (c:=(c+1)) (p0:=p0) (p1:=p1) (p2:=p2) h1 rfl) ?_;intro _ ds h0;cases h0;refine⟨rfl,U.I0 rfl (U.no rfl ?_)⟩)
 (refine U.H6 (J7 (d:=(d+1)) (c:=(c+1)) (p0:=p0) (p1:=p1) (p2:=p2) h1 rfl) ?_;intro _ ds h0;cases h0;refine⟨rfl,U.I0 rfl (U.no rfl ?_)⟩)
 (refine U.H6 (J7 (d:=(d+1)) (c:=(c+1)) (p0:=p0) (p1:=p1) (p2:=p2) h1 rfl) ?_;intro _ ds h0;cases h0;refine⟨rfl,U.I0 rfl (U.no rfl ?_)⟩)
 (refine U.H6 (J7 (d:=(d+1)) (c:=(c+1)) (p0:=p0) (p1:=p1) (p2:=p2) h1 rfl) ?_;intro _ ds h0;cases h0;refine⟨rfl,U.I0 rfl (U.no rfl ?_)⟩)
 (refine U.H6 (J7 (d:=(d+1)) (c:=(c+1)) (p0:=p0) (p1:=p1) (p2:=p2) h1 rfl) ?_;intro _ ds h0;cases h0;refine⟨rfl,U.I0 rfl (U.no rfl ?_)⟩)
 (refine U.H6 (J7 (d:=(d+1)) (c:=(c+1)) (p0:=p0) (p1:=p1) (p2:=p2) h1 rfl) ?_;intro _ ds h0;cases h0;refine⟨rfl,U.I0 rfl (U.no rfl ?_)⟩)
 refine U.H6 A ?_
 rintro _ ds ⟨ps',qs',hp',hq',h0⟩;cases h0
 refine⟨rfl,U.I0 rfl (U.H6 (fS (l:=l) (d:=d) (c:=(c+1)) (p0:=p0) (p1:=p1) (p2:=p2) _ (by omega) hd) ?_)⟩
 intro _ ds h0;cases h0
 exact⟨rfl,U.I0 rfl (U.ret ⟨_,AO (i:=a1) (j:=b1) (l:=e1) jI.nil jI.nil (by simp) (by simp) (by simp) (by omega) (by omega) Rl.nil Rl.nil Rl.nil hp' hq',rfl⟩)⟩
end
end
end Go.Proofs.YtalibicpmfbieaaGreatDoor
