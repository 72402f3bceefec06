import Derived.Test.YtalibicpmfbieaaGreatDoorM1
namespace Go.Proofs.YtalibicpmfbieaaGreatDoor
open Go.AE
set_option linter.all false
section
theorem ZR {b:List D}{a0:Int}(hm:Mk b a0):U (fun n=>eE n (.Z 1 b) a0) fun r=>∃ x a',r=(true,[x,.Z 1 b,.int .i64 a'])∧isLeft x∧Mk b a'∧a0≤a'∧((wE 4 x).length:Int)≤13*(a'-a0)+1:=by
 refine U.eq (fun n=>RI n b a0) ?_
 (refine U.H6 (O9 (by decide) (by decide) (by assumption)) ?_;rintro _ _ ⟨v,a,h,hv0,hv1,hm,hq1,hq2⟩;cases h;(try simp only [Y,D.i] at hq1 hq2);refine⟨rfl,?_⟩)
 refine U.I0 rfl ?_
 refine U.I0 (K3 (E6 hv0) (E6 hv1)) ?_
 have hv:v=0∨v=1∨v=2:=by omega
 have fin:∀ (k:Int),(v=0∧k=2∨v=1∧k=8∨v=2∧k=9)→U (fun n=>AE.H6 (R7 n (.Z 1 b) a) fun r2=>bif J3 R7.I6 r2 then
   (AE.H6 (J0 n (2:Int) v (.Z 1 (Y r2 1).l) (.int .i64 (Y r2 2).i)) fun r3=>bif J3 J0.I6 r3 then
    (some (true,[(.agg [k,(0:Int),(0:Int),(0:Int),(.str (Y r2 0).s),(.Z 6 (Y r3 2).l)]),(.Z 1 (Y r3 0).l),(.int .i64 (Y r3 1).i)])) else none) else none)
   fun r=>∃ x a',r=(true,[x,.Z 1 b,.int .i64 a'])∧isLeft x∧Mk b a'∧a0≤a'∧((wE 4 x).length:Int)≤13*(a'-a0)+1:=by
  intro k hk
  refine U.H6 (jH hm) ?_
  rintro _ _ ⟨s,a,h,hs,hm,hq3⟩;cases h;(try simp only [Y,D.i] at hq3);refine⟨rfl,?_⟩
  refine U.I0 rfl ?_
  refine U.H6 (cK 1 (by decide) (c:=v) hv0 (by omega) hm) ?_
  rintro _ _ ⟨xs,a,h,hl,hx,hm,hq4,hq5⟩;cases h;(try simp only [Y,D.i] at hq4 hq5);refine⟨rfl,?_⟩
  refine U.I0 rfl ?_
  refine U.ret ⟨E k s xs,a,rfl,⟨k,s,xs,rfl,hs,?_,hx⟩,hm,by omega,?_⟩
  rcases hk with ⟨e1,e2⟩|⟨e1,e2⟩|⟨e1,e2⟩
  ·exact .inl ⟨e2,by rw [hl,e1];rfl⟩
  ·exact .inr (.inl ⟨e2,by rw [hl,e1];rfl⟩)
  ·exact .inr (.inr ⟨e2,by rw [hl,e1];rfl⟩)
  ·rcases hk with ⟨e1,e2⟩|⟨e1,e2⟩|⟨e1,e2⟩
   ·subst e2
    have:xs=[]:=E5.1 (by omega)
    subst this
    rw [tA (.inr rfl)];omega
   ·subst e2
    have:=QX (w:=wE 3) (k:=8) (t:=s) (ar:=xs) (by decide) (.inr (.inr (.inr (.inr (.inr (.inr (.inr (.inl ⟨rfl,hs,by omega⟩))))))))
    rw [HZ,← MO (w:=wE 4) (v:=wE 3) fun x h=>(QE (by decide) (hx x h)).trans (QE (by decide) (hx x h)).symm] at *
    omega
   ·subst e2
    have:=QX (w:=wE 3) (k:=9) (t:=s) (ar:=xs) (by decide) (.inr (.inr (.inr (.inr (.inr (.inr (.inr (.inr (.inl ⟨rfl,hs,by omega⟩)))))))))
    rw [HZ,← MO (w:=wE 4) (v:=wE 3) fun x h=>(QE (by decide) (hx x h)).trans (QE (by decide) (hx x h)).symm] at *
    omega
 rcases hv with rfl|rfl|rfl
 ·exact U.I0 rfl (fin 2 (.inl ⟨rfl,rfl⟩))
 ·exact U.I0 rfl (fin 8 (.inr (.inl ⟨rfl,rfl⟩)))
 ·exact U.I0 rfl (fin 9 (.inr (.inr ⟨rfl,rfl⟩)))
theorem Zk {n:Nat}{t:G1}{es bs zs:List D}:(vS (n+1) (S 1 t es bs zs)).length=sL (vS n) bs+4:=by
 show (du++([(1,V9)]++(bs.flatMap (vS n)++[(1,fF)])):List Tk).length=_
 simp only [du,G0,xK];omega
theorem Zl {n:Nat}{k:Int}{t:G1}{l e:D}{bs zs:List D}(hk:k=2∨k=3):(vS (n+1) (S k t [l,e] bs zs)).length=(wE 4 l).length+(wE 4 e).length+4:=by
 rcases hk with rfl|rfl
 ·show (du++(wE 4 l++([(3,[61])]++(wE 4 e++[(3,[59])]))):List Tk).length=_
  simp only [du,G0];omega
 ·show (du++(wE 4 l++([(3,[60,61])]++(wE 4 e++[(3,[59])]))):List Tk).length=_
  simp only [du,G0];omega
theorem Zm {n:Nat}{t:G1}{es zs:List D}{b c:D}(hl:es.length=1):(vS (n+1) (S 4 t es [b,c] zs)).length≤sL (wE 4) es+(vS n b).length+(bif (c.at_ 0).i==8 then 0 else 1+(vS n c).length)+5:=by
 match es,hl with
 |[e],_=>
  show (du++([(1,uI)]++(pW e++(vS n b++(bif (c.at_ 0).i==8 then [] else [(1,dR)]++vS n c)))):List Tk).length≤_
  cases (c.at_ 0).i==8<;>simp only [cond_true,cond_false,sL,pW,du,G0]<;>omega
theorem Tr {n:Nat}{t:G1}{es bs zs:List D}(hl:es.length=1):(vS (n+1) (S 5 t es bs zs)).length=sL (wE 4) es+sL (iM (vS n)) zs+6:=by
 match es,hl with
 |[e],_=>
  show (du++([(1,pB)]++(pW e++(zs.flatMap (iM (vS n))++[(1,dW)]))):List Tk).length=_
  simp only [sL,pW,xK,du,G0];omega
theorem Ey {t:G1}{es:List D}(hl:es.length=3):(bR t es).length=sL (wE 4) es+9:=by
 match es,hl with
 |[a,b,c],_=>
  show ([(1,yF),(3,[40]),(1,t),(3,[61])]++(wE 4 a++([(3,[59])]++(wE 4 b++([(3,[59]),(1,t),(3,[61])]++(wE 4 c++[(3,[41])]))))):List Tk).length=_
  simp only [sL,G0];omega
theorem Zn {n:Nat}{t:G1}{es zs:List D}{b:D}(hl:es.length=3):(vS (n+1) (S 6 t es [b] zs)).length=sL (wE 4) es+(vS n b).length+11:=by
 show (du++(bR t es++vS n b):List Tk).length=_
 rw [A7,A7,Ey hl]
 show 2+_=_
 omega
theorem Zo {n:Nat}{t:G1}{es bs zs:List D}(hl:es.length=1):(vS (n+1) (S 7 t es bs zs)).length=sL (wE 4) es+(bif t.isEmpty then 0 else 2)+6:=by
 match es,hl with
 |[e],_=>
  show (du++((bif t.isEmpty then [] else [(1,t),(3,[58])])++([(1,pK)]++(pW e++[(3,[59])]))):List Tk).length=_
  cases t.isEmpty<;>simp only [cond_true,cond_false,sL,pW,du,G0]<;>omega
theorem Kg {w:D→List Tk}{es:List D}{k:Int}{t:G1}{fs bs zs:List D}:(iM w (arm es (S k t fs bs zs))).length=(bif es.isEmpty then 1 else 0)+(lW (wE 4) es).length+1+(w (S k t fs bs zs)).length:=by
 show ((bif es.isEmpty then [(1,wA)] else [])++(lW (wE 4) es++([(3,[58])]++w (S k t fs bs zs))):List Tk).length=_
 cases es.isEmpty<;>simp only [cond_true,cond_false,G0]<;>omega
section
variable {d:Nat} {deep:Int} {b:List D} {a a0 v:Int}
def Ff (d:Nat)(deep:Int):Prop:=∀ b a,Mk b a→U (fun n=>M8 n (IntKind.i64.wrap (deep-1):Int) (.Z 1 b) a) (fun r=>∃ x a',r=(true,[x,.Z 1 b,.int .i64 a'])∧sE (d) x∧Mk b a'∧a≤a'∧((vS (d) x).length:Int)≤17*(a'-a)+6)
theorem Hv (hS:Ff d deep):∀ (c:Nat) (bs:List D) (a:Int),c≤3→bs.length+c≤3→(∀ x∈bs,sE d x)→Mk b a→
  U (fun n=>bD n deep (c:Int) (.Z 1 b) a (0:Int) (.str []) (1:Int) (.str []) (.Z 6 []) (.Z 5 []) (.Z 6 []) (.Z 6 []) (.Z 5 bs) (.Z 6 []))
   fun r=>∃ (q:Int) (bs':List D) (a':Int),r=(false,[.int .i64 deep,.int .i64 q,.Z 1 b,.int .i64 a',.int .i64 0,.str [],.int .i64 1,.str [],.Z 6 [],.Z 5 [],.Z 6 [],.Z 6 [],.Z 5 bs',.Z 6 []])∧bs'.length≤3∧(∀ x∈bs',sE d x)∧Mk b a'∧a≤a'∧(sL (vS d) bs':Int)≤sL (vS d) bs+17*(a'-a)+6*c:=by
 intro c
 induction c with
 |zero=>
  intro bs a hc hl hb hm
  exact U.eq (fun n=>rB n _ _ _ _ _ _ _ _ _ _ _ _ _ _) (U.no rfl (U.ret ⟨_,bs,a,rfl,by omega,hb,hm,by omega,by omega⟩))
 |succ c ih=>
  intro bs a hc hl hb hm
  have hw:IntKind.i64.wrap (((c+1:Nat):Int)-1)=(c:Int):=by rw [Q3 (by omega) (by omega)];omega
  refine U.eq (fun n=>rB n _ _ _ _ _ _ _ _ _ _ _ _ _ _) (U.I0 (E6 (by omega)) (U.H6 (hS b a hm) ?_))
  rintro _ _ ⟨x,a',h,hx,hm,hq1,hq2⟩
  cases h
  have hx0:=hx
  cases d with
  |zero=>exact hx.elim
  |succ d=>
   obtain⟨k,t,es,bs',zs,rfl,_⟩:=hx
   rw [hw]
   refine⟨rfl,U.I0 rfl (U.I0 (B2 (by simp only [L7];omega)) ((ih (bs++[S k t es bs' zs]) a' (by omega) (by simp;omega) (fun y hy=>?_) hm).mono fun r hr=>?_))⟩
   ·rcases D3.1 hy with hy|hy
    ·exact hb y hy
    ·rw [C3.1 hy];exact hx0
   obtain⟨q,bs2,a2,g1,g2,g3,g4,g5,g6⟩:=hr
   rw [oZ] at g6
   exact⟨q,bs2,a2,g1,g2,g3,g4,by omega,by omega⟩
theorem Mp (hS:Ff d deep)(es:List D):∀ (c:Nat) (zs:List D) (a:Int),c≤3→zs.length+c≤3→(∀ x∈zs,Xb d x)→Mk b a→
  U (fun n=>bE n deep (c:Int) (.Z 1 b) a (0:Int) (.str []) (5:Int) (.str []) (.Z 6 []) (.Z 5 []) (.Z 6 []) (.Z 6 es) (.Z 5 []) (.Z 6 zs))
   fun r=>∃ (q:Int) (zs':List D) (a':Int),r=(false,[.int .i64 deep,.int .i64 q,.Z 1 b,.int .i64 a',.int .i64 0,.str [],.int .i64 5,.str [],.Z 6 [],.Z 5 [],.Z 6 [],.Z 6 es,.Z 5 [],.Z 6 zs'])∧zs'.length=zs.length+c∧(∀ x∈zs',Xb d x)∧Mk b a'∧a≤a'∧(sL (iM (vS d)) zs':Int)≤sL (iM (vS d)) zs+17*(a'-a)+8*c:=by
 intro c
 induction c with
 |zero=>
  intro zs a hc hl hb hm
  exact U.eq (fun n=>rC n _ _ _ _ _ _ _ _ _ _ _ _ _ _) (U.no rfl (U.ret ⟨_,zs,a,rfl,rfl,hb,hm,by omega,by omega⟩))
 |succ c ih=>
  intro zs a hc hl hb hm
  have hw:IntKind.i64.wrap (((c+1:Nat):Int)-1)=(c:Int):=by rw [Q3 (by omega) (by omega)];omega
  refine U.eq (fun n=>rC n _ _ _ _ _ _ _ _ _ _ _ _ _ _) (U.I0 (E6 (by omega)) ?_)
  rw [hw]
  (refine U.H6 (O9 (by decide) (by decide) (by assumption)) ?_;rintro _ _ ⟨v,a,h,hv0,hv1,hm,hq1,hq2⟩;cases h;(try simp only [Y,D.i] at hq1 hq2);refine⟨rfl,?_⟩)
  refine U.I0 rfl ?_
  have e2:IntKind.i64.wrap (1+v)=1+v:=Q3 (by omega) (by omega)
  refine U.H6 (cK 0 (by decide) (c:=IntKind.i64.wrap (1+v)) (by rw [e2];omega) (by rw [e2];omega) hm) ?_
  rintro _ _ ⟨xs,a,h,hl2,hxs,hm,hq3,hq4⟩;cases h;(try simp only [Y,D.i] at hq3 hq4);refine⟨rfl,?_⟩
  rw [e2] at hl2 hq4
  refine U.I0 rfl ?_
  refine U.H6 (hS b a hm) ?_
  rintro _ _ ⟨x,a',h,hx,hm,hq5,hq6⟩
  cases h
  have hx0:=hx
  cases d with
  |zero=>exact hx.elim
  |succ d=>
   obtain⟨k,t,es',bs',zs',rfl,_⟩:=hx
   refine⟨rfl,U.I0 rfl (U.I0 (B2 (by simp only [L7];omega)) ((ih (zs++[arm xs (S k t es' bs' zs')]) a' (by omega) (by simp;omega) (fun y hy=>?_) hm).mono fun r hr=>?_))⟩
   ·rcases D3.1 hy with hy|hy
    ·exact hb y hy
    ·rw [C3.1 hy]
     exact⟨xs,_,rfl,by omega,fun e he=>fZ (by decide) (hxs e he),hx0⟩
   ·obtain⟨q,as2,a2,h1,h2,h3,h4,h5,h6⟩:=hr
    have hw1:=xL (wE 4) xs (by omega)
    have hne:xs.isEmpty=false:=by
     cases xs with
     |nil=>simp at hl2;omega
     |cons=>rfl
    rw [oZ,Kg,hne] at h6
    simp only [cond_false] at h6
    exact⟨q,as2,a2,h1,by rw [h2];simp;omega,h3,h4,by omega,by omega⟩
theorem Fh (k:Int)(hk:k=2∨k=3)(hm:Mk b a)(ha:a0≤a) :
  U (fun n=>AE.H6 (eE n (.Z 1 b) a) fun r2=>bif J3 eE.I6 r2 then (AE.H6 (P9 n (3:Int) (.Z 1 (Y r2 1).l) (.int .i64 (Y r2 2).i)) fun r3=>bif J3 P9.I6 r3 then
   (some (true,[(.agg [.int .i64 k,(.str ([]:G1)),(.Z 6 ([(J6 I5 (Y r2 0)),(J6 I5 (Y r3 0))]:List D)),(.Z 5 ([]:List D)),(.Z 6 ([]:List D))]),(.Z 1 (Y r3 1).l),.int .i64 (Y r3 2).i])) else none) else none) (fun r=>∃ x a',r=(true,[x,.Z 1 b,.int .i64 a'])∧sE (d+1) x∧Mk b a'∧a0≤a'∧((vS (d+1) x).length:Int)≤17*(a'-a0)+6):=by
 refine U.H6 (ZR hm) ?_
 rintro _ _ ⟨l,a,h,hl,hm,hq1,hq2⟩;cases h;(try simp only [Y,D.i] at hq1 hq2)
 have hl0:=hl
 obtain⟨k1,t1,ar1,rfl,_⟩:=hl
 refine⟨rfl,U.I0 rfl (U.H6 (TT 2 (by decide) hm) ?_)⟩
 rintro _ _ ⟨e,a,h,he,hm,hq3,hq4⟩;cases h;(try simp only [Y,D.i] at hq3 hq4)
 have he0:=he
 obtain⟨k2,t2,ar2,rfl,_⟩:=he
 refine⟨rfl,U.I0 rfl (U.ret ⟨S k [] [E k1 t1 ar1,E k2 t2 ar2] [] [],a,rfl,⟨k,[],_,[],[],rfl,fun x hx=>?_,fun _ h=>(by cases h),fun _ h=>(by cases h),.inr (.inl ⟨hk,rfl,⟨_,_,rfl,hl0⟩,rfl,rfl⟩)⟩,hm,by omega,by rw [Zl hk];omega⟩)⟩
 rcases B7.1 hx with rfl|hx
 ·exact fZ (by decide) (uV hl0)
 ·rw [C3.1 hx];exact fZ (by decide) he0
theorem wR (hS:2≤deep→Ff d deep)(hd:2≤deep→1≤d)(hm:Mk b a){k:Int}(h0:0≤k)(h1:k≤10)(h2:3<k→2≤deep)(ha:a0≤a)(ha1:k=0∨a0+1≤a) :
  U (fun n=>kY n k [.int .i64 v,.Z 1 b,.int .i64 a] deep) (fun r=>∃ x a',r=(true,[x,.Z 1 b,.int .i64 a'])∧sE (d+1) x∧Mk b a'∧a0≤a'∧((vS (d+1) x).length:Int)≤17*(a'-a0)+6):=by
 have setT:U (fun n=>S7 n true [.int .i64 v,.Z 1 b,.int .i64 a] k deep) (fun r=>∃ x a',r=(true,[x,.Z 1 b,.int .i64 a'])∧sE (d+1) x∧Mk b a'∧a0≤a'∧((vS (d+1) x).length:Int)≤17*(a'-a0)+6):=
  O6 (fun n=>S7.eq_1 n _ _ _ _) (U.I0 rfl (Fh 2 (.inl rfl) hm ha))
 have blockT:a0+1≤a→2≤deep→U (fun n=>bF n true [.int .i64 v,.Z 1 b,.int .i64 a] deep k) (fun r=>∃ x a',r=(true,[x,.Z 1 b,.int .i64 a'])∧sE (d+1) x∧Mk b a'∧a0≤a'∧((vS (d+1) x).length:Int)≤17*(a'-a0)+6):=by
  intro hac h
  refine O6 (fun n=>bF.eq_1 n _ _ _ _) (U.I0 rfl ?_)
  refine U.H6 (O9 (k:=4) (by decide) (by decide) hm) ?_
  rintro _ _ ⟨v,a,h,hv0,hv1,hm,hq1,hq2⟩;cases h;(try simp only [Y,D.i] at hq1 hq2)
  obtain⟨c,rfl⟩:∃ c:Nat,v=(c:Int):=⟨v.toNat,by omega⟩
  refine⟨rfl,U.I0 rfl (U.L3 (Hv (hS (by assumption)) c [] a (by omega) (by simp;omega) (fun _ h=>by cases h) hm) (fun ds h=>by obtain⟨_,_,_,h,_⟩:=h;cases h) fun ds h=>?_)⟩
  obtain⟨q,bs,a,h,hl,hb,hm,hq3,hq4⟩:=h
  cases h
  exact U.I0 rfl (U.ret ⟨S 1 [] [] bs [],a,rfl,⟨1,[],[],bs,[],rfl,fun _ h=>(by cases h),hb,fun _ h=>(by cases h),.inl ⟨rfl,rfl,rfl,hl,rfl⟩⟩,hm,by omega,by rw [Zk];simp only [sL] at hq4;omega⟩)
 have uI:a0+1≤a→2≤deep→U (fun n=>dN n true [.int .i64 v,.Z 1 b,.int .i64 a] deep k) (fun r=>∃ x a',r=(true,[x,.Z 1 b,.int .i64 a'])∧sE (d+1) x∧Mk b a'∧a0≤a'∧((vS (d+1) x).length:Int)≤17*(a'-a0)+6):=by
  intro hac hdeep
  have hd1:=hd hdeep
  refine O6 (fun n=>dN.eq_1 n _ _ _ _) (U.I0 rfl ?_)
  refine U.H6 (cK 1 (by decide) (c:=1) (by decide) (by decide) hm) ?_
  rintro _ _ ⟨xs,a,h,hl,hx,hm,hq1,hq2⟩;cases h;(try simp only [Y,D.i] at hq1 hq2)
  refine⟨rfl,U.I0 rfl (U.H6 (hS hdeep b a hm) ?_)⟩
  rintro _ _ ⟨s1,a,h,hs1,hm,hq3,hq4⟩;cases h;(try simp only [Y,D.i] at hq3 hq4)
  have hs10:=hs1
  obtain⟨d',rfl⟩:∃ d',d=d'+1:=⟨d-1,by omega⟩
  obtain⟨k1,t1,es1,bs1,as1,rfl,_⟩:=hs1
  refine⟨rfl,U.I0 rfl ?_⟩
  have fin:∀ (c:D) (a:Int),(c=tX∨nT (d'+1) (S k1 t1 es1 bs1 as1)=false)→sE (d'+1) c→Mk b a→a0≤a→((sL (wE 4) xs+(vS (d'+1) (S k1 t1 es1 bs1 as1)).length+(bif (c.at_ 0).i==8 then 0 else 1+(vS (d'+1) c).length)+5:Nat):Int)≤17*(a-a0)+6→∃ x a',(true,[S 4 [] xs [S k1 t1 es1 bs1 as1,c] [],D.Z 1 b,D.int .i64 a])=(true,[x,.Z 1 b,.int .i64 a'])∧sE (d'+1+1) x∧Mk b a'∧a0≤a'∧((vS (d'+1+1) x).length:Int)≤17*(a'-a0)+6:=by
   intro c a hc hw hm hy1 hy2
   have hy3:=Zm (n:=d'+1) (t:=[]) (es:=xs) (zs:=[]) (b:=S k1 t1 es1 bs1 as1) (c:=c) hl
   refine⟨_,a,rfl,⟨4,[],xs,[S k1 t1 es1 bs1 as1,c],[],rfl,fun e he=>fZ (by decide) (hx e he),fun y hy=>?_,fun _ h=>(by cases h),.inr (.inr (.inl ⟨rfl,rfl,hl,⟨_,_,rfl,hc⟩,rfl⟩))⟩,hm,hy1,by omega⟩
   rcases B7.1 hy with rfl|hy
   ·exact hs10
   ·rw [C3.1 hy];exact hw
  refine U.H6 (O9 (k:=2) (by decide) (by decide) hm) ?_
  rintro _ _ ⟨v2,a,h,hv0,hv1,hm,hq5,hq6⟩;cases h;(try simp only [Y,D.i] at hq5 hq6)
  have nul:∀ w,(bif (tX.at_ 0).i==8 then 0 else 1+w:Nat)=0:=fun _=>rfl
  refine⟨rfl,U.I0 rfl (U.N9 (fun hv1=>?_) fun _=>U.ret (fin tX a (.inl rfl) (QF d') hm (by omega) (by rw [nul];omega)))⟩
  have hv1:v2=1:=by simpa [Y,D.i] using hv1
  refine U.H6 (Rj (d'+1) _ hs10) ?_
  intro _ ds h;cases h
  refine⟨rfl,U.I0 rfl (U.N9 (fun ho=>?_) fun _=>U.ret (fin tX a (.inl rfl) (QF d') hm (by omega) (by rw [nul];omega)))⟩
  have ho:(!(nT (d'+1) (S k1 t1 es1 bs1 as1)))=true:=ho
  refine U.H6 (hS hdeep b a hm) ?_
  rintro _ _ ⟨s2,a,h,hs2,hm,hq7,hq8⟩;cases h;(try simp only [Y,D.i] at hq7 hq8)
  have hs20:=hs2
  obtain⟨k2,t2,es2,bs2,as2,rfl,_⟩:=hs2
  refine⟨rfl,U.I0 rfl (U.ret (fin (S k2 t2 es2 bs2 as2) a (.inr (by simpa using ho)) hs20 hm (by omega) ?_))⟩
  have hb1:(bif (((S k2 t2 es2 bs2 as2).at_ 0).i==8) then 0 else 1+(vS (d'+1) (S k2 t2 es2 bs2 as2)).length:Nat)≤1+(vS (d'+1) (S k2 t2 es2 bs2 as2)).length:=by
   cases ((S k2 t2 es2 bs2 as2).at_ 0).i==8<;>simp
  omega
 have hm':=hm
 have hk:k=0∨k=1∨k=2∨k=3∨k=4∨k=5∨k=6∨k=7∨k=8∨k=9∨k=10:=by omega
 refine O6 (fun n=>kY.eq_1 n _ _ _) ?_
 rcases hk with rfl|rfl|rfl|rfl|rfl|rfl|rfl|rfl|rfl|rfl|rfl
 ·exact U.I0 rfl setT
 ·exact U.no rfl setT
 ·exact U.no rfl (O6 (fun n=>S7.eq_1 n _ _ _ _) (U.no rfl (U.I0 rfl (Fh 3 (.inr rfl) hm ha))))
 ·refine U.no rfl (O6 (fun n=>S7.eq_1 n _ _ _ _) (U.no rfl (U.no rfl (U.I0 rfl ?_))))
  refine U.H6 (O9 (k:=2) (by decide) (by decide) hm) ?_
  rintro _ _ ⟨w,a,h,hv0,hv1,hm,hq1,hq2⟩;cases h;(try simp only [Y,D.i] at hq1 hq2)
  have ha1:a0+1≤a:=by omega
  have fin:∀ t:G1,(t=[]∨t=[112,49])→U (fun n=>AE.H6 (J0 n (3:Int) (1:Int) (.Z 1 b) a) fun r3=>bif J3 J0.I6 r3 then
    (some (true,[(.agg [.int .i64 7,(.str t),(.Z 6 (Y r3 2).l),(.Z 5 ([]:List D)),(.Z 6 ([]:List D))]),(.Z 1 (Y r3 0).l),.int .i64 (Y r3 1).i])) else none) (fun r=>∃ x a',r=(true,[x,.Z 1 b,.int .i64 a'])∧sE (d+1) x∧Mk b a'∧a0≤a'∧((vS (d+1) x).length:Int)≤17*(a'-a0)+6):=by
   intro t ht
   refine U.H6 (cK 2 (by decide) (c:=1) (by decide) (by decide) hm) ?_
   rintro _ _ ⟨xs,a,h,hl,hx,hm,hq3,hq4⟩;cases h;(try simp only [Y,D.i] at hq3 hq4)
   have hb1:(bif t.isEmpty then 0 else 2:Nat)≤2:=by cases t.isEmpty<;>simp
   exact⟨rfl,U.I0 rfl (U.ret ⟨S 7 t xs [] [],a,rfl,⟨7,t,xs,[],[],rfl,fun e he=>fZ (by decide) (hx e he),fun _ h=>(by cases h),fun _ h=>(by cases h),.inr (.inr (.inr (.inr (.inr (.inl ⟨rfl,ht,hl,rfl,rfl⟩)))))⟩,hm,by omega,by rw [Zo hl];omega⟩)⟩
  have hw:w=0∨w=1:=by omega
  rcases hw with rfl|rfl
  ·exact⟨rfl,U.I0 rfl (U.I0 rfl (U.I0 rfl (fin [] (.inl rfl))))⟩
  ·exact⟨rfl,U.I0 rfl (U.I0 rfl (U.I0 rfl (fin [112,49] (.inr rfl))))⟩
 ·exact U.no rfl (O6 (fun n=>S7.eq_1 n _ _ _ _) (U.no rfl (U.no rfl (U.no rfl (U.I0 rfl (blockT (by omega) (h2 (by decide))))))))
 ·exact U.no rfl (O6 (fun n=>S7.eq_1 n _ _ _ _) (U.no rfl (U.no rfl (U.no rfl (U.no rfl (blockT (by omega) (h2 (by decide))))))))
 ·exact U.no rfl (O6 (fun n=>S7.eq_1 n _ _ _ _) (U.no rfl (U.no rfl (U.no rfl (U.no rfl (O6 (fun n=>bF.eq_1 n _ _ _ _) (U.no rfl (U.I0 rfl (uI (by omega) (h2 (by decide)))))))))))
 ·exact U.no rfl (O6 (fun n=>S7.eq_1 n _ _ _ _) (U.no rfl (U.no rfl (U.no rfl (U.no rfl (O6 (fun n=>bF.eq_1 n _ _ _ _) (U.no rfl (U.no rfl (uI (by omega) (h2 (by decide)))))))))))
 ·refine U.no rfl (O6 (fun n=>S7.eq_1 n _ _ _ _) (U.no rfl (U.no rfl (U.no rfl (U.no rfl (O6 (fun n=>bF.eq_1 n _ _ _ _) (U.no rfl (U.no rfl (O6 (fun n=>dN.eq_1 n _ _ _ _) (U.no rfl (U.I0 rfl ?_)))))))))))
  have hdeep:=h2 (by decide)
  refine U.H6 (cK 1 (by decide) (c:=1) (by decide) (by decide) hm) ?_
  rintro _ _ ⟨xs,a,h,hl,hx,hm,hq1,hq2⟩;cases h;(try simp only [Y,D.i] at hq1 hq2)
  refine⟨rfl,U.I0 rfl (U.H6 (O9 (k:=3) (by decide) (by decide) hm) ?_)⟩
  rintro _ _ ⟨w,a,h,hv0,hv1,hm,hq3,hq4⟩;cases h;(try simp only [Y,D.i] at hq3 hq4)
  obtain⟨c,rfl⟩:∃ c:Nat,w=(c:Int):=⟨w.toNat,by omega⟩
  have hw:IntKind.i64.wrap (1+(c:Int))=((c+1:Nat):Int):=by rw [Q3 (by omega) (by omega)];omega
  have L:=Mp (hS hdeep) (b:=b) xs (c+1) [] a (by omega) (by simp;omega) (fun _ h=>by cases h) hm
  rw [← hw] at L
  refine⟨rfl,U.I0 rfl (U.L3 L (fun ds h=>by obtain⟨_,_,_,h,_⟩:=h;cases h) fun ds h=>?_)⟩
  obtain⟨q,zs,a,h,hla,hb,hm,hq5,hq6⟩:=h
  cases h
  simp only [sL] at hq6
  refine U.I0 rfl (U.H6 (O9 (k:=2) (by decide) (by decide) hm) ?_)
  rintro _ _ ⟨w,a,h,hv0,hv1,hm,hq7,hq8⟩;cases h;(try simp only [Y,D.i] at hq7 hq8)
  have la:zs.length=c+1:=by rw [hla];simp
  refine⟨rfl,U.I0 rfl (U.N9 (fun hv1=>?_) fun _=>U.ret ⟨S 5 [] xs [] zs,a,rfl,⟨5,[],xs,[],zs,rfl,fun e he=>fZ (by decide) (hx e he),fun _ h=>(by cases h),hb,.inr (.inr (.inr (.inl ⟨rfl,rfl,hl,rfl,by omega,by omega⟩)))⟩,hm,by omega,by rw [Tr hl];omega⟩)⟩
  have hv1:w=1:=by simpa [Y,D.i] using hv1
  refine U.H6 (hS hdeep b a hm) ?_
  rintro _ _ ⟨s2,a,h,hs2,hm,hq9,hq10⟩;cases h;(try simp only [Y,D.i] at hq9 hq10)
  have hs20:=hs2
  have hd1:=hd hdeep
  obtain⟨d',rfl⟩:∃ d',d=d'+1:=⟨d-1,by omega⟩
  obtain⟨k2,t2,es2,bs2,as2,rfl,_⟩:=hs2
  refine⟨rfl,U.I0 rfl (U.I0 (B2 (by show zs.length+1≤L7;simp only [L7];omega)) (U.ret ⟨S 5 [] xs [] (zs++[arm [] (S k2 t2 es2 bs2 as2)]),a,rfl,⟨5,[],xs,[],_,rfl,fun e he=>fZ (by decide) (hx e he),fun _ h=>(by cases h),fun y hy=>?_,.inr (.inr (.inr (.inl ⟨rfl,rfl,hl,rfl,by simp,by simp;omega⟩)))⟩,hm,by omega,?_⟩))⟩
  ·rcases D3.1 hy with hy|hy
   ·exact hb y hy
   ·rw [C3.1 hy]
    exact⟨[],_,rfl,by decide,fun _ h=>(by cases h),hs20⟩
  ·rw [Tr hl,oZ,Kg]
   show ((_+(_+(1+0+1+_))+6:Nat):Int)≤_
   omega
 ·refine U.no rfl (O6 (fun n=>S7.eq_1 n _ _ _ _) (U.no rfl (U.no rfl (U.no rfl (U.no rfl (O6 (fun n=>bF.eq_1 n _ _ _ _) (U.no rfl (U.no rfl (O6 (fun n=>dN.eq_1 n _ _ _ _) (U.no rfl (U.no rfl (U.I0 rfl ?_))))))))))))
  have hdeep:=h2 (by decide)
  refine U.H6 (cK 1 (by decide) (c:=3) (by decide) (by decide) hm) ?_
  rintro _ _ ⟨xs,a,h,hl,hx,hm,hq1,hq2⟩;cases h;(try simp only [Y,D.i] at hq1 hq2)
  refine⟨rfl,U.I0 rfl (U.H6 (hS hdeep b a hm) ?_)⟩
  rintro _ _ ⟨s2,a,h,hs2,hm,hq3,hq4⟩;cases h;(try simp only [Y,D.i] at hq3 hq4)
  have hs20:=hs2
  have hd1:=hd hdeep
  obtain⟨d',rfl⟩:∃ d',d=d'+1:=⟨d-1,by omega⟩
  obtain⟨k2,t2,es2,bs2,as2,rfl,_⟩:=hs2
  refine⟨rfl,U.I0 rfl (U.ret ⟨S 6 [105] xs [S k2 t2 es2 bs2 as2] [],a,rfl,⟨6,[105],xs,_,[],rfl,fun e he=>fZ (by decide) (hx e he),fun y hy=>?_,fun _ h=>(by cases h),.inr (.inr (.inr (.inr (.inl ⟨rfl,rfl,hl,rfl,rfl⟩))))⟩,hm,by omega,by rw [Zn hl];omega⟩)⟩
  rw [C3.1 hy];exact hs20
 ·refine U.no rfl (O6 (fun n=>S7.eq_1 n _ _ _ _) (U.no rfl (U.no rfl (U.no rfl (U.no rfl (O6 (fun n=>bF.eq_1 n _ _ _ _) (U.no rfl (U.no rfl (O6 (fun n=>dN.eq_1 n _ _ _ _) (U.no rfl (U.no rfl (U.no rfl ?_))))))))))))
  exact U.ret ⟨tX,a,rfl,QF d,hm,ha,by show ((3:Nat):Int)≤_;omega⟩
end
theorem wQ:∀ (d:Nat) (deep:Int),d≤10→-1000≤deep→deep≤(d:Int)+1→∀ b a,Mk b a→U (fun n=>M8 n deep (.Z 1 b) a) fun r=>∃ x a',r=(true,[x,.Z 1 b,.int .i64 a'])∧sE (d+1) x∧Mk b a'∧a≤a'∧((vS (d+1) x).length:Int)≤17*(a'-a)+6:=by
 intro d
 induction d with
 |zero=>
  intro deep hd h0 h1 b a hm
  refine U.eq (fun n=>uD n deep b a) ?_
  (refine U.H6 (O9 (by decide) (by decide) (by assumption)) ?_;rintro _ _ ⟨v,a,h,hv0,hv1,hm,hq1,hq2⟩;cases h;(try simp only [Y,D.i] at hq1 hq2);refine⟨rfl,?_⟩)
  refine U.I0 rfl (U.I0 (E6 (by omega)) ?_)
  have e1:0≤v.tmod 4:=Int.tmod_nonneg 4 hv0
  have e2:v.tmod 4<4:=Int.tmod_lt_of_pos v (by decide)
  exact wR (fun h=>by omega) (fun h=>by omega) hm e1 (by show v.tmod 4≤10;omega) (fun h=>by have h:3<v.tmod 4:=h;omega) hq1 (by rcases hq2 with rfl|h;exact .inl rfl;exact .inr h)
 |succ d ih=>
  intro deep hd h0 h1 b a hm
  have hS:2≤deep→Ff (d+1) deep:=by
   intro h b a hm
   rw [Q3 (by omega) (by omega)]
   exact ih (deep-1) (by omega) (by omega) (by omega) b a hm
  refine U.eq (fun n=>uD n deep b a) ?_
  (refine U.H6 (O9 (by decide) (by decide) (by assumption)) ?_;rintro _ _ ⟨v,a,h,hv0,hv1,hm,hq1,hq2⟩;cases h;(try simp only [Y,D.i] at hq1 hq2);refine⟨rfl,?_⟩)
  refine U.I0 rfl (U.N9 (fun _=>?_) fun hc=>?_)
  ·have e1:0≤v.tmod 4:=Int.tmod_nonneg 4 hv0
   have e2:v.tmod 4<4:=Int.tmod_lt_of_pos v (by decide)
   exact wR hS (fun _=>by omega) hm e1 (by show v.tmod 4≤10;omega) (fun h=>by have h:3<v.tmod 4:=h;omega) hq1 (by rcases hq2 with rfl|h;exact .inl rfl;exact .inr h)
  ·have hc:=E9 hc
   exact wR hS (fun _=>by omega) hm hv0 (by show v≤10;omega) (fun _=>by omega) hq1 hq2
end
section
theorem UH {es:List D}(h:es.length=0∨es.length=2):(pA es).length≤sL (wE 4) es+(bif es.isEmpty then 0 else 3):=by
 match es,h with
 |[],_=>exact C4 _
 |[x,y],_=>
  show ([(3,[91])]++(wE 4 x++([(3,[58])]++(wE 4 y++[(3,[93])]))):List Tk).length≤_
  simp only [sL,List.isEmpty_cons,cond_false,G0];omega
def Pa (ty:G1):Nat:=bif ty==bY then 2 else 1
theorem Vi {nm ty:G1}{sg:Bool}{es fs:List D}(h:es.length=0∨es.length=2∨es.length=4)(hf:fs.length≤1):(nW nm ty sg es fs).length≤Pa ty+(bif sg&&!(ty==iS) then 1 else 0)+1+(sL (wE 4) es+(bif es.isEmpty then 0 else 6))+(sL (wE 4) fs+fs.length):=by
 have h0:((bif ty==bY then [(1,nL),(1,lC)] else [(1,ty)]):List Tk).length=Pa ty:=by unfold Pa;cases ty==bY<;>rfl
 have h1:((bif sg&&!(ty==iS) then [(1,mL)] else []):List Tk).length=(bif sg&&!(ty==iS) then 1 else 0):=by cases sg&&!(ty==iS)<;>rfl
 have h2:((bif fs.isEmpty then [] else [(3,[61])]++wE 4 (x0 fs)):List Tk).length≤sL (wE 4) fs+fs.length:=by
  match fs,hf with
  |[],_=>exact C4 _
  |[e],_=>
   show ([(3,[61])]++wE 4 e:List Tk).length≤_
   simp only [sL,G0];omega
 have h3:(pA (es.take 2)).length+(pA (es.drop 2)).length≤sL (wE 4) es+(bif es.isEmpty then 0 else 6):=by
  match es,h with
  |[],_=>exact C4 _
  |[x,y],_=>
   have:=UH (es:=[x,y]) (.inr rfl)
   show (pA [x,y]).length+0≤_
   simp only [List.isEmpty_cons,cond_false] at this ⊢;omega
  |[x,y,z,w],_=>
   have g1:=UH (es:=[x,y]) (.inr rfl)
   have g2:=UH (es:=[z,w]) (.inr rfl)
   show (pA [x,y]).length+(pA [z,w]).length≤_
   simp only [sL,List.isEmpty_cons,cond_false] at g1 g2 ⊢;omega
 simp only [nW,A7,h0,h1,A0,A8]
 omega
theorem Yu {k:Int}{nm ty:G1}{sg:Bool}{es fs bs its els ps qs:List D}:kC (I k nm ty sg es fs bs its els ps qs)=nW nm ty sg es fs:=rfl
section
variable {b:List D} {a a0:Int}
theorem ML (hm:Mk b a){T:NT}{q:Nat}{f:Bool}(g:Bool)(r2:List D)(ty:G1)(r3 r4:List D)(hT:(ty,q,f)∈T)(hi:ty≠iS)(hn:(Y r2 0).s∈cN)(hl0:(Y r4 2).l.length≤q)
  (hl1:(Y r4 2).l.length=0∨(Y r4 2).l.length=2∨(Y r4 2).l.length=4) (hg:g=true→f=true∧(Y r4 2).l.length≤2) (he:∀ e∈(Y r4 2).l,fD 4 e) (ha:a0≤a)
  (hwt:((Pa ty+(bif (Y r3 0).i==1 then 1 else 0)+1+(sL (wE 4) (Y r4 2).l+(bif (Y r4 2).l.isEmpty then 0 else 6))+(bif g then 3 else 0):Nat):Int)≤17*(a-a0)+(1+Pa ty:Nat)) :
  U (fun n=>bP n g b a r2 ty r3 r4) (fun r=>∃ x a',r=(true,[x,.Z 1 b,.int .i64 a'])∧xN T x∧Mk b a'∧a0≤a'∧(((kC x).length:Nat):Int)≤17*(a'-a0)+(1+Pa ty:Nat)):=by
 refine O6 (fun n=>bP.eq_1 n _ _ _ _ _ _ _) ?_
 cases g with
 |false=>
  refine U.no rfl (U.ret ⟨_,a,rfl,⟨_,_,q,f,_,_,[],rfl,hn,hT,fun h=>absurd h hi,hl0,hl1,.inl rfl,he,L8⟩,hm,ha,?_⟩)
  have hw:=Vi (nm:=(Y r2 0).s) (ty:=ty) (sg:=(Y r3 0).i==1) (es:=(Y r4 2).l) (fs:=[]) hl1 (by decide)
  have hi':(ty==iS)=false:=F4.2 hi
  simp only [hi',Bool.not_false,Bool.and_true,sL,A8,cond_false] at hw hwt
  show (((nW (Y r2 0).s ty ((Y r3 0).i==1) (Y r4 2).l []).length:Nat):Int)≤_
  omega
 |true=>
  refine U.I0 rfl ?_
  (refine U.H6 (cK 1 (by decide) (c:=1) (by decide) (by decide) (by assumption)) ?_;rintro _ _ ⟨xs,a,h,hl,hx,hm,hqc,hqd⟩;cases h;(try simp only [Y,D.i] at hqc hqd);refine⟨rfl,?_⟩;replace hx:∀ e∈xs,fD 4 e:=fun e h=>fZ (by decide) (hx e h))
  refine U.I0 rfl (U.ret ⟨_,a,rfl,⟨_,_,q,f,_,_,xs,rfl,hn,hT,fun h=>absurd h hi,hl0,hl1,.inr ⟨(hg rfl).1,hl,(hg rfl).2⟩,he,hx⟩,hm,by omega,?_⟩)
  have hl:xs.length=1:=hl
  have hw:=Vi (nm:=(Y r2 0).s) (ty:=ty) (sg:=(Y r3 0).i==1) (es:=(Y r4 2).l) (fs:=xs) hl1 (by omega)
  have hi':(ty==iS)=false:=F4.2 hi
  simp only [hi',Bool.not_false,Bool.and_true,cond_true] at hw hwt
  show (((nW (Y r2 0).s ty ((Y r3 0).i==1) (Y r4 2).l xs).length:Nat):Int)≤_
  omega
theorem tW (ty:G1){c:Int}{T:NT}(hc:c=1∨c=2)(hm:Mk b a0)(hok:Ym T c ty=true):U (fun n=>aQ n (.str ty) c (.Z 1 b) a0) (fun r=>∃ x a',r=(true,[x,.Z 1 b,.int .i64 a'])∧xN T x∧Mk b a'∧a0≤a'∧(((kC x).length:Nat):Int)≤17*(a'-a0)+(1+Pa ty:Nat)):=by
 obtain⟨⟨ty',q,f⟩,hT,hb⟩:=List.any_eq_true.1 hok
 simp only [A9] at hb
 obtain⟨⟨hb1,hb2⟩,hb3⟩:=hb
 have hb1:ty'=ty:=eq_of_beq hb1
 subst hb1
 refine U.eq (fun n=>JM n ty' c b a0) ?_
 have hw:IntKind.i64.wrap (c+1)=c+1:=Q3 (by omega) (by omega)
 rw [hw]
 refine U.H6 (O9 (by omega) (by omega) hm) ?_
 rintro _ _ ⟨v,a,h,hv0,hv1,hm,hqa,hqb⟩;cases h;(try simp only [Y,D.i] at hqa hqb);refine⟨rfl,?_⟩
 refine U.I0 rfl ?_
 refine U.N9 (fun hint=>?_) fun hint=>?_
 ·(refine U.H6 (jH (by assumption)) ?_;rintro _ _ ⟨s,a,h,hs,hm,hqe⟩;cases h;(try simp only [Y,D.i] at hqe);refine⟨rfl,?_⟩)
  refine U.I0 rfl (U.ret ⟨_,a,rfl,⟨_,_,q,f,_,[],[],rfl,hs,hT,fun _=>rfl,C4 _,.inl rfl,.inl rfl,L8,L8⟩,hm,by omega,?_⟩)
  have hw:=Vi (nm:=s) (ty:=ty') (sg:=true) (es:=[]) (fs:=[]) (.inl rfl) (by decide)
  have hi':(ty'==iS)=true:=hint
  simp only [hi',Bool.not_true,Bool.and_false,sL,A8,List.isEmpty_nil,cond_true,cond_false] at hw
  show (((nW s ty' true [] []).length:Nat):Int)≤_
  omega
 ·have hi:ty'≠iS:=fun e=>by
   have hint:(ty'==iS)=false:=hint
   rw [e] at hint;simp at hint
  have hq:(q:Int)=2*c:=by
   rw [show (ty'==iS)=false from hint] at hb2
   exact E7 hb2
  have hf:c=2→(ty'==lC)=true∨(ty'==bY)=true→f=true:=by
   intro h1 h2
   rw [show (ty'==lC||ty'==bY)=true from by rcases h2 with h2|h2<;>simp [h2],E6 h1] at hb3
   simpa using hb3
  (refine U.H6 (jH (by assumption)) ?_;rintro _ _ ⟨s,a,h,hs,hm,hqe⟩;cases h;(try simp only [Y,D.i] at hqe);refine⟨rfl,?_⟩)
  refine U.I0 rfl ?_
  refine U.H6 (O9 (k:=3) (by decide) (by decide) hm) ?_
  rintro _ _ ⟨v3,a,h,_,_,hm,hqf,hqg⟩;cases h;(try simp only [Y,D.i] at hqf hqg);refine⟨rfl,?_⟩
  refine U.I0 rfl ?_
  have hw:IntKind.i64.wrap (2*v)=2*v:=Q3 (by omega) (by omega)
  refine U.H6 (cK 1 (by decide) (c:=IntKind.i64.wrap (2*v)) (by omega) (by omega) hm) ?_
  rintro _ _ ⟨xs,a,h,hl,hx,hm,hqh,hqi⟩;cases h;(try simp only [Y,D.i] at hqh hqi);refine⟨rfl,?_⟩
  rw [hw] at hl hqi
  have hl0:xs.length≤q:=by omega
  have hl1:xs.length=0∨xs.length=2∨xs.length=4:=by omega
  have hx:∀ e∈xs,fD 4 e:=fun e h=>fZ (by decide) (hx e h)
  have hg0:(bif v3==1 then 1 else 0:Nat)≤1∧((bif v3==1 then 1 else 0:Nat)=0∨v3=1):=by
   cases hc:v3==1
   ·exact⟨by decide,.inl rfl⟩
   ·exact⟨by decide,.inr (eq_of_beq hc)⟩
  have hg1:(bif xs.isEmpty then 0 else 6:Nat)≤6∧((bif xs.isEmpty then 0 else 6:Nat)=0∨1≤v):=by
   cases xs with
   |nil=>exact⟨by decide,.inl rfl⟩
   |cons x xs=>exact⟨by show 6≤6;decide,.inr (by simp only [A0] at hl;omega)⟩
  have hnt:((Pa ty'+(bif v3==1 then 1 else 0)+1+(sL (wE 4) xs+(bif xs.isEmpty then 0 else 6))+0:Nat):Int)≤17*(a-a0)+(1+Pa ty':Nat):=by omega
  refine U.I0 rfl ?_
  refine U.N9 (fun hr=>?_) fun _=>U.N9 (fun hr=>?_) fun _=>ML hm false _ ty' _ _ hT hi hs hl0 hl1 (fun h=>by cases h) hx (by omega) (by exact hnt)
  all_goals
   refine U.N9 (fun hc2=>U.N9 (fun h4=>?_) fun _=>ML hm false _ ty' _ _ hT hi hs hl0 hl1 (fun h=>by cases h) hx (by omega) (by exact hnt)) fun _=>ML hm false _ ty' _ _ hT hi hs hl0 hl1 (fun h=>by cases h) hx (by omega) (by exact hnt)
   have hc2:c=2:=eq_of_beq hc2
   have h4:IntKind.i64.wrap (2*v)<4:=E7 h4
   rw [hw] at h4
   refine U.H6 (O9 (k:=3) (by decide) (by decide) hm) ?_
   rintro _ _ ⟨v4,a,h,_,_,hm,hqj,hqk⟩;cases h;(try simp only [Y,D.i] at hqj hqk)
   exact⟨rfl,U.I0 rfl (ML hm _ _ ty' _ _ hT hi hs hl0 hl1 (fun _=>⟨hf hc2 (by first|exact .inl hr|exact .inr hr),by show xs.length≤2;omega⟩) hx (by omega) (by
    have hg2:(bif v4==2 then 3 else 0:Nat)≤3∧((bif v4==2 then 3 else 0:Nat)=0∨v4=2):=by
     cases hc:v4==2
     ·exact⟨by decide,.inl rfl⟩
     ·exact⟨by decide,.inr (eq_of_beq hc)⟩
    show ((Pa ty'+(bif v3==1 then 1 else 0)+1+(sL (wE 4) xs+(bif xs.isEmpty then 0 else 6))+(bif v4==2 then 3 else 0):Nat):Int)≤_
    omega))⟩
theorem ZT (hm:Mk b a)(g:Bool)(x:D)(ds:List D)(h:xN nA x)(hg:g=true→(x.at_ 2).s=bY∧(x.at_ 5).l.length≤1)(ha:a0≤a)(hwt:(((kC x).length+(bif g then 2 else 0):Nat):Int)≤17*(a-a0)+2):U (fun n=>kX n g b a (x::ds)) (fun r=>∃ x a',r=(true,[x,.Z 1 b,.int .i64 a'])∧xN nA x∧Mk b a'∧a0≤a'∧(((kC x).length:Nat):Int)≤17*(a'-a0)+2):=by
 refine O6 (fun n=>kX.eq_1 n _ _ _ _) ?_
 obtain⟨nm,ty,q,f,sg,es,fs,rfl,h1,h2,h3,h4,h5,h6,h7,h8⟩:=h
 cases g with
 |false=>exact U.no rfl (U.ret ⟨_,a,rfl,⟨nm,ty,q,f,sg,es,fs,rfl,h1,h2,h3,h4,h5,h6,h7,h8⟩,hm,ha,by simp only [cond_false,Nat.add_zero] at hwt;exact hwt⟩)
 |true=>
  have hty:ty=bY:=(hg rfl).1
  subst hty
  have hq:q=2∧f=true:=by
   simp only [nA,B7,C7,List.not_mem_nil,or_false] at h2
   rcases h2 with ⟨h,_⟩|⟨h,_⟩|⟨_,h,h'⟩
   ·exact absurd h (by decide)
   ·exact absurd h (by decide)
   ·exact⟨h,h'⟩
  obtain⟨rfl,rfl⟩:=hq
  refine U.I0 rfl ?_
  (refine U.H6 (cK 1 (by decide) (c:=1) (by decide) (by decide) (by assumption)) ?_;rintro _ _ ⟨xs,a,h,hl,hx,hm,hqc,hqd⟩;cases h;(try simp only [Y,D.i] at hqc hqd);refine⟨rfl,?_⟩;replace hx:∀ e∈xs,fD 4 e:=fun e h=>fZ (by decide) (hx e h))
  refine U.I0 rfl (U.ret ⟨_,a,rfl,⟨nm,bY,2,true,sg,es,xs,rfl,h1,h2,h3,h4,h5,.inr ⟨rfl,hl,h4⟩,h7,hx⟩,hm,by omega,?_⟩)
  have hl:xs.length=1:=hl
  have e1:(nW nm bY sg es xs).length≤(nW nm bY sg es fs).length+(sL (wE 4) xs+1):=by
   match xs,hl with
   |[e],_=>
    have:((bif ([e]:List D).isEmpty then [] else [(3,[61])]++wE 4 (x0 [e])):List Tk).length≤sL (wE 4) [e]+1:=by
     show ([(3,[61])]++wE 4 e:List Tk).length≤_
     simp only [sL,G0];omega
    simp only [nW,A7]
    omega
  rw [Yu] at hwt
  simp only [cond_true] at hwt
  show (((nW nm bY sg es xs).length:Nat):Int)≤_
  omega
theorem Zw {T:NT}{x:D}(h:xN T x):(x.at_ 5).l.length≤1:=by
 obtain⟨nm,ty,q,f,sg,es,fs,rfl,_,_,_,_,_,h6,_⟩:=h
 show fs.length≤1
 rcases h6 with rfl|⟨_,h,_⟩
 ·exact C4 _
 ·omega
theorem VS (hm:Mk b a0):U (fun n=>gP n (.Z 1 b) a0) (fun r=>∃ x a',r=(true,[x,.Z 1 b,.int .i64 a'])∧xN nA x∧Mk b a'∧a0≤a'∧(((kC x).length:Nat):Int)≤17*(a'-a0)+2):=by
 refine U.eq (fun n=>HP n b a0) ?_
 refine U.H6 (O9 (k:=3) (by decide) (by decide) hm) ?_
 rintro _ _ ⟨v,a,h,hv0,hv1,hm,hqa,hqb⟩;cases h;(try simp only [Y,D.i] at hqa hqb);refine⟨rfl,?_⟩
 have hv:v=0∨v=1∨v=2:=by omega
 refine U.I0 rfl ?_
 rcases hv with rfl|rfl|rfl
 all_goals
  refine U.I0 rfl (U.I0 rfl (U.H6 (tW (T:=nA) _ (.inl rfl) hm rfl) ?_))
  rintro _ _ ⟨x,a,h,hx,hm,hqc,hqd⟩;cases h;(try simp only [Y,D.i] at hqc hqd);refine⟨rfl,?_⟩
  first|(replace hqd:((kC _).length:Int)≤_+((2:Nat):Int):=hqd)|(replace hqd:((kC _).length:Int)≤_+((3:Nat):Int):=hqd)
  have hx0:=hx
  obtain⟨nm1,ty1,sg1,es1,fs1,rfl⟩:=uE hx
  refine U.I0 rfl (U.N9 (fun ht=>?_) fun _=>ZT hm _ _ _ hx0 (fun h=>by cases h) (by omega) (by show ((_+0:Nat):Int)≤_;omega))
  refine U.H6 (O9 (k:=3) (by decide) (by decide) hm) ?_
  rintro _ _ ⟨v4,a,h,_,_,hm,hqe,hqf⟩;cases h;(try simp only [Y,D.i] at hqe hqf)
  have hg2:(bif v4==2 then 2 else 0:Nat)≤2∧((bif v4==2 then 2 else 0:Nat)=0∨v4=2):=by
   cases hc:v4==2
   ·exact⟨by decide,.inl rfl⟩
   ·exact⟨by decide,.inr (eq_of_beq hc)⟩
  exact⟨rfl,U.I0 rfl (ZT hm _ _ _ hx0 (fun _=>⟨eq_of_beq ht,Zw hx0⟩) (by omega) (by show ((_+(bif v4==2 then 2 else 0):Nat):Int)≤_;omega))⟩
theorem Hw:∀ (c:Nat) (zs:List D) (a:Int),zs.length+c≤2→(∀ x∈zs,xC x)→Mk b a→U (fun n=>aG n (c:Int) (.Z 1 b) a (.Z 2 zs))
  fun r=>∃ (q:Int) (zs':List D) (a':Int),r=(false,[.int .i64 q,.Z 1 b,.int .i64 a',.Z 2 zs'])∧zs'.length≤zs.length+c∧(∀ x∈zs',xC x)∧Mk b a'∧a≤a'∧(sL cW zs':Int)≤sL cW zs+17*(a'-a)+4*c:=by
 intro c
 induction c with
 |zero=>
  intro zs a hl hz hm
  exact U.eq (fun n=>pF n _ _ _ _) (U.no rfl (U.ret ⟨_,zs,a,rfl,by omega,hz,hm,by omega,by omega⟩))
 |succ c ih=>
  intro zs a hl hz hm
  have hw:IntKind.i64.wrap (((c+1:Nat):Int)-1)=(c:Int):=by rw [Q3 (by omega) (by omega)];omega
  refine U.eq (fun n=>pF n _ _ _ _) (U.I0 (E6 (by omega)) ?_)
  rw [hw]
  (refine U.H6 (jH (by assumption)) ?_;rintro _ _ ⟨s,a,h,hs,hm,hqe⟩;cases h;(try simp only [Y,D.i] at hqe);refine⟨rfl,?_⟩)
  refine U.I0 rfl ?_
  (refine U.H6 (O9 (by decide) (by decide) (by assumption)) ?_;rintro _ _ ⟨v,a,h,hv0,hv1,hm,hqa,hqb⟩;cases h;(try simp only [Y,D.i] at hqa hqb);refine⟨rfl,?_⟩)
  refine U.I0 rfl ?_
  refine U.H6 (cK 1 (by decide) (c:=v) hv0 (by omega) hm) ?_
  rintro _ _ ⟨xs,a,h,hl2,hx,hm,hqg,hqh⟩;cases h;(try simp only [Y,D.i] at hqg hqh);refine⟨rfl,?_⟩
  refine U.I0 rfl (U.I0 (B2 (by simp only [L7];omega)) ((ih _ a (by simp;omega) (HU hz ⟨_,xs,rfl,hs,by omega,fun e h=>fZ (by decide) (hx e h)⟩) hm).mono fun r hr=>?_))
  obtain⟨q,zs',a',h1,h2,h3,h4,h5,h6⟩:=hr
  have hw1:=Ai (wE 4) xs
  have hw2:(cW (D.agg [.str s,.Z 6 xs])).length=(lW (wE 4) xs).length+4:=by
   show ([(3,[46]),(1,s),(3,[40])]++(lW (wE 4) xs++[(3,[41])]):List Tk).length=_
   simp only [G0];omega
  have hw3:xs.length≤1→(lW (wE 4) xs).length≤sL (wE 4) xs:=by
   intro hle
   match xs,hle with
   |[],_=>exact C4 _
   |[e],_=>simp [lW,sL]
  have hw3:=hw3 (by omega)
  rw [oZ] at h6
  replace h6:(sL cW zs':Int)≤((sL cW zs+(cW (D.agg [.str s,.Z 6 xs])).length:Nat):Int)+17*(a'-a)+4*c:=h6
  exact⟨q,zs',a',h1,by simp at h2;omega,h3,h4,by omega,by omega⟩
theorem DN (hm:Mk b a):U (fun n=>bK n (.Z 1 b) a) fun r=>∃ zs a',r=(true,[.Z 1 b,.int .i64 a',.Z 2 zs])∧zs.length≤2∧(∀ x∈zs,xC x)∧Mk b a'∧a≤a'∧((bif zs.isEmpty then 0 else (oI zs).length+1:Nat):Int)≤17*(a'-a)∧((oI zs).length:Int)≤17*(a'-a)+2:=by
 refine U.eq (fun n=>EX n b a) ?_
 (refine U.H6 (O9 (by decide) (by decide) (by assumption)) ?_;rintro _ _ ⟨v,a,h,hv0,hv1,hm,hqa,hqb⟩;cases h;(try simp only [Y,D.i] at hqa hqb);refine⟨rfl,?_⟩)
 obtain⟨c,rfl⟩:∃ c:Nat,v=(c:Int):=⟨v.toNat,by omega⟩
 refine U.I0 rfl (U.L3 (Hw c [] a (by simp;omega) L8 hm) (fun ds h=>by obtain⟨_,_,_,h,_⟩:=h;cases h) fun ds h=>?_)
 obtain⟨q,zs,a,h,h1,h2,hm,hqc,hqd⟩:=h
 cases h
 simp only [sL,A8,C5] at hqd h1
 have hw:=Ai cW zs
 have hc:(oI zs).length=(lW cW zs).length+2:=by simp only [oI,G0];omega
 refine U.I0 rfl (U.ret ⟨zs,a,rfl,by omega,h2,hm,by omega,?_,?_⟩)
 ·cases zs with
  |nil=>show ((0:Nat):Int)≤_;omega
  |cons z zs=>
   have hw:=xL cW (z::zs) (by simp)
   show (((oI (z::zs)).length+1:Nat):Int)≤_
   simp only [A0] at h1 hw;omega
 ·cases zs with
  |nil=>rw [hc];show ((0+2:Nat):Int)≤_;omega
  |cons z zs=>
   have hw:=xL cW (z::zs) (by simp)
   simp only [A0] at h1 hw;omega
theorem Hx (sg:Bool)(es:List D):∀ (c:Nat) (zs:List D) (a:Int),zs.length+c≤2→(∀ x∈zs,xN CO x)→Mk b a→
  U (fun n=>bC n (c:Int) (.Z 1 b) a (0:Int) (.str []) (.str []) (.bool false) (7:Int) (.str [102]) (.str []) (.bool sg) (.Z 6 []) (.Z 6 []) (.Z 5 []) (.Z 11 []) (.Z 11 []) (.Z 2 []) (.Z 2 []) (.Z 6 es) (.Z 6 []) (.Z 5 []) (.Z 11 zs) (.Z 11 []) (.Z 2 []) (.Z 2 []))
  fun r=>∃ (q:Int) (zs':List D) (a':Int),r=(false,[.int .i64 q,.Z 1 b,.int .i64 a',.int .i64 0,.str [],.str [],.bool false,.int .i64 7,.str [102],.str [],.bool sg,.Z 6 [],.Z 6 [],.Z 5 [],.Z 11 [],.Z 11 [],.Z 2 [],.Z 2 [],.Z 6 es,.Z 6 [],.Z 5 [],.Z 11 zs',.Z 11 [],.Z 2 [],.Z 2 []])∧zs'.length=zs.length+c∧(∀ x∈zs',xN CO x)∧Mk b a'∧a≤a'∧(sL EP zs':Int)≤sL EP zs+17*(a'-a)+3*c:=by
 intro c
 induction c with
 |zero=>
  intro zs a hl hz hm
  exact U.eq (fun n=>rA n _ _ _ _ _ _ _ _ _ _ _ _ _ _ _ _ _ _ _ _ _ _ _ _ _) (U.no rfl (U.ret ⟨_,zs,a,rfl,rfl,hz,hm,by omega,by omega⟩))
 |succ c ih=>
  intro zs a hl hz hm
  have hw:IntKind.i64.wrap (((c+1:Nat):Int)-1)=(c:Int):=by rw [Q3 (by omega) (by omega)];omega
  refine U.eq (fun n=>rA n _ _ _ _ _ _ _ _ _ _ _ _ _ _ _ _ _ _ _ _ _ _ _ _ _) (U.I0 (E6 (by omega)) ?_)
  rw [hw]
  refine U.H6 (O9 (k:=3) (by decide) (by decide) hm) ?_
  rintro _ _ ⟨v,a,h,hv0,hv1,hm,hqa,hqb⟩;cases h;(try simp only [Y,D.i] at hqa hqb);refine⟨rfl,?_⟩
  have hv:v=0∨v=1∨v=2:=by omega
  refine U.I0 rfl ?_
  rcases hv with rfl|rfl|rfl
  all_goals
   refine U.I0 rfl (U.I0 rfl (U.H6 (tW (T:=CO) _ (.inl rfl) hm rfl) ?_))
   rintro _ _ ⟨x,a,h,hx,hm,hqc,hqd⟩;cases h;(try simp only [Y,D.i] at hqc hqd);refine⟨rfl,?_⟩
   first|(replace hqd:((kC _).length:Int)≤_+((2:Nat):Int):=hqd)|(replace hqd:((kC _).length:Int)≤_+((3:Nat):Int):=hqd)
   have hx0:=hx
   obtain⟨nm1,ty1,sg1,es1,fs1,rfl⟩:=uE hx
   refine U.I0 rfl (U.I0 (B2 (by simp only [L7];omega)) ?_)
   refine (ih _ a (by simp;omega) (HU hz hx0) hm).mono fun r hr=>?_
   obtain⟨q,zs',a',h1,h2,h3,h4,h5,h6⟩:=hr
   rw [oZ] at h6
   have hn:(EP (I 1 nm1 ty1 sg1 es1 fs1 [] [] [] [] [])).length=(kC (I 1 nm1 ty1 sg1 es1 fs1 [] [] [] [] [])).length+1:=by
    show (nW nm1 ty1 sg1 es1 fs1++[(3,[59])]:List Tk).length=_
    rw [A7];rfl
   replace h6:(sL EP zs':Int)≤((sL EP zs+(EP (I 1 nm1 ty1 sg1 es1 fs1 [] [] [] [] [])).length:Nat):Int)+17*(a'-a)+3*c:=h6
   exact⟨q,zs',a',h1,by rw [h2,A7,C9];omega,h3,h4,by omega,by omega⟩
def Tf (d:Nat)(deep:Int):Prop:=∀ (b:List D) (a c:Int),0≤c→c≤3→Mk b a→U (fun n=>T6 n (IntKind.i64.wrap (deep-1):Int) c (.Z 1 b) a)
 fun r=>∃ zs a',r=(true,[.Z 1 b,.int .i64 a',.Z 11 zs])∧zs.length≤c.toNat∧(∀ x∈zs,xI d x)∧Mk b a'∧a≤a'∧(sL (vI d) zs:Int)≤17*(a'-a)+5*c
end
theorem Ug {w:D→List Tk}{t:G1}{its:List D}:([gB t its].flatMap (vO w)).length=sL w its+4:=by
 show (([(1,V9),(3,[58]),(1,t)]++(its.flatMap w++[(1,fF)]))++[]:List Tk).length=_
 simp only [G0,xK];omega
theorem Tq {n:Nat}{nm ty:G1}{sg:Bool}{es fs bs its els ps qs:List D}:(vI (n+1) (I 1 nm ty sg es fs bs its els ps qs)).length=(kC (I 1 nm ty sg es fs bs its els ps qs)).length+3:=by
 show (du++(nW nm ty sg es fs++[(3,[59])]):List Tk).length=(nW nm ty sg es fs).length+3
 simp only [du,G0];omega
theorem Zc {n:Nat}{nm ty:G1}{sg:Bool}{e:D}{fs bs its els ps qs:List D}:(vI (n+1) (I 2 nm ty sg [e] fs bs its els ps qs)).length=(wE 4 e).length+6:=by
 show (du++([(1,ty),(1,nm),(3,[61])]++(wE 4 e++[(3,[59])])):List Tk).length=_
 simp only [du,G0];omega
theorem Zd {n:Nat}{nm ty:G1}{sg:Bool}{l e:D}{fs bs its els ps qs:List D}:(vI (n+1) (I 4 nm ty sg [l,e] fs bs its els ps qs)).length=(wE 4 l).length+(wE 4 e).length+5:=by
 show (du++([(1,qG)]++(wE 4 l++([(3,[61])]++(wE 4 e++[(3,[59])])))):List Tk).length=_
 simp only [du,G0];omega
theorem Ze {n:Nat}{nm ty:G1}{sg:Bool}{s:D}{es fs its els ps qs:List D}:(vI (n+1) (I 5 nm ty sg es fs [s] its els ps qs)).length=(vS 4 s).length+5:=by
 show (du++([(1,lU),(3,[64]),(3,[42])]++vS 4 s):List Tk).length=_
 simp only [du,G0];omega
theorem Zf {n:Nat}{nm ty:G1}{sg:Bool}{s:D}{es fs its els ps qs:List D}:(vI (n+1) (I 6 nm ty sg es fs [s] its els ps qs)).length=(vS 4 s).length+8:=by
 show (du++([(1,lU),(3,[64]),(3,[40]),(1,CT),(1,nm),(3,[41])]++vS 4 s):List Tk).length=_
 simp only [du,G0];omega
theorem Zg {n:Nat}{nm ty:G1}{sg:Bool}{s:D}{es fs its els ps qs:List D}(h:es.length=0∨es.length=2):(vI (n+1) (I 7 nm ty sg es fs [s] its els ps qs)).length≤(bif sg then 1 else 0)+(sL (wE 4) es+(bif es.isEmpty then 0 else 3))+sL EP its+(vS 4 s).length+6:=by
 have h1:=UH h
 have h0:((bif sg then [(1,mL)] else []):List Tk).length=(bif sg then 1 else 0):=by cases sg<;>rfl
 show (du++([(1,yG)]++((bif sg then [(1,mL)] else [])++(pA es++([(1,nm),(3,[59])]++(its.flatMap EP++(vS 4 s++[(1,mG)])))))):List Tk).length≤_
 simp only [du,A7,h0,A0,A8,xK];omega
theorem Zh {n:Nat}{nm ty:G1}{sg:Bool}{es fs bs its els ps qs:List D}:(vI (n+1) (I 8 nm ty sg es fs bs its els ps qs)).length≤(bif ps.isEmpty then 0 else (oI ps).length)+(bif ps.isEmpty then 0 else 1)+(oI qs).length+5:=by
 show (du++([(1,ty)]++((bif ps.isEmpty then [] else [(3,[35])]++oI ps)++([(1,nm)]++(oI qs++[(3,[59])])))):List Tk).length≤_
 cases ps.isEmpty<;>simp only [cond_true,cond_false,du,G0]<;>omega
theorem Zi {n:Nat}{nm ty t:G1}{sg:Bool}{es fs bs its els ps qs:List D}(h:es.length=3):(vI (n+1) (I 9 nm ty sg es fs bs [gB t its] els ps qs)).length=sL (wE 4) es+sL (vI n) its+15:=by
 show (du++(bR nm es++[gB t its].flatMap (vO (vI n))):List Tk).length=_
 rw [A7,A7,Ey h,Ug]
 show 2+_=_
 omega
theorem Om {n:Nat}{nm ty t:G1}{sg:Bool}{e:D}{fs bs its els ps qs:List D}:(vI (n+1) (I 10 nm ty sg [e] fs bs [gB t its] els ps qs)).length≤(wE 4 e).length+sL (vI n) its+(bif els.isEmpty then 0 else 1+(els.flatMap (vO (vI n))).length)+9:=by
 show (du++([(1,uI)]++(pW e++([gB t its].flatMap (vO (vI n))++(bif els.isEmpty then [] else [(1,dR)]++els.flatMap (vO (vI n)))))):List Tk).length≤_
 have:=Ug (w:=vI n) (t:=t) (its:=its)
 cases els.isEmpty<;>simp only [cond_true,cond_false,du,pW,this,G0]<;>omega
section
variable {d:Nat} {deep:Int} {b:List D} {a a0 v:Int}
theorem wP (hS:2≤deep→Tf (d+1) deep)(hm:Mk b a){k:Int}(h0:0≤k)(h1:k≤11)(h2:8<k→2≤deep)(ha:a0≤a)(ha1:k=0∨a0+1≤a) :
  U (fun n=>Q0 n k [.int .i64 v,.Z 1 b,.int .i64 a] deep) (fun r=>∃ x a',r=(true,[x,.Z 1 b,.int .i64 a'])∧xI (d+2) x∧Mk b a'∧a0≤a'∧(((vI (d+2) x).length:Nat):Int)≤17*(a'-a0)+5):=by
 have hk:k=0∨k=1∨k=2∨k=3∨k=4∨k=5∨k=6∨k=7∨k=8∨k=9∨k=10∨k=11:=by omega
 have uI:∀ k:Int,a0+1≤a→2≤deep→(k==0)=false→(k==1)=false→(k==2)=false→(k==3)=false→(k==4)=false→(k==5)=false→(k==6)=false→(k==7)=false→(k==8)=false→(k==9)=false→
   U (fun n=>Q0 n k [.int .i64 v,.Z 1 b,.int .i64 a] deep) (fun r=>∃ x a',r=(true,[x,.Z 1 b,.int .i64 a'])∧xI (d+2) x∧Mk b a'∧a0≤a'∧(((vI (d+2) x).length:Nat):Int)≤17*(a'-a0)+5):=by
  intro k hac hdeep e0 e1 e2 e3 e4 e5 e6 e7 e8 e9
  have hS:=hS hdeep
  refine O6 (fun n=>Q0.eq_1 n _ _ _) (U.no e0 (U.no e1 (U.no e2 (U.no e3 (U.no e4 (U.no e5 (U.no e6 (U.no e7 (U.no e8 (U.no e9 ?_))))))))))
  (refine U.H6 (cK 1 (by decide) (c:=1) (by decide) (by decide) (by assumption)) ?_;rintro _ _ ⟨xs,a,h,hl,hx,hm,hqc,hqd⟩;cases h;(try simp only [Y,D.i] at hqc hqd);refine⟨rfl,?_⟩;replace hx:∀ e∈xs,fD 4 e:=fun e h=>fZ (by decide) (hx e h))
  obtain⟨e,rfl⟩:∃ e,xs=[e]:=by
   match xs,hl with
   |[e],_=>exact⟨e,rfl⟩
  have he:=hx e (C3.2 rfl)
  have hqd:((wE 4 e).length:Int)≤_:=Int.le_trans (by simp [sL]) hqd
  refine U.I0 rfl ?_
  refine U.H6 (O9 (k:=3) (by decide) (by decide) hm) ?_
  rintro _ _ ⟨c,a,h,hc0,hc1,hm,hqe,hqf⟩;cases h;(try simp only [Y,D.i] at hqe hqf);refine⟨rfl,?_⟩
  refine U.I0 rfl ?_
  refine U.H6 (hS b a c hc0 (by omega) hm) ?_
  rintro _ _ ⟨zs,a,h,hz1,hz,hm,hqk,hql⟩;cases h;(try simp only [Y,D.i] at hqk hql);refine⟨rfl,?_⟩
  refine U.I0 rfl ?_
  refine U.H6 (O9 (k:=2) (by decide) (by decide) hm) ?_
  rintro _ _ ⟨w,a,h,hw0,hw1,hm,hqg,hqh⟩;cases h;(try simp only [Y,D.i] at hqg hqh);refine⟨rfl,?_⟩
  refine U.I0 rfl (U.N9 (fun hv1=>?_) fun _=>U.ret ⟨_,a,rfl,(.inr (.inr (.inr (.inr (.inr (.inr (.inr (.inr (.inr (⟨e,zs,[],rfl,he,by omega,hz,.inl rfl⟩)))))))))),hm,by omega,by
   have hw:=Om (n:=d+1) (nm:=[]) (ty:=[]) (t:=[116]) (sg:=false) (e:=e) (fs:=[]) (bs:=[]) (its:=zs) (els:=[]) (ps:=[]) (qs:=[])
   simp only [List.isEmpty_nil,cond_true] at hw
   exact Int.le_trans (Int.ofNat_le.2 hw) (by omega)⟩)
  have hv1:w=1:=by simpa [Y,D.i] using hv1
  refine U.H6 (O9 (k:=3) (by decide) (by decide) hm) ?_
  rintro _ _ ⟨c2,a,h,hc20,hc21,hm,hqi,hqj⟩;cases h;(try simp only [Y,D.i] at hqi hqj);refine⟨rfl,?_⟩
  refine U.I0 rfl ?_
  refine U.H6 (hS b a c2 hc20 (by omega) hm) ?_
  rintro _ _ ⟨ys,a,h,hy1,hy,hm,hqm,hqn⟩;cases h;(try simp only [Y,D.i] at hqm hqn);refine⟨rfl,?_⟩
  refine U.I0 rfl (U.ret ⟨_,a,rfl,(.inr (.inr (.inr (.inr (.inr (.inr (.inr (.inr (.inr (⟨e,zs,_,rfl,he,by omega,hz,.inr ⟨ys,rfl,by omega,hy⟩⟩)))))))))),hm,by omega,?_⟩)
  have hw:=Om (n:=d+1) (nm:=[]) (ty:=[]) (t:=[116]) (sg:=false) (e:=e) (fs:=[]) (bs:=[]) (its:=zs) (els:=[gB [101] ys]) (ps:=[]) (qs:=[])
  rw [Ug] at hw
  simp only [List.isEmpty_cons,cond_false] at hw
  exact Int.le_trans (Int.ofNat_le.2 hw) (by omega)
 rcases hk with rfl|rfl|rfl|rfl|rfl|rfl|rfl|rfl|rfl|rfl|rfl|rfl
 ·refine O6 (fun n=>Q0.eq_1 n _ _ _) (U.I0 rfl (U.H6 (tW (T:=vN) _ (.inl rfl) hm rfl) ?_))
  rintro _ _ ⟨x,a,h,hx,hm,hqc,hqd⟩;cases h;(try simp only [Y,D.i] at hqc hqd)
  first|(replace hqd:((kC _).length:Int)≤_+((2:Nat):Int):=hqd)|(replace hqd:((kC _).length:Int)≤_+((3:Nat):Int):=hqd)
  have hx0:=hx
  obtain⟨nm1,ty1,sg1,es1,fs1,rfl⟩:=uE hx
  exact⟨rfl,U.I0 rfl (U.ret ⟨_,a,rfl,.inl (.inl hx0),hm,by omega,by
   show (((vI (d+1+1) (I 1 nm1 ty1 sg1 es1 fs1 [] [] [] [] [])).length:Nat):Int)≤_
   rw [Tq];omega⟩)⟩
 ·refine O6 (fun n=>Q0.eq_1 n _ _ _) (U.no rfl (U.I0 rfl ?_))
  refine U.H6 (O9 (k:=3) (by decide) (by decide) hm) ?_
  rintro _ _ ⟨w,a,h,hv0,hv1,hm,hqa,hqb⟩;cases h;(try simp only [Y,D.i] at hqa hqb);refine⟨rfl,?_⟩
  have hv:w=0∨w=1∨w=2:=by omega
  refine U.I0 rfl ?_
  rcases hv with rfl|rfl|rfl
  all_goals
   refine U.I0 rfl (U.I0 rfl (U.H6 (tW (T:=JN) _ (.inr rfl) hm rfl) ?_))
   rintro _ _ ⟨x,a,h,hx,hm,hqc,hqd⟩;cases h;(try simp only [Y,D.i] at hqc hqd)
   first|(replace hqd:((kC _).length:Int)≤_+((2:Nat):Int):=hqd)|(replace hqd:((kC _).length:Int)≤_+((3:Nat):Int):=hqd)
   have hx0:=hx
   obtain⟨nm1,ty1,sg1,es1,fs1,rfl⟩:=uE hx
   exact⟨rfl,U.I0 rfl (U.ret ⟨_,a,rfl,.inl (.inr hx0),hm,by omega,by
   show (((vI (d+1+1) (I 1 nm1 ty1 sg1 es1 fs1 [] [] [] [] [])).length:Nat):Int)≤_
   rw [Tq];omega⟩)⟩
 ·refine O6 (fun n=>Q0.eq_1 n _ _ _) (U.no rfl (U.no rfl (U.I0 rfl ?_)))
  (refine U.H6 (jH (by assumption)) ?_;rintro _ _ ⟨s,a,h,hs,hm,hqe⟩;cases h;(try simp only [Y,D.i] at hqe);refine⟨rfl,?_⟩)
  refine U.I0 rfl ?_
  (refine U.H6 (cK 1 (by decide) (c:=1) (by decide) (by decide) (by assumption)) ?_;rintro _ _ ⟨xs,a,h,hl,hx,hm,hqc,hqd⟩;cases h;(try simp only [Y,D.i] at hqc hqd);refine⟨rfl,?_⟩;replace hx:∀ e∈xs,fD 4 e:=fun e h=>fZ (by decide) (hx e h))
  obtain⟨e,rfl⟩:∃ e,xs=[e]:=by
   match xs,hl with
   |[e],_=>exact⟨e,rfl⟩
  have hqd:((wE 4 e).length:Int)≤_:=Int.le_trans (by simp [sL]) hqd
  exact U.I0 rfl (U.ret ⟨_,a,rfl,(.inr (.inl ⟨s,e,rfl,hs,hx e (C3.2 rfl)⟩)),hm,by omega,by
   show (((vI (d+1+1) (I 2 s oP false [e] [] [] [] [] [] [])).length:Nat):Int)≤_
   rw [Zc];omega⟩)
 ·refine O6 (fun n=>Q0.eq_1 n _ _ _) (U.no rfl (U.no rfl (U.no rfl (U.I0 rfl ?_))))
  (refine U.H6 (jH (by assumption)) ?_;rintro _ _ ⟨s,a,h,hs,hm,hqe⟩;cases h;(try simp only [Y,D.i] at hqe);refine⟨rfl,?_⟩)
  exact U.I0 rfl (U.ret ⟨_,a,rfl,(.inr (.inr (.inl ⟨s,rfl,hs⟩))),hm,by omega,by show ((5:Nat):Int)≤_;omega⟩)
 ·refine O6 (fun n=>Q0.eq_1 n _ _ _) (U.no rfl (U.no rfl (U.no rfl (U.no rfl (U.I0 rfl ?_)))))
  refine U.H6 (ZR hm) ?_
  rintro _ _ ⟨l,a,h,hl,hm,hqa,hqb⟩;cases h;(try simp only [Y,D.i] at hqa hqb)
  have hl0:=hl
  obtain⟨k1,t1,ar1,rfl,_⟩:=hl
  refine⟨rfl,U.I0 rfl (U.H6 (TT 3 (by decide) hm) ?_)⟩
  rintro _ _ ⟨e,a,h,he,hm,hqc,hqd⟩;cases h;(try simp only [Y,D.i] at hqc hqd)
  have he0:=he
  obtain⟨k2,t2,ar2,rfl,_⟩:=he
  exact⟨rfl,U.I0 rfl (U.ret ⟨_,a,rfl,(.inr (.inr (.inr (.inl ⟨_,_,rfl,hl0,he0⟩)))),hm,by omega,by
   show (((vI (d+1+1) (I 4 [] [] false [E k1 t1 ar1,E k2 t2 ar2] [] [] [] [] [] [])).length:Nat):Int)≤_
   rw [Zd];omega⟩)⟩
 ·refine O6 (fun n=>Q0.eq_1 n _ _ _) (U.no rfl (U.no rfl (U.no rfl (U.no rfl (U.no rfl (U.I0 rfl ?_))))))
  refine U.H6 (wQ 3 3 (by decide) (by decide) (by decide) b a hm) ?_
  rintro _ _ ⟨x,a,h,hx,hm,hqc,hqd⟩;cases h;(try simp only [Y,D.i] at hqc hqd)
  have hx0:=hx
  obtain⟨k1,t1,es1,bs1,as1,rfl,_⟩:=hx
  have hqd:((vS 4 (S k1 t1 es1 bs1 as1)).length:Int)≤_:=hqd
  exact⟨rfl,U.I0 rfl (U.ret ⟨_,a,rfl,(.inr (.inr (.inr (.inr (.inl ⟨_,rfl,hx0⟩))))),hm,by omega,by
   show (((vI (d+1+1) (I 5 [] [] false [] [] [S k1 t1 es1 bs1 as1] [] [] [] [])).length:Nat):Int)≤_
   rw [Ze];omega⟩)⟩
 ·refine O6 (fun n=>Q0.eq_1 n _ _ _) (U.no rfl (U.no rfl (U.no rfl (U.no rfl (U.no rfl (U.no rfl (U.I0 rfl ?_)))))))
  refine U.H6 (wQ 3 4 (by decide) (by decide) (by decide) b a hm) ?_
  rintro _ _ ⟨x,a,h,hx,hm,hqc,hqd⟩;cases h;(try simp only [Y,D.i] at hqc hqd)
  have hx0:=hx
  obtain⟨k1,t1,es1,bs1,as1,rfl,_⟩:=hx
  have hqd:((vS 4 (S k1 t1 es1 bs1 as1)).length:Int)≤_:=hqd
  exact⟨rfl,U.I0 rfl (U.ret ⟨_,a,rfl,(.inr (.inr (.inr (.inr (.inr (.inl ⟨_,rfl,hx0⟩)))))),hm,by omega,by
   show (((vI (d+1+1) (I 6 vZ [] false [] [] [S k1 t1 es1 bs1 as1] [] [] [] [])).length:Nat):Int)≤_
   rw [Zf];omega⟩)⟩
 ·refine O6 (fun n=>Q0.eq_1 n _ _ _) (U.no rfl (U.no rfl (U.no rfl (U.no rfl (U.no rfl (U.no rfl (U.no rfl (U.I0 rfl ?_))))))))
  refine U.H6 (O9 (k:=2) (by decide) (by decide) hm) ?_
  rintro _ _ ⟨w2,a,h,_,_,hm,hq2,hq3⟩;cases h;(try simp only [Y,D.i] at hq2 hq3);refine⟨rfl,?_⟩
  refine U.I0 rfl ?_
  refine U.H6 (O9 (k:=2) (by decide) (by decide) hm) ?_
  rintro _ _ ⟨w3,a,h,h30,h31,hm,hq4,hq5⟩;cases h;(try simp only [Y,D.i] at hq4 hq5);refine⟨rfl,?_⟩
  refine U.I0 rfl ?_
  have hw:IntKind.i64.wrap (2*w3)=2*w3:=Q3 (by omega) (by omega)
  refine U.H6 (cK 1 (by decide) (c:=IntKind.i64.wrap (2*w3)) (by omega) (by omega) hm) ?_
  rintro _ _ ⟨xs,a,h,hl,hx,hm,hq6,hq7⟩;cases h;(try simp only [Y,D.i] at hq6 hq7);refine⟨rfl,?_⟩
  rw [hw] at hl hq7
  have hl:xs.length=0∨xs.length=2:=by omega
  have hx:∀ e∈xs,fD 4 e:=fun e h=>fZ (by decide) (hx e h)
  refine U.I0 rfl ?_
  refine U.H6 (O9 (k:=2) (by decide) (by decide) hm) ?_
  rintro _ _ ⟨w,a,h,hw0,hw1,hm,hq8,hq9⟩;cases h;(try simp only [Y,D.i] at hq8 hq9)
  obtain⟨c,rfl⟩:∃ c:Nat,w=(c:Int):=⟨w.toNat,by omega⟩
  have hw:IntKind.i64.wrap (1+(c:Int))=((c+1:Nat):Int):=by rw [Q3 (by omega) (by omega)];omega
  have L:=Hx (b:=b) (w2==1) xs (c+1) [] a (by simp;omega) L8 hm
  rw [← hw] at L
  refine⟨rfl,U.I0 rfl (U.L3 L (fun ds h=>by obtain⟨_,_,_,h,_⟩:=h;cases h) fun ds h=>?_)⟩
  obtain⟨q,zs,a,h,hz1,hz,hm,hq10,hq11⟩:=h
  cases h
  simp only [sL] at hq11
  refine U.I0 rfl (U.H6 (wQ 3 3 (by decide) (by decide) (by decide) b a hm) ?_)
  rintro _ _ ⟨x,a,h,hx',hm,hq12,hq13⟩;cases h;(try simp only [Y,D.i] at hq12 hq13)
  have hx0:=hx'
  obtain⟨k1,t1,es1,bs1,as1,rfl,_⟩:=hx'
  have hq13:((vS 4 (S k1 t1 es1 bs1 as1)).length:Int)≤_:=hq13
  refine⟨rfl,U.I0 rfl (U.ret ⟨_,a,rfl,(.inr (.inr (.inr (.inr (.inr (.inr (.inl ⟨w2==1,xs,zs,_,rfl,hl,hx,by simp at hz1;omega,by simp at hz1;omega,hz,hx0⟩))))))),hm,by omega,?_⟩)⟩
  have hk7:=Zg (n:=d+1) (nm:=[102]) (ty:=[]) (sg:=w2==1) (s:=S k1 t1 es1 bs1 as1) (es:=xs) (fs:=[]) (its:=zs) (els:=[]) (ps:=[]) (qs:=[]) hl
  have hg0:(bif w2==1 then 1 else 0:Nat)≤1∧((bif w2==1 then 1 else 0:Nat)=0∨w2=1):=by
   cases hc:w2==1
   ·exact⟨by decide,.inl rfl⟩
   ·exact⟨by decide,.inr (eq_of_beq hc)⟩
  have hg1:(bif xs.isEmpty then 0 else 3:Nat)≤3∧((bif xs.isEmpty then 0 else 3:Nat)=0∨xs.length=2):=by
   cases xs with
   |nil=>exact⟨by decide,.inl rfl⟩
   |cons x xs=>exact⟨by show 3≤3;decide,.inr (by rcases hl with h|h;simp at h;exact h)⟩
  exact Int.le_trans (Int.ofNat_le.2 hk7) (by omega)
 ·refine O6 (fun n=>Q0.eq_1 n _ _ _) (U.no rfl (U.no rfl (U.no rfl (U.no rfl (U.no rfl (U.no rfl (U.no rfl (U.no rfl (U.I0 rfl ?_)))))))))
  refine U.H6 (O9 (k:=9) (by decide) (by decide) hm) ?_
  rintro _ _ ⟨w,a,h,hw0,hw1,hm,hq2,hq3⟩;cases h;(try simp only [Y,D.i] at hq2 hq3);refine⟨rfl,?_⟩
  refine U.I0 rfl ?_
  refine U.H6 (Gf (v:=w) hw0 (by omega)) ?_
  rintro _ _ h;cases h;refine⟨rfl,?_⟩
  refine U.I0 rfl (U.I0 (E6 (by show 1+1≤W0;simp only [W0];omega)) ?_)
  refine U.H6 (DN hm) ?_
  rintro _ _ ⟨ps,a,h,hp1,hp,hm,hq4,hq5,hq6⟩;cases h;(try simp only [Y,D.i] at hq4 hq5 hq6);refine⟨rfl,?_⟩
  refine U.I0 rfl ?_
  refine U.H6 (DN hm) ?_
  rintro _ _ ⟨qs,a,h,hq1,hq,hm,hq7,hq8,hq9⟩;cases h;(try simp only [Y,D.i] at hq1 hq7 hq8 hq9);refine⟨rfl,?_⟩
  exact U.I0 rfl (U.ret ⟨_,a,rfl,(.inr (.inr (.inr (.inr (.inr (.inr (.inr (.inl ⟨UInt8.ofNat w.toNat,ps,qs,rfl,by rw [UInt8.toNat_ofNat_of_lt' (by show w.toNat<256;omega)];omega,hp1,hq1,hp,hq⟩)))))))),hm,by omega,by
   have hk8:=Zh (n:=d+1) (nm:=[117,48+UInt8.ofNat w.toNat]) (ty:=uN) (sg:=false) (es:=[]) (fs:=[]) (bs:=[]) (its:=[]) (els:=[]) (ps:=ps) (qs:=qs)
   have hg1:(bif ps.isEmpty then 0 else (oI ps).length:Nat)+(bif ps.isEmpty then 0 else 1:Nat)=(bif ps.isEmpty then 0 else (oI ps).length+1:Nat):=by cases ps.isEmpty<;>rfl
   exact Int.le_trans (Int.ofNat_le.2 hk8) (by omega)⟩)
 ·have hdeep:=h2 (by decide)
  refine O6 (fun n=>Q0.eq_1 n _ _ _) (U.no rfl (U.no rfl (U.no rfl (U.no rfl (U.no rfl (U.no rfl (U.no rfl (U.no rfl (U.no rfl (U.I0 rfl ?_))))))))))
  (refine U.H6 (cK 1 (by decide) (c:=3) (by decide) (by decide) (by assumption)) ?_;rintro _ _ ⟨xs,a,h,hl,hx,hm,hqc,hqd⟩;cases h;(try simp only [Y,D.i] at hqc hqd);refine⟨rfl,?_⟩;replace hx:∀ e∈xs,fD 4 e:=fun e h=>fZ (by decide) (hx e h))
  refine U.I0 rfl ?_
  refine U.H6 (O9 (k:=3) (by decide) (by decide) hm) ?_
  rintro _ _ ⟨c,a,h,hc0,hc1,hm,hq2,hq3⟩;cases h;(try simp only [Y,D.i] at hq2 hq3);refine⟨rfl,?_⟩
  refine U.I0 rfl ?_
  refine U.H6 (hS hdeep b a c hc0 (by omega) hm) ?_
  rintro _ _ ⟨zs,a,h,hz1,hz,hm,hq4,hq5⟩;cases h;(try simp only [Y,D.i] at hq4 hq5);refine⟨rfl,?_⟩
  exact U.I0 rfl (U.ret ⟨_,a,rfl,(.inr (.inr (.inr (.inr (.inr (.inr (.inr (.inr (.inl ⟨xs,zs,rfl,hl,hx,by omega,hz⟩))))))))),hm,by omega,by
   show (((vI (d+1+1) (I 9 [105] [] false xs [] [] [gB [103] zs] [] [] [])).length:Nat):Int)≤_
   rw [Zi hl];omega⟩)
 ·exact uI 10 (by omega) (h2 (by decide)) rfl rfl rfl rfl rfl rfl rfl rfl rfl rfl
 ·exact uI 11 (by omega) (h2 (by decide)) rfl rfl rfl rfl rfl rfl rfl rfl rfl rfl
end
theorem Hy {d:Nat}{deep:Int}(hI:∀ b a,Mk b a→U (fun n=>cC n deep (.Z 1 b) a) (fun r=>∃ x a',r=(true,[x,.Z 1 b,.int .i64 a'])∧xI d x∧Mk b a'∧a≤a'∧(((vI d x).length:Nat):Int)≤17*(a'-a)+5)){m:Nat}(hmm:m≤100){b:List D} :
  ∀ (c j:Nat) (zs:List D) (a:Int),j+c=m→zs.length=j→(∀ x∈zs,xI d x)→Mk b a→U (fun n=>aJ n deep (m:Int) (j:Int) (.Z 1 b) a (.Z 11 zs))
  fun r=>∃ (q:Int) (zs':List D) (a':Int),r=(false,[.int .i64 deep,.int .i64 (m:Int),.int .i64 q,.Z 1 b,.int .i64 a',.Z 11 zs'])∧zs'.length=m∧(∀ x∈zs',xI d x)∧Mk b a'∧a≤a'∧(sL (vI d) zs':Int)≤sL (vI d) zs+17*(a'-a)+5*c:=by
 intro c
 induction c with
 |zero=>
  intro j zs a hj hl hz hm
  exact U.eq (fun n=>pI n _ _ _ _ _ _) (U.no (E8 (by omega)) (U.ret ⟨_,zs,a,rfl,by omega,hz,hm,by omega,by omega⟩))
 |succ c ih=>
  intro j zs a hj hl hz hm
  refine U.eq (fun n=>pI n _ _ _ _ _ _) (U.I0 (E6 (by omega)) ?_)
  rw [P0 (by omega)]
  refine U.H6 (hI b a hm) ?_
  rintro _ _ ⟨x,a,h,hx,hm,hq1,hq2⟩;cases h;(try simp only [Y,D.i] at hq1 hq2);refine⟨rfl,?_⟩
  cases d with
  |zero=>exact hx.elim
  |succ d=>
   have hx0:=hx
   obtain⟨k1,nm1,ty1,sg1,es1,fs1,bs1,its1,els1,ps1,qs1,rfl⟩:=Sh hx
   refine U.I0 rfl (U.I0 (B2 (by simp only [L7];omega)) ?_)
   refine (ih (j+1) _ a (by omega) (by simp;omega) (HU hz hx0) hm).mono fun r hr=>?_
   obtain⟨q,zs',a',h1,h2,h3,h4,h5,h6⟩:=hr
   rw [oZ] at h6
   replace h6:(sL (vI (d+1)) zs':Int)≤((sL (vI (d+1)) zs+(vI (d+1) (I k1 nm1 ty1 sg1 es1 fs1 bs1 its1 els1 ps1 qs1)).length:Nat):Int)+17*(a'-a)+5*c:=h6
   exact⟨q,zs',a',h1,h2,h3,h4,by omega,by omega⟩
theorem DO {d:Nat}{deep:Int}(hI:∀ b a,Mk b a→U (fun n=>cC n deep (.Z 1 b) a) (fun r=>∃ x a',r=(true,[x,.Z 1 b,.int .i64 a'])∧xI d x∧Mk b a'∧a≤a'∧(((vI d x).length:Nat):Int)≤17*(a'-a)+5)){b:List D}{a c:Int}(h0:0≤c)(h1:c≤100)(hm:Mk b a) :
  U (fun n=>T6 n deep c (.Z 1 b) a) fun r=>∃ zs a',r=(true,[.Z 1 b,.int .i64 a',.Z 11 zs])∧zs.length≤c.toNat∧(∀ x∈zs,xI d x)∧Mk b a'∧a≤a'∧(sL (vI d) zs:Int)≤17*(a'-a)+5*c:=by
 obtain⟨m,rfl⟩:∃ m:Nat,c=(m:Int):=⟨c.toNat,by omega⟩
 refine U.eq (fun n=>EZ n _ _ b a) ?_
 refine U.L3 (Hy hI (m:=m) (by omega) m 0 [] a (by omega) rfl L8 hm) (fun ds h=>by obtain⟨_,_,_,h,_⟩:=h;cases h) fun ds h=>?_
 obtain⟨q,zs,a,h,h1,h2,hm,h3,h4⟩:=h
 cases h
 exact U.I0 rfl (U.ret ⟨zs,a,rfl,by omega,h2,hm,h3,by simp only [sL] at h4;omega⟩)
theorem VR:∀ (d:Nat) (deep:Int),d≤10→-1000≤deep→deep≤(d:Int)+1→∀ b a,Mk b a→U (fun n=>cC n deep (.Z 1 b) a) (fun r=>∃ x a',r=(true,[x,.Z 1 b,.int .i64 a'])∧xI (d+2) x∧Mk b a'∧a≤a'∧(((vI (d+2) x).length:Nat):Int)≤17*(a'-a)+5):=by
 intro d
 induction d with
 |zero=>
  intro deep hd h0 h1 b a hm
  refine U.eq (fun n=>uC n deep b a) ?_
  refine U.H6 (O9 (k:=12) (by decide) (by decide) hm) ?_
  rintro _ _ ⟨v,a,h,hv0,hv1,hm,hq1,hq2⟩;cases h;(try simp only [Y,D.i] at hq1 hq2);refine⟨rfl,?_⟩
  refine U.I0 rfl (U.I0 (E6 (by omega)) ?_)
  have e1:0≤v.tmod 9:=Int.tmod_nonneg 9 hv0
  have e2:v.tmod 9<9:=Int.tmod_lt_of_pos v (by decide)
  exact wP (fun h=>by omega) hm e1 (by show v.tmod 9≤11;omega) (fun h=>by have h:8<v.tmod 9:=h;omega) hq1 (by rcases hq2 with rfl|h;exact .inl rfl;exact .inr h)
 |succ d ih=>
  intro deep hd h0 h1 b a hm
  have hS:2≤deep→Tf (d+1+1) deep:=by
   intro h b a c hc0 hc1 hm
   rw [Q3 (by omega) (by omega)]
   exact DO (fun b a hm=>ih (deep-1) (by omega) (by omega) (by omega) b a hm) hc0 (by omega) hm
  refine U.eq (fun n=>uC n deep b a) ?_
  refine U.H6 (O9 (k:=12) (by decide) (by decide) hm) ?_
  rintro _ _ ⟨v,a,h,hv0,hv1,hm,hq1,hq2⟩;cases h;(try simp only [Y,D.i] at hq1 hq2);refine⟨rfl,?_⟩
  refine U.I0 rfl (U.N9 (fun _=>?_) fun hc=>?_)
  ·have e1:0≤v.tmod 9:=Int.tmod_nonneg 9 hv0
   have e2:v.tmod 9<9:=Int.tmod_lt_of_pos v (by decide)
   exact wP hS hm e1 (by show v.tmod 9≤11;omega) (fun h=>by have h:8<v.tmod 9:=h;omega) hq1 (by rcases hq2 with rfl|h;exact .inl rfl;exact .inr h)
  ·have hc:=E9 hc
   exact wP hS hm hv0 (by show v≤11;omega) (fun _=>by omega) hq1 hq2
section
variable {b b0:List D} {i0:Int} {ms its0:List D} {nm:G1}
theorem Cn:∀ (c:Nat) (zs:List D) (a:Int),zs.length+c≤2→(∀ x∈zs,xP x)→Mk b a→U (fun n=>eO n (.Z 1 b0) i0 (c:Int) (.Z 1 b) a (.Z 4 ms) (.str nm) (.Z 11 zs) (.Z 11 []) (.Z 11 []))
  fun r=>∃ (q:Int) (zs':List D) (a':Int),r=(false,[.Z 1 b0,.int .i64 i0,.int .i64 q,.Z 1 b,.int .i64 a',.Z 4 ms,.str nm,.Z 11 zs',.Z 11 [],.Z 11 []])∧zs'.length≤zs.length+c∧(∀ x∈zs',xP x)∧Mk b a'∧a≤a'∧(sL rJ zs':Int)≤sL rJ zs+17*(a'-a)+4*c:=by
 intro c
 induction c with
 |zero=>
  intro zs a hl hz hm
  exact U.eq (fun n=>vH n _ _ _ _ _ _ _ _ _ _) (U.no rfl (U.ret ⟨_,zs,a,rfl,by omega,hz,hm,by omega,by omega⟩))
 |succ c ih=>
  intro zs a hl hz hm
  have hw:IntKind.i64.wrap (((c+1:Nat):Int)-1)=(c:Int):=by rw [Q3 (by omega) (by omega)];omega
  refine U.eq (fun n=>vH n _ _ _ _ _ _ _ _ _ _) (U.I0 (E6 (by omega)) ?_)
  rw [hw]
  (refine U.H6 (jH (by assumption)) ?_;rintro _ _ ⟨s,a,h,hs,hm,hqe⟩;cases h;(try simp only [Y,D.i] at hqe);refine⟨rfl,?_⟩)
  refine U.I0 rfl ?_
  (refine U.H6 (cK 1 (by decide) (c:=1) (by decide) (by decide) (by assumption)) ?_;rintro _ _ ⟨xs,a,h,hl,hx,hm,hqc,hqd⟩;cases h;(try simp only [Y,D.i] at hqc hqd);refine⟨rfl,?_⟩;replace hx:∀ e∈xs,fD 4 e:=fun e h=>fZ (by decide) (hx e h))
  obtain⟨e,rfl⟩:∃ e,xs=[e]:=by
   match xs,hl with
   |[e],_=>exact⟨e,rfl⟩
  refine U.I0 rfl (U.I0 (B2 (by simp only [L7];omega)) ((ih _ a (by simp;omega) (HU hz ⟨_,e,rfl,hs,hx e (C3.2 rfl)⟩) hm).mono fun r hr=>?_))
  obtain⟨q,zs',a',h1,h2,h3,h4,h5,h6⟩:=hr
  rw [oZ] at h6
  have hw:(rJ (I 2 s rL false [e] [] [] [] [] [] [])).length=(wE 4 e).length+3:=by
   show ([(1,rL),(1,s),(3,[61])]++wE 4 e:List Tk).length=_
   simp only [G0];omega
  replace h6:(sL rJ zs':Int)≤((sL rJ zs+(rJ (I 2 s rL false [e] [] [] [] [] [] [])).length:Nat):Int)+17*(a'-a)+4*c:=h6
  simp only [sL] at hqd
  exact⟨q,zs',a',h1,by simp at h2;omega,h3,h4,by omega,by omega⟩
theorem Hz (ps:List D):∀ (c:Nat) (zs:List D) (a:Int),zs.length+c≤3→(∀ x∈zs,xN nA x)→Mk b a→U (fun n=>eS n (.Z 1 b0) i0 (c:Int) (.Z 1 b) a (.Z 4 ms) (.str nm) (.Z 11 ps) (.Z 11 zs) (.Z 11 []))
  fun r=>∃ (q:Int) (zs':List D) (a':Int),r=(false,[.Z 1 b0,.int .i64 i0,.int .i64 q,.Z 1 b,.int .i64 a',.Z 4 ms,.str nm,.Z 11 ps,.Z 11 zs',.Z 11 []])∧zs'.length≤zs.length+c∧(∀ x∈zs',xN nA x)∧Mk b a'∧a≤a'∧(sL kC zs':Int)≤sL kC zs+17*(a'-a)+2*c:=by
 intro c
 induction c with
 |zero=>
  intro zs a hl hz hm
  exact U.eq (fun n=>vJ n _ _ _ _ _ _ _ _ _ _) (U.no rfl (U.ret ⟨_,zs,a,rfl,by omega,hz,hm,by omega,by omega⟩))
 |succ c ih=>
  intro zs a hl hz hm
  have hw:IntKind.i64.wrap (((c+1:Nat):Int)-1)=(c:Int):=by rw [Q3 (by omega) (by omega)];omega
  refine U.eq (fun n=>vJ n _ _ _ _ _ _ _ _ _ _) (U.I0 (E6 (by omega)) ?_)
  rw [hw]
  refine U.H6 (VS hm) ?_
  rintro _ _ ⟨x,a,h,hx,hm,hqc,hqd⟩;cases h;(try simp only [Y,D.i] at hqc hqd);refine⟨rfl,?_⟩
  have hx0:=hx
  obtain⟨nm1,ty1,sg1,es1,fs1,rfl⟩:=uE hx
  refine U.I0 rfl (U.I0 (B2 (by simp only [L7];omega)) ?_)
  refine (ih _ a (by simp;omega) (HU hz hx0) hm).mono fun r hr=>?_
  obtain⟨q,zs',a',h1,h2,h3,h4,h5,h6⟩:=hr
  rw [oZ] at h6
  replace h6:(sL kC zs':Int)≤((sL kC zs+(kC (I 1 nm1 ty1 sg1 es1 fs1 [] [] [] [] [])).length:Nat):Int)+17*(a'-a)+2*c:=h6
  exact⟨q,zs',a',h1,by simp at h2;omega,h3,h4,by omega,by omega⟩
end
theorem aB5 {nm:G1}{ps qs its:List D}:(vM (M nm ps qs its)).length≤(bif ps.isEmpty then 0 else (lW rJ ps).length+3)+(lW kC qs).length+sL (vI 4) its+6:=by
 show ([(1,qV),(1,nm)]++((bif ps.isEmpty then [] else [(3,[35]),(3,[40])]++(lW rJ ps++[(3,[41])]))++([(3,[40])]++(lW kC qs++([(3,[41]),(3,[59])]++(its.flatMap (vI 4)++[(1,mH)]))))):List Tk).length≤_
 cases ps.isEmpty<;>simp only [cond_true,cond_false,G0,xK]<;>omega
theorem Mu {b0:List D}:∀ (c:Nat) (ms b:List D) (a:Int),ms.length+c≤3→Bb ms→Mk b a→
  U (fun n=>bL n (.Z 1 b0) (.int .i64 ((c:Int)-1)) (.Z 1 b) a (.Z 4 ms))
  fun r=>∃ ds ms',r=(false,ds)∧Y ds 4 = .Z 4 ms'∧J3 bL.sk ds=true∧(ms≠[]∨c≠0→ms'≠[])∧ms'.length≤3∧Bb ms'∧(sL vM ms':Int)≤sL vM ms+17*(300-a)+31*c:=by
 intro c
 have stop:∀ (i:Int) (ms b:List D) (a:Int),ms.length≤3→Bb ms→Mk b a→(c=0∨ms≠[])→U (fun n=>bQ n false ms b a b0 i)
   fun r=>∃ ds ms',r=(false,ds)∧Y ds 4 = .Z 4 ms'∧J3 bL.sk ds=true∧(ms≠[]∨c≠0→ms'≠[])∧ms'.length≤3∧Bb ms'∧(sL vM ms':Int)≤sL vM ms+17*(300-a)+31*c:=
  fun i ms b a hl hz hm hc=>O6 (fun n=>bQ.eq_1 n _ _ _ _ _ _) (U.no rfl (U.ret ⟨_,ms,rfl,rfl,rfl,fun h=>by rcases hc with hc|hc;exact h.elim id (fun h=>absurd hc h);exact hc,hl,hz,by have:=hm.2.1;have:=hm.2.2.2;omega⟩))
 induction c with
 |zero=>
  intro ms b a hl hz hm
  exact U.eq (fun n=>vG n _ _ _ _ _) (U.no rfl (stop _ ms b a (by omega) hz hm (.inl rfl)))
 |succ c ih=>
  intro ms b a hl hz hm
  have hw:IntKind.i64.wrap (((c+1:Nat):Int)-1-1)=(c:Int)-1:=by rw [Q3 (by omega) (by omega)];omega
  have go:U (fun n=>bQ n true ms b a b0 (((c+1:Nat):Int)-1)) fun r=>∃ ds ms',r=(false,ds)∧Y ds 4 = .Z 4 ms'∧J3 bL.sk ds=true∧(ms≠[]∨c+1≠0→ms'≠[])∧ms'.length≤3∧Bb ms'∧(sL vM ms':Int)≤sL vM ms+17*(300-a)+31*((c+1:Nat):Int):=by
   refine O6 (fun n=>bQ.eq_1 n _ _ _ _ _ _) (U.I0 rfl ?_)
   refine U.H6 (Gf (v:=(ms.length:Int)) (by omega) (by omega)) ?_
   rintro _ _ h;cases h;refine⟨rfl,?_⟩
   refine U.I0 rfl (U.I0 (E6 (by show 1+1≤W0;simp only [W0];omega)) ?_)
   refine U.H6 (O9 (k:=3) (by decide) (by decide) hm) ?_
   rintro _ _ ⟨w,a,h,hw0,hw1,hm,hq1,hq2⟩;cases h;(try simp only [Y,D.i] at hq1 hq2);refine⟨rfl,?_⟩
   obtain⟨w,rfl⟩:∃ m:Nat,w=(m:Int):=⟨w.toNat,by omega⟩
   refine U.I0 rfl (U.L3 (Cn w [] a (by simp;omega) L8 hm) (fun ds h=>by obtain⟨_,_,_,h,_⟩:=h;cases h) fun ds h=>?_)
   obtain⟨q,ps,a,h,hp1,hp,hm,hq7,hq8⟩:=h
   cases h
   simp only [sL,A8,C5] at hq8 hp1
   have hA1:=Ai rJ ps
   have hA2:(bif ps.isEmpty then 0 else (lW rJ ps).length+3:Nat)≤(lW rJ ps).length+3∧((bif ps.isEmpty then 0 else (lW rJ ps).length+3:Nat)=0∨1≤ps.length):=by
    cases ps with
    |nil=>exact⟨C4 _,.inl rfl⟩
    |cons z zs=>exact⟨B9 _,.inr (by simp)⟩
   have hA3:=xL rJ ps
   refine U.I0 rfl (U.H6 (O9 (k:=4) (by decide) (by decide) hm) ?_)
   rintro _ _ ⟨w,a,h,hw0,hw1,hm,hq3,hq4⟩;cases h;(try simp only [Y,D.i] at hq3 hq4);refine⟨rfl,?_⟩
   obtain⟨w,rfl⟩:∃ m:Nat,w=(m:Int):=⟨w.toNat,by omega⟩
   refine U.I0 rfl (U.L3 (Hz ps w [] a (by simp;omega) L8 hm) (fun ds h=>by obtain⟨_,_,_,h,_⟩:=h;cases h) fun ds h=>?_)
   obtain⟨q,qs,a,h,hqq1,hqq,hm,hq9,hq10⟩:=h
   cases h
   simp only [sL,A8,C5] at hq10 hqq1
   have hB1:=Ai kC qs
   have hB3:=xL kC qs
   refine U.I0 rfl (U.H6 (O9 (k:=6) (by decide) (by decide) hm) ?_)
   rintro _ _ ⟨w,a,h,hw0,hw1,hm,hq5,hq6⟩;cases h;(try simp only [Y,D.i] at hq5 hq6);refine⟨rfl,?_⟩
   refine U.I0 rfl (U.H6 (DO (d:=4) (fun b a hm=>VR 2 3 (by decide) (by decide) (by decide) b a hm) (c:=w) hw0 (by omega) hm) ?_)
   rintro _ _ ⟨its,a,h,hi1,hi,hm,hq11,hq12⟩;cases h;(try simp only [Y,D.i] at hq11 hq12);refine⟨rfl,?_⟩
   refine U.I0 rfl (U.I0 (B2 (by show ms.length+1≤L7;simp only [L7];omega)) ?_)
   have hx:xM ms.length (M ([109]++[48+UInt8.ofNat ((ms.length:Nat):Int).toNat]) ps qs its):=⟨ps,qs,its,rfl,by omega,by omega,by omega,hp,hqq,hi⟩
   have hW:=aB5 (nm:=[109]++[48+UInt8.ofNat ((ms.length:Nat):Int).toNat]) (ps:=ps) (qs:=qs) (its:=its)
   have L:=ih (fun i ms b a hl hz hm hc=>O6 (fun n=>bQ.eq_1 n _ _ _ _ _ _) (U.no rfl (U.ret ⟨_,ms,rfl,rfl,rfl,fun h=>by rcases hc with hc|hc;exact h.elim id (fun h=>absurd hc h);exact hc,hl,hz,by have:=hm.2.1;have:=hm.2.2.2;omega⟩))) (ms++[M ([109]++[48+UInt8.ofNat ((ms.length:Nat):Int).toNat]) ps qs its]) b a (by simp;omega) (Ou hz hx) hm
   rw [← hw] at L
   refine L.mono fun r hr=>?_
   obtain⟨ds,ms',h1,h2,h3,h4,h5,h6,h7⟩:=hr
   rw [oZ] at h7
   exact⟨ds,ms',h1,h2,h3,fun _=>h4 (.inl (by simp)),h5,h6,by omega⟩
  refine U.eq (fun n=>vG n _ _ _ _ _) (U.I0 (E6 (by omega)) (U.N9 (fun _=>go) fun hne=>?_))
  have hne:ms≠[]:=by
   rintro rfl
   exact absurd hne (by decide)
  refine (show ∀ g:Bool,U (fun n=>bQ n g ms b a b0 (((c+1:Nat):Int)-1)) _ from fun g=>?_) _
  cases g with
  |true=>exact go
  |false=>exact stop _ ms b a (by omega) hz hm (.inr hne)
theorem Ms {b:List D}(hb:Bytes b)(hl:b.length≤300):U (fun n=>iP n (.Z 1 b)) fun r=>∃ ms,r=(true,[.Z 4 ms])∧ms≠[]∧ms.length≤3∧Bb ms∧sL vM ms≤5193:=by
 refine U.eq (fun n=>RG n b) ?_
 refine U.H6 (O9 (k:=3) (by decide) (by decide) (a:=0) ⟨hb,hl,by decide,by omega⟩) ?_
 rintro _ _ ⟨v,a,h,hv0,hv1,hm,hq1,hq2⟩;cases h;(try simp only [Y,D.i] at hq1 hq2);refine⟨rfl,?_⟩
 obtain⟨c,rfl⟩:∃ c:Nat,v=((c+1:Nat):Int)-1:=⟨v.toNat,by omega⟩
 refine U.I0 rfl (U.L3 (Mu (c+1) [] b a (by simp;omega) Si hm) (fun ds h=>by obtain⟨_,_,h,_⟩:=h;cases h) fun ds h=>?_)
 obtain⟨ds',ms,h,h1,h2,h3,h4,h5,h6⟩:=h
 cases h
 simp only [sL] at h6
 refine U.I0 h2 (U.ret ⟨ms,?_,h3 (.inr (by simp)),h4,h5,by omega⟩)
 rw [h1];rfl
end
section
def Nm (x:G1)(a b e:Int):D:= .agg [.int .i64 2,.int .i64 a,.int .i64 b,.int .i64 e,.str x,.Z 6 []]
inductive BT where
 |nm (x:G1)
 |bn (o:G1) (l r:BT)
theorem Md:(Cj.all fun s=>decide (s.length≤100))=true:=by kernel_rfl
theorem Vf (s:G1)(h:s∈Cj):s.length≤100:=E7 (B6.1 Md s h)
abbrev XJ:=List (G1×G1)
inductive Bd:G1→XJ→List G1→Prop
 |one (x:G1):Bd x [] [x]
 |split {x:G1} {q1:XJ} {o y:G1} {q2:XJ} {w1 w2:List G1}:Bd x q1 w1→Bd y q2 w2→(∀ p∈q1,LQ o≤LQ p.1)→(∀ p∈q2,LQ o<LQ p.1)→
   Bd x (q1++(o,y)::q2) ((bif q1.isEmpty then w1 else [[40]]++w1++[[41]])++[o]++(bif q2.isEmpty then w2 else [[40]]++w2++[[41]]))
def Ie (t:G1):Bool:=qQ t&&!(t==[40])&&!(t==[123])&&!(t==[36,115,105,103,110,101,100])&&!(t==[36,117,110,115,105,103,110,101,100])
def Ub (l:List D):Nat→XJ→Prop
 |i,[]=>∃ a b e,l[i]? = some (tk 3 [59] a b e)
 |i,(o,y)::r=>(∃ a b e,l[i]? = some (tk 3 o a b e))∧(∃ a b e,l[i+1]? = some (tk 1 y a b e))∧o∈AR∧Ie y=true∧Ub l (i+2) r
theorem Tl:(AR.all fun o=>!(o==[91])&&!(o==[40])&&!(o==[63])&&!(o==[94,126]))=true:=by kernel_rfl
theorem Nd {o:G1}(ho:o∈AR):U (fun n=>iJ n (.str o)) fun r=>r=(true,[.str o]):=by
 have:=B6.1 Tl o ho
 simp only [A9,D8] at this
 exact U.eq (fun n=>BB n o) (U.no this.2 (U.ret rfl))
theorem Ub.next {l:List D}{i:Nat}{ps:XJ}(h:Ub l i ps):∃ t a b e,l[i]? = some (tk 3 t a b e)∧(t==[91])=false∧(t==[40])=false∧(t==[63])=false:=by
 match ps,h with
 |[],⟨a,b,e,h⟩=>exact⟨_,a,b,e,h,rfl,rfl,rfl⟩
 |(o,y)::r,⟨⟨a,b,e,h⟩,_,ho,_⟩=>
  have:=B6.1 Tl o ho
  simp only [A9,D8] at this
  exact⟨o,a,b,e,h,this.1.1.1,this.1.1.2,this.1.2⟩
section
variable {l:List D} {d c p0 p1 p2:Int} (hl:l.length≤1000000)
include hl
theorem MI {i:Nat}{t t2:G1}{k2 a b e a2 b2 e2:Int}(h:l[i]? = some (tk 1 t a b e))(hg:qQ t=true)(h2:l[i+1]? = some (tk k2 t2 a2 b2 e2))(hb:(t2==[91])=false) :
  U (fun n=>P8 n (.Z 5 l) (i:Int) d c p0 p1 p2 (0:Int)) fun r=>r=(true,[Nm t a b e,.Z 5 l,.int .i64 ((i+1:Nat):Int),.int .i64 d,.int .i64 c,.int .i64 p0,.int .i64 p1,.int .i64 p2,.int .i64 0]):=by
 refine U.eq (fun n=>lQ n l i d c p0 p1 p2 0) (U.H6 (S5 h) ?_)
 intro _ ds h0;cases h0;refine⟨rfl,U.I0 rfl (U.H6 (kB hl h hg) ?_)⟩
 intro _ ds h0;cases h0;refine⟨rfl,U.I0 rfl (U.H6 (J7 h2 (by rw [hb];rfl)) ?_)⟩
 intro _ ds h0;cases h0;exact⟨rfl,U.I0 rfl (U.I0 rfl (U.ret rfl))⟩
theorem Vs {i:Nat}{t t2:G1}{k2 a b e a2 b2 e2:Int}(h:l[i]? = some (tk 1 t a b e))(hg:Ie t=true)(h2:l[i+1]? = some (tk k2 t2 a2 b2 e2))(hb:(t2==[91])=false)(hb2:(t2==[40])=false) :
  U (fun n=>cO n (.Z 5 l) (i:Int) d c p0 p1 p2 (0:Int)) fun r=>r=(true,[Nm t a b e,.Z 5 l,.int .i64 ((i+1:Nat):Int),.int .i64 d,.int .i64 c,.int .i64 p0,.int .i64 p1,.int .i64 p2,.int .i64 0]):=by
 simp only [Ie,A9,D8] at hg
 obtain⟨⟨⟨⟨g1,g2⟩,g3⟩,g4⟩,g5⟩:=hg
 refine U.eq (fun n=>aU n l i d c p0 p1 p2 0) (U.H6 (S5 h) ?_)
 intro _ ds h0;cases h0;refine⟨rfl,U.I0 rfl (U.no rfl (U.H6 (J7 h (by rw [g2];rfl)) ?_))⟩
 intro _ ds h0;cases h0;refine⟨rfl,U.I0 rfl (U.no rfl (U.H6 (J7 h (by rw [g3];rfl)) ?_))⟩
 intro _ ds h0;cases h0;refine⟨rfl,U.I0 rfl (U.no rfl (U.H6 (gM _ h) ?_))⟩
 intro _ ds h0;cases h0;refine⟨rfl,U.I0 rfl (U.no (by show (_&&_)=false;rw [g4];rfl) (U.H6 (gM _ h) ?_))⟩
 intro _ ds h0;cases h0;refine⟨rfl,U.I0 rfl (U.no (by show (_&&_)=false;rw [g5];rfl) (U.H6 (MI hl h g1 h2 hb) ?_))⟩
 intro _ ds h0;cases h0;refine⟨rfl,U.I0 rfl (U.I0 rfl (U.H6 (gM [40] h2) ?_))⟩
 intro _ ds h0;cases h0;refine⟨rfl,U.I0 rfl (O6 (fun n=>fM.eq_1 n _ _ _ _ _ _ _ _ _ _ _) (U.no (by show (_&&_)=false;rw [hb2];rfl) (U.ret rfl)))⟩
end
end
section
section
variable {l:List D} {d c p0 p1 p2:Int}
theorem kG (i:Int)(hd:d<40)(hd0:0≤d):U (fun n=>X5 n (.Z 5 l) i d c p0 p1 p2 (0:Int)) fun r=>r=(true,[.bool true,.Z 5 l,.int .i64 i,.int .i64 (d+1),.int .i64 c,.int .i64 p0,.int .i64 p1,.int .i64 p2,.int .i64 0]):=by
 have w1:IntKind.i64.wrap (d+1)=d+1:=Q3 (by omega) (by omega)
 exact U.eq (fun n=>EU n l i d c p0 p1 p2 0) (U.no (E8 (by rw [w1];omega)) (U.ret (by rw [w1];rfl)))
theorem fS (i:Int)(hd:d<40)(hd0:0≤d):U (fun n=>K6 n (.Z 5 l) i (d+1:Int) c p0 p1 p2 (0:Int)) fun r=>r=(true,[.Z 5 l,.int .i64 i,.int .i64 d,.int .i64 c,.int .i64 p0,.int .i64 p1,.int .i64 p2,.int .i64 0]):=by
 have w2:IntKind.i64.wrap (d+1-1)=d:=by rw [Q3 (by omega) (by omega)];omega
 exact U.eq (fun n=>CS n l i (d+1) c p0 p1 p2 0) (U.ret (by rw [w2]))
theorem X4 (i:Int)(hc:c<4000)(hc0:0≤c):U (fun n=>X8 n (.Z 5 l) i d c p0 p1 p2 (0:Int)) fun r=>r=(true,[.Z 5 l,.int .i64 i,.int .i64 d,.int .i64 (c+1),.int .i64 p0,.int .i64 p1,.int .i64 p2,.int .i64 0]):=by
 have w1:IntKind.i64.wrap (c+1)=c+1:=Q3 (by omega) (by omega)
 exact U.eq (fun n=>vD n l i d c p0 p1 p2 0) (U.no (E8 (by rw [w1];omega)) (U.ret (by rw [w1])))
theorem P5 {i:Nat}{k a b e:Int}{w:G1}(h:l[i]? = some (tk k w a b e))(hk:(k !=2)=true):FM l i [w]:=by
 intro j hj
 have:j=0:=by simpa using hj
 subst this
 exact⟨k,a,b,e,h,hk⟩
def AI (a b e:Int)(u v:D):D:= .agg [.int .i64 4,.int .i64 a,.int .i64 b,.int .i64 e,.str [],.str [],.bool false,.Z 6 [u,v],.Z 6 [],.Z 8 [],.Z 14 [],.Z 14 [],.Z 5 [],.Z 5 []]
end
end
section
def K0 (l:List D):Nat→List Tk→Prop
 |_,[]=>True
 |i,w::ws=>(∃ a b e,l[i]? = some (tk w.1 w.2 a b e))∧K0 l (i+1) ws
theorem K4 {l:List D}:∀ {u:List Tk} {i:Nat} {v:List Tk},K0 l i (u++v)↔K0 l i u∧K0 l (i+u.length) v
 |[],i,v=>by simp [K0]
 |w::u,i,v=>by
  have:=K4 (l:=l) (u:=u) (i:=i+1) (v:=v)
  simp only [List.cons_append,K0,this,A0,and_assoc]
  rw [show i+1+u.length=i+(u.length+1) from by omega]
def PE (k a b e:Int)(t:G1)(ar:List D):D:= .agg [.int .i64 k,.int .i64 a,.int .i64 b,.int .i64 e,.str t,.Z 6 ar]
def Sm:Nat→D→D→Prop
 |0,_,_=>False
 |n+1,x,y=>∃ k t ar a b e ar',x=E k t ar∧y=PE k a b e t ar'∧F2 (Sm n) ar ar'
def MR (y:D):Prop:=∃ v0 v1 v2 v3 vt vs,y = .agg [.int .i64 v0,.int .i64 v1,.int .i64 v2,.int .i64 v3,.str vt,.Z 6 vs]
theorem eG {n:Nat}{x y:D}(h:Sm n x y):MR y:=by
 cases n with
 |zero=>exact h.elim
 |succ n=>obtain⟨k,t,ar,a,b,e,ar',_,rfl,_⟩:=h;exact⟨_,_,_,_,_,_,rfl⟩
abbrev PF:=Nat→D→D→D→D→D→D→D→D→Out
def Ph (F:PF)(l:List D)(i m:Nat)(R:D→Prop)(h:Nat):Prop:=
 ∀ d c p0 p1 p2:Int,0≤d→d+h≤40→U (fun n=>F n (.Z 5 l) (i:Int) d c p0 p1 p2 (0:Int)) fun r=>∃ y,R y∧r=(true,[y,.Z 5 l,.int .i64 ((i+m:Nat):Int),.int .i64 d,.int .i64 c,.int .i64 p0,.int .i64 p1,.int .i64 p2,.int .i64 0])
theorem Ph.mono {F:PF}{l:List D}{i m:Nat}{R R':D→Prop}{h h':Nat}(H:Ph F l i m R h)(hr:∀ y,R y→R' y)(hh:h≤h'):Ph F l i m R' h':=by
 intro d c p0 p1 p2 hd hd2
 exact (H d c p0 p1 p2 hd (by omega)).mono fun r ⟨y,hy,e⟩=>⟨y,hr y hy,e⟩
def Nx (l:List D)(i:Nat)(p:G1→Bool):Prop:=∃ t a b e,l[i]? = some (tk 3 t a b e)∧p t=true
theorem Nx.mono {l:List D}{i:Nat}{p q:G1→Bool}(h:Nx l i p)(hpq:∀ t,p t=true→q t=true):Nx l i q:=by
 obtain⟨t,a,b,e,h1,h2⟩:=h
 exact⟨t,a,b,e,h1,hpq t h2⟩
def Ul:List G1:=[[41],[93],[125],[44],[59],[58],[123]]
def cl (t:G1):Bool:=Ul.contains t
def cu (t:G1):Bool:=Ul.contains t||AR.contains t||t==[63]
theorem Xv (t:G1)(h:cl t=true):cu t=true:=by unfold cu;rw [show Ul.contains t=true from h];rfl
def vA (j:Nat)(t:G1):Bool:=decide (t.length≤3)&&(List.range 10).all fun i=>decide (i<j)||!decide (0≤bV (([32]++t)++[32]) (Cj[i]?.getD []) 0)
theorem FY:(([63]::Ul).all (vA 0))=true:=by kernel_rfl
theorem FW {t:G1}(h:cl t=true)(j:Nat):vA j t=true:=by
 have:=B6.1 FY t (C0 _ (by simpa [cl] using h))
 simp only [vA,A9,B6,List.mem_range,Bool.or_eq_true] at this ⊢
 refine⟨this.1,fun i hi=>?_⟩
 rcases this.2 i hi with h|h
 ·exact absurd (E7 h) (by omega)
 ·exact .inr h
theorem Ru (j:Nat):vA j [63]=true:=by
 have:=B6.1 FY [63] (B8 ..)
 simp only [vA,A9,B6,List.mem_range,Bool.or_eq_true] at this ⊢
 refine⟨this.1,fun i hi=>?_⟩
 rcases this.2 i hi with h|h
 ·exact absurd (E7 h) (by omega)
 ·exact .inr h
theorem Nc {o:G1}(ho:o∈AR):vA (LQ o+1) o=true:=by
 simp only [vA,A9,B6,List.mem_range,Bool.or_eq_true]
 refine⟨E6 (WB ho),fun i hi=>?_⟩
 rw [Tc ho hi]
 by_cases h:i<LQ o+1
 ·exact .inl (E6 h)
 ·refine .inr ?_
  rw [F4.2 (by omega:LQ o≠i)];rfl
theorem Mw {j i:Nat}{t:G1}(h:vA j t=true)(hi:i<10)(hj:j≤i):decide (0≤bV (([32]++t)++[32]) (Cj[i]?.getD []) 0)=false:=by
 simp only [vA,A9,B6,List.mem_range,Bool.or_eq_true] at h
 rcases h.2 i hi with h|h
 ·exact absurd (E7 h) (by omega)
 ·simpa using h
section
variable {l:List D} (hl:l.length≤1000000)
def aD4 (l:List D)(i:Nat)(d c p0 p1 p2:Int)(j:Nat)(a b e:Int)(R:D→Prop)(r:Bool×List D):Prop:=
 ∃ u0 u1 u2 u3 su us,R (.agg [.int .i64 u0,.int .i64 u1,.int .i64 u2,.int .i64 u3,.str su,.Z 6 us])∧
  r=(false,[.int .i64 (j:Int),.Z 5 l,.int .i64 (i:Int),.int .i64 d,.int .i64 c,.int .i64 p0,.int .i64 p1,.int .i64 p2,.int .i64 0,.int .i64 0,.int .i64 0,.int .i64 0,.int .i64 0,.str [],.int .i64 a,.int .i64 b,.int .i64 e,.int .i64 u0,.int .i64 u1,.int .i64 u2,.int .i64 u3,.str su,.Z 6 us,.Z 6 []])
theorem Fb {j:Nat}(hj:j<10){i:Nat}{d c p0 p1 p2:Int}{t:G1}{a1 b1 e1 a b e k0 k1 k2 k3:Int}{s0:G1}{xs0:List D}{Q:Bool×List D→Prop}(ht:l[i]? = some (tk 3 t a1 b1 e1))(hlen:t.length≤3)
  (K:∀ r1,r1=[tk 3 t a1 b1 e1,.Z 5 l,.int .i64 (i:Int),.int .i64 d,.int .i64 c,.int .i64 p0,.int .i64 p1,.int .i64 p2,.int .i64 0]→U (fun n=>cA n (!decide (0≤bV (([32]++t)++[32]) (Cj[j]?.getD []) 0)) (j:Int) r1 0 0 0 0 [] a b e k0 k1 k2 k3 s0 xs0 []) Q) :
  U (fun n=>S8 n (j:Int) (.Z 5 l) (i:Int) d c p0 p1 p2 (0:Int) (0:Int) (0:Int) (0:Int) (0:Int) (.str []) a b e k0 k1 k2 k3 (.str s0) (.Z 6 xs0) (.Z 6 [])) Q:=by
 have hX:((Cj.map D.str)[((j:Nat):Int).toNat]?.getD D.top) = .str (Cj[j]?.getD []):=by
  rw [show ((j:Nat):Int).toNat=j from rfl,List.getElem?_map,C2 (show j<Cj.length from hj)];rfl
 have hXs:((Cj.map D.str)[((j:Nat):Int).toNat]?.getD D.top).s=Cj[j]?.getD []:=congrArg D.s hX
 have hXl:((Cj.map D.str)[((j:Nat):Int).toNat]?.getD D.top).s.length≤4294967280:=by
  rw [hXs,C2 (show j<Cj.length from hj)]
  exact Nat.le_trans (Vf _ (C6 _)) (by decide)
 refine U.eq (fun n=>uL n _ l _ _ _ _ _ _ _ _ _ _ _ _ _ _ _ _ _ _ _ _ _ _) (U.I0 rfl (U.H6 (S5 (d:=d) (c:=c) (p0:=p0) (p1:=p1) (p2:=p2) ht) ?_))
 intro _ ds h0;cases h0
 refine⟨rfl,U.I0 rfl (U.no rfl (U.I0 (K3 (E6 (by omega)) (E6 (by omega))) (U.I0 (by exact congrArg (fun x=>L6 (.leaf .str)&&Q5 (.leaf .str) x) hX) (U.I0 (E6 (by show 1+t.length≤W0;simp only [W0];omega)) (U.I0 (E6 (by show ([32]++t).length+1≤W0;simp only [W0,A7,C9];omega)) (U.H6 (jK (s:=((Cj.map D.str)[((j:Nat):Int).toNat]?.getD D.top).s) hXl (([32]++t)++[32])) ?_))))))⟩
 intro _ ds h0;cases h0
 refine⟨rfl,U.I0 rfl ?_⟩
 have:=K _ rfl
 rw [← hXs] at this
 exact this
theorem Mc {j:Nat}(hj:j<10){i:Nat}{d c p0 p1 p2:Int}{p:G1→Bool}(hn:Nx l i p)(hp:∀ t,p t=true→vA j t=true){a b e k0 k1 k2 k3:Int}{s0:G1}{xs0:List D}{R:D→Prop}
  (hr:R (.agg [.int .i64 k0,.int .i64 k1,.int .i64 k2,.int .i64 k3,.str s0,.Z 6 xs0])) :
  U (fun n=>S8 n (j:Int) (.Z 5 l) (i:Int) d c p0 p1 p2 (0:Int) (0:Int) (0:Int) (0:Int) (0:Int) (.str []) a b e k0 k1 k2 k3 (.str s0) (.Z 6 xs0) (.Z 6 [])) (aD4 l i d c p0 p1 p2 j a b e R):=by
 obtain⟨t,a1,b1,e1,ht,h2⟩:=hn
 have hno:=hp t h2
 have hlen:t.length≤3:=by simp only [vA,A9] at hno;exact E7 hno.1
 refine Fb hj (d:=d) (c:=c) (p0:=p0) (p1:=p1) (p2:=p2) ht hlen fun r1 hr1=>?_
 rw [Mw hno hj (B9 _)]
 subst hr1
 exact O6 (fun n=>cA.eq_1 n _ _ _ _ _ _ _ _ _ _ _ _ _ _ _ _ _ _) (U.I0 rfl (U.ret ⟨k0,k1,k2,k3,s0,xs0,hr,rfl⟩))
noncomputable def Ci (j:Nat):PF:=fun n=>T4 n (j:Int)
theorem uX {i m:Nat}{R:D→Prop}{h:Nat}(hR:∀ y,R y→MR y){p:G1→Bool}(hn:Nx l (i+m) p)(hx:∃ k t a b e,l[i]? = some (tk k t a b e)):∀ (q j:Nat),j+q≤10→(∀ t,p t=true→vA j t=true)→Ph (Ci (j+q)) l i m R h→Ph (Ci j) l i m R h
 |0,j,_,_,H=>H
 |q+1,j,hq,hp,H=>by
  have H1:Ph (Ci (j+1)) l i m R h:=uX hR hn hx q (j+1) (by omega) (fun t ht=>by
   have:=hp t ht
   simp only [vA,A9,B6,List.mem_range,Bool.or_eq_true] at this ⊢
   refine⟨this.1,fun i hi=>?_⟩
   rcases this.2 i hi with h|h
   ·exact .inl (E6 (by have:=E7 h;omega))
   ·exact .inr h) (by rw [show j+1+q=j+(q+1) from by omega];exact H)
  intro d c p0 p1 p2 hd hd2
  obtain⟨k,t,a,b,e,ht⟩:=hx
  have I:=H1 d c p0 p1 p2 hd hd2
  unfold Ci at I ⊢
  rw [← P0 (by omega)] at I
  refine U.eq (fun n=>kQ n _ l i d c p0 p1 p2 0) (U.no (F4.2 (by omega)) (U.H6 (S5 (d:=d) (c:=c) (p0:=p0) (p1:=p1) (p2:=p2) ht) ?_))
  intro _ ds h0;cases h0
  refine⟨rfl,U.I0 rfl (U.H6 I ?_)⟩
  rintro _ ds ⟨y,hy,h0⟩
  cases h0
  obtain⟨v0,v1,v2,v3,vt,vs,rfl⟩:=hR y hy
  refine⟨rfl,U.I0 rfl (U.L3 (Mc (l:=l) (i:=i+m) (d:=d) (c:=c) (p0:=p0) (p1:=p1) (p2:=p2) (R:=R) (by omega) hn hp hy) (fun ds h=>by obtain⟨_,_,_,_,_,_,_,h⟩:=h;cases h) fun ds h=>?_)⟩
  obtain⟨u0,u1,u2,u3,su,us,hr,h⟩:=h
  cases h
  exact U.I0 rfl (U.ret ⟨_,hr,rfl⟩)
theorem tS {i m:Nat}{R:D→Prop}{h:Nat}(hR:∀ y,R y→MR y)(H:Ph (fun n=>T5 n) l i m R h):Ph (Ci 10) l i m R h:=by
 intro d c p0 p1 p2 hd hd2
 refine U.eq (fun n=>kQ n _ l i d c p0 p1 p2 0) (U.I0 rfl (U.H6 (H d c p0 p1 p2 hd hd2) ?_))
 rintro _ ds ⟨y,hy,h0⟩
 cases h0
 obtain⟨v0,v1,v2,v3,vt,vs,rfl⟩:=hR y hy
 exact⟨rfl,U.I0 rfl (U.ret ⟨_,hy,rfl⟩)⟩
include hl
theorem Hn {i m1 m2:Nat}{R1 R2:D→Prop}{h:Nat}{o:G1}(ho:o∈AR)(hR1:∀ y,R1 y→MR y)(hR2:∀ y,R2 y→MR y)(hx:∃ k t a b e,l[i]? = some (tk k t a b e))
  (H1:Ph (fun n=>T5 n) l i m1 R1 h) (hop:∃ a b e,l[i+m1]? = some (tk 3 o a b e)) (hx2:∃ k t a b e,l[i+m1+1]? = some (tk k t a b e))
  (H2:Ph (fun n=>T5 n) l (i+m1+1) m2 R2 h) (hn:Nx l (i+m1+1+m2) cl) :
  Ph (Ci 0) l i (m1+1+m2) (fun y=>∃ a b e u v,y=PE 4 a b e o [u,v]∧R1 u∧R2 v) h:=by
 have hlo:=Ve ho
 have hR:∀ y,(∃ a b e u v,y=PE 4 a b e o [u,v]∧R1 u∧R2 v)→MR y:=fun y ⟨a,b,e,u,v,hy,_⟩=>⟨_,_,_,_,_,_,hy⟩
 have hnx:Nx l (i+(m1+1+m2)) cl:=by rw [show i+(m1+1+m2)=i+m1+1+m2 from by omega];exact hn
 refine uX hR hnx hx (LQ o) 0 (by omega) (fun t ht=>FW ht _) ?_
 rw [C5]
 obtain⟨a2,b2,e2,hop⟩:=hop
 have L1:Ph (Ci (LQ o+1)) l i m1 R1 h:=uX hR1 (p:=fun t=>t==o) ⟨o,a2,b2,e2,hop,F3 _⟩ hx (10-(LQ o+1)) (LQ o+1) (by omega) (fun t ht=>by rw [eq_of_beq ht];exact Nc ho) (by
  rw [show LQ o+1+(10-(LQ o+1))=10 from by omega];exact tS hR1 H1)
 have L2:Ph (Ci (LQ o+1)) l (i+m1+1) m2 R2 h:=uX hR2 hn hx2 (10-(LQ o+1)) (LQ o+1) (by omega) (fun t ht=>FW ht _) (by
  rw [show LQ o+1+(10-(LQ o+1))=10 from by omega];exact tS hR2 H2)
 intro d c p0 p1 p2 hd hd2
 obtain⟨k,t,a,b,e,ht⟩:=hx
 have I1:=L1 d c p0 p1 p2 hd hd2
 have I2:=L2 d c p0 p1 p2 hd hd2
 have hil:=HG hop
 unfold Ci at I1 I2 ⊢
 rw [show i+m1+1+m2=i+(m1+1+m2) from by omega] at I2
 rw [← P0 (by omega)] at I1 I2
 rw [← P0 (j:=i+m1) (by omega)] at I2
 refine U.eq (fun n=>kQ n _ l i d c p0 p1 p2 0) (U.no (F4.2 (by omega)) (U.H6 (S5 (d:=d) (c:=c) (p0:=p0) (p1:=p1) (p2:=p2) ht) ?_))
 intro _ ds h0;cases h0
 refine⟨rfl,U.I0 rfl (U.H6 I1 ?_)⟩
 rintro _ ds ⟨y,hy,h0⟩
 cases h0
 obtain⟨v0,v1,v2,v3,vt,vs,rfl⟩:=hR1 y hy
 refine⟨rfl,U.I0 rfl (U.L3 (Q:=aD4 l (i+(m1+1+m2)) d c p0 p1 p2 (LQ o) a b e fun y=>∃ a b e u v,y=PE 4 a b e o [u,v]∧R1 u∧R2 v) ?_ (fun ds h=>by obtain⟨_,_,_,_,_,_,_,h⟩:=h;cases h) fun ds h=>?_)⟩
 ·refine Fb (l:=l) (i:=i+m1) (d:=d) (c:=c) (p0:=p0) (p1:=p1) (p2:=p2) (j:=LQ o) (by omega) hop (WB ho) fun r1 hr1=>?_
  rw [Tc ho (by omega),F3]
  subst hr1
  refine O6 (fun n=>cA.eq_1 n _ _ _ _ _ _ _ _ _ _ _ _ _ _ _ _ _ _) (U.no rfl (U.H6 (Nd ho) ?_))
  intro _ ds h0;cases h0
  refine⟨rfl,U.I0 rfl (U.H6 I2 ?_)⟩
  rintro _ ds ⟨z,hz,h0⟩
  cases h0
  obtain⟨w0,w1,w2,w3,wt,ws,rfl⟩:=hR2 z hz
  refine⟨rfl,U.I0 rfl ?_⟩
  exact Mc (l:=l) (i:=i+(m1+1+m2)) (d:=d) (c:=c) (p0:=p0) (p1:=p1) (p2:=p2) (j:=LQ o) (by omega) hnx (fun t ht=>FW ht _) ⟨_,_,_,_,_,rfl,hy,hz⟩
 ·obtain⟨u0,u1,u2,u3,su,us,hr,h⟩:=h
  cases h
  exact U.I0 rfl (U.ret ⟨_,hr,rfl⟩)
end
end
def Rl (R:D→D→Prop)(xs ys:List D):Prop:=xs.length=ys.length∧∀ (i:Nat) (h:i<xs.length) (h':i<ys.length),R xs[i] ys[i]
theorem Rl.refl {R:D→D→Prop}{xs:List D}(h:∀ x∈xs,R x x):Rl R xs xs:=⟨rfl,fun i hi _=>h _ (C6 hi)⟩
theorem CB {R:D→D→Prop}{Q:Bool×List D→Prop}{xs:List D}{T:Int→List D→Nat→Out}(hl:xs.length≤1000)
  (step:∀ (j:Nat) (acc:List D) (hj:j<xs.length),acc.length=j→(∀ y,R xs[j] y→U (T (IntKind.i64.wrap ((j:Int)+1)) (acc++[y])) Q)→U (T (j:Int) acc) Q)
  (fin:∀ acc,Rl R xs acc→U (T (xs.length:Int) acc) Q):U (T 0 []) Q:=by
 have aux:∀ (m j:Nat) (acc:List D),xs.length-j=m→j≤xs.length→acc.length=j→(∀ (i:Nat) (h:i<xs.length) (h':i<acc.length),R xs[i] acc[i])→U (T (j:Int) acc) Q:=by
  intro m
  induction m with
  |zero=>
   intro j acc hm hj ha hr
   have:j=xs.length:=by omega
   subst this
   exact fin acc ⟨ha.symm,hr⟩
  |succ m ih=>
   intro j acc hm hj ha hr
   refine step j acc (by omega) ha fun y hy=>?_
   rw [P0 (by omega)]
   refine ih (j+1) _ (by omega) (by omega) (by simp [ha]) fun i h h'=>?_
   by_cases hi:i<acc.length
   ·rw [F6 hi];exact hr i h hi
   ·have e:i=j:=by simp at h';omega
    subst e
    rw [List.getElem_append_right (by omega)]
    simpa [ha] using hy
 exact aux xs.length 0 [] rfl (C4 _) rfl fun i h h'=>absurd h' (by simp)
theorem qX {d:Nat}{xs:List D}(hl:xs.length≤10)(h:∀ x∈xs,fD d x):U (fun n=>R4 n (.Z 6 xs)) fun r=>r=(true,[.Z 6 xs]):=by
 refine U.eq (fun n=>tP n xs) ?_
 refine U.L3 (Q:=fun r=>∃ q ys,r=(false,[.Z 6 xs,.int .i64 (xs.length:Int),.int .i64 q,.Z 6 ys])∧Rl (fun x y=>y=x) xs ys) ?_ (fun ds h=>by obtain⟨_,_,h,_⟩:=h;cases h) fun ds h=>?_
 ·refine CB (xs:=xs) (R:=fun x y=>y=x) (T:=fun j acc n=>aA n (.Z 6 xs) (xs.length:Int) j (.Z 6 acc)) (by omega) (fun j acc hj ha K=>?_) fun acc hr=>?_
  ·refine U.eq (fun n=>iA n xs _ _ _) (U.I0 (E6 (by omega)) (U.I0 (O5 hj) ?_))
   have hw:=h xs[j] (C6 hj)
   obtain⟨e1,e2⟩:=Gc hw
   rw [bN hj,e1,e2]
   refine U.I0 rfl (U.H6 (Wa d xs[j] hw) ?_)
   intro b ds h;cases h;refine⟨rfl,?_⟩
   refine U.I0 (show J3 bW.I6 [xs[j]]=true by have:=e2;simp only [J3,bW.I6,qJ,LO,kS,pO] at this ⊢;simp [show Q5 I5 xs[j]=true from e2]) ?_
   refine U.I0 (B2 (by simp only [L7];omega)) ?_
   rw [show J6 I5 (Y [xs[j]] 0)=xs[j] from e1]
   exact K _ rfl
  ·exact U.eq (fun n=>iA n xs _ _ _) (U.no (E8 (by omega)) (U.ret ⟨_,acc,rfl,hr⟩))
 ·obtain⟨q,ys,h,hr⟩:=h
  cases h
  have:ys=xs:=List.ext_getElem hr.1.symm fun i h1 h2=>hr.2 i h2 h1
  subst this
  exact U.I0 rfl (U.ret rfl)
def aE1 (es:List D):Prop:=es.length≤10∧∀ e∈es,fD 4 e
def OE:Nat→D→D→Prop
 |0,_,_=>False
 |n+1,x,y=>∃ k t ar a b e ar',x=E k t ar∧y=PE k a b e t ar'∧FF k t ar.length∧Rl (OE n) ar ar'
theorem Dv:∀ {n:Nat} {x:D},fD n x→OE n x x
 |0,_,h=>h.elim
 |n+1,_,⟨k,t,ar,e,h1,h2⟩=>by
  subst e
  exact⟨k,t,ar,0,0,0,ar,rfl,rfl,h1,Rl.refl fun x hx=>Dv (h2 x hx)⟩
theorem cD {n:Nat}{x y:D}(h:OE n x y):∃ k t ar a b e ar',x=E k t ar∧y=PE k a b e t ar':=by
 cases n with
 |zero=>exact h.elim
 |succ n=>obtain⟨k,t,ar,a,b,e,ar',h1,h2,_⟩:=h;exact⟨k,t,ar,a,b,e,ar',h1,h2⟩
theorem Jm {R:D→D→Prop}:∀ {xs ys:List D},F2 R xs ys→Rl R xs ys
 |_,_,.nil=>⟨rfl,fun i h=>absurd h (by simp)⟩
 |_,_,.cons h hs=>by
  obtain⟨h1,h2⟩:=Jm hs
  refine⟨by simp [h1],fun i hi hi'=>?_⟩
  cases i with
  |zero=>exact h
  |succ i=>exact h2 i (by simpa using hi) (by simpa using hi')
theorem Rl.mono {R Q:D→D→Prop}{xs ys:List D}(h:Rl R xs ys)(hq:∀ x∈xs,∀ y,R x y→Q x y):Rl Q xs ys:=
 ⟨h.1,fun i hi hi'=>hq _ (C6 hi) _ (h.2 i hi hi')⟩
theorem RS:∀ {n:Nat} {x y:D},fD n x→Sm n x y→OE n x y
 |0,_,_,h,_=>h.elim
 |n+1,_,_,⟨k,t,ar,e,h1,h2⟩,⟨k',t',ar',a,b,c,ar'',e',hy,hf⟩=>by
  subst e
  cases e'
  exact⟨k,t,ar,a,b,c,ar'',rfl,hy,h1,(Jm hf).mono fun x hx y h=>RS (h2 x hx) h⟩
def jI (es es':List D):Prop:=aE1 es∧Rl (OE 4) es es'
theorem yV {es:List D}(h:aE1 es):jI es es:=⟨h,Rl.refl fun x hx=>Dv (h.2 x hx)⟩
def AT (k i j l:Int)(t:G1)(es bs zs:List D):D:= .agg [.int .i64 k,.int .i64 i,.int .i64 j,.int .i64 l,.str t,.Z 6 es,.Z 8 bs,.Z 9 zs]
def AA (es:List D)(k i j l:Int)(t:G1)(fs bs zs:List D):D:= .agg [.Z 6 es,.int .i64 k,.int .i64 i,.int .i64 j,.int .i64 l,.str t,.Z 6 fs,.Z 8 bs,.Z 9 zs]
def OA (R:D→D→Prop)(x y:D):Prop:=∃ es es' k i j l t fs bs zs fs' bs' zs',x=arm es (S k t fs bs zs)∧y=AA es' k i j l t fs' bs' zs'∧jI es es'∧R (S k t fs bs zs) (AT k i j l t fs' bs' zs')
def OS:Nat→D→D→Prop
 |0,_,_=>False
 |n+1,x,y=>∃ k i j l t es bs zs es' bs' zs',x=S k t es bs zs∧y=AT k i j l t es' bs' zs'∧jI es es'∧bs.length≤10∧zs.length≤10∧Rl (OS n) bs bs'∧Rl (OA (OS n)) zs zs'
theorem Im {n:Nat}{k:Int}{t:G1}{es bs zs:List D}(h:Nu n k t es bs zs):es.length≤10∧bs.length≤10∧zs.length≤10:=by
 rcases h with ⟨_,_,rfl,h,rfl⟩|⟨_,_,⟨l,e,rfl,_⟩,rfl,rfl⟩|⟨_,_,h,⟨b,c,rfl,_⟩,rfl⟩|⟨_,_,h,rfl,_,h2⟩|⟨_,_,h,h2,rfl⟩|⟨_,_,h,rfl,rfl⟩|⟨_,_,rfl,rfl,rfl⟩<;>
  refine⟨?_,?_,?_⟩<;>first|decide|omega|(simp only [A0,A8];omega)
theorem Iv:∀ (d:Nat) (xs:List D),xs.length≤10→(∀ x∈xs,sE d x)→U (fun n=>cL n (.Z 5 xs)) fun r=>∃ ys,r=(true,[.Z 8 ys])∧Rl (OS d) xs ys:=by
 intro d
 induction d with
 |zero=>
  intro xs hl h
  cases xs with
  |cons x xs=>exact (h x B8).elim
  |nil=>
   refine U.eq (fun n=>AG n []) (U.L3 (Q:=fun r=>r=(false,[.Z 5 [],.int .i64 0,.int .i64 0,.Z 8 []])) (U.eq (fun n=>oL n _ _ _ _) (U.no rfl (U.ret rfl))) (fun ds h=>by cases h) fun ds h=>?_)
   cases h
   exact U.I0 rfl (U.ret ⟨[],rfl,rfl,fun i h=>absurd h (by simp)⟩)
 |succ d ih=>
  intro xs hl h
  refine U.eq (fun n=>AG n xs) ?_
  refine U.L3 (Q:=fun r=>∃ q ys,r=(false,[.Z 5 xs,.int .i64 (xs.length:Int),.int .i64 q,.Z 8 ys])∧Rl (OS (d+1)) xs ys) ?_ (fun ds h=>by obtain⟨_,_,h,_⟩:=h;cases h) fun ds h=>?_
  ·refine CB (xs:=xs) (R:=OS (d+1)) (T:=fun j acc n=>cU n (.Z 5 xs) (xs.length:Int) j (.Z 8 acc)) (by omega) (fun j acc hj ha K=>?_) fun acc hr=>?_
   ·refine U.eq (fun n=>oL n xs _ _ _) (U.I0 (E6 (by omega)) (U.I0 (O5 hj) ?_))
    obtain⟨k,t,es,bs,zs,e,he,hb,hz,hsh⟩:=h xs[j] (C6 hj)
    obtain⟨le,lb,lz⟩:=Im hsh
    rw [bN hj,e]
    rw [e] at K
    refine U.I0 rfl (U.H6 (qX (xs:=es) le he) ?_)
    intro b ds h;cases h;refine⟨rfl,?_⟩
    refine U.I0 rfl (U.H6 (ih bs lb hb) ?_)
    rintro b ds ⟨bs',h,hbs⟩;cases h;refine⟨rfl,?_⟩
    refine U.I0 rfl (U.L3 (Q:=fun r=>∃ q zs',r=(false,[.Z 5 xs,.int .i64 (xs.length:Int),.int .i64 (j:Int),.Z 6 zs,.int .i64 (zs.length:Int),.int .i64 q,.Z 8 acc,.int .i64 k,.int .i64 0,.int .i64 0,.int .i64 0,.str t,.Z 6 es,.Z 8 bs',.Z 9 zs'])∧Rl (OA (OS d)) zs zs') ?_ (fun ds h=>by obtain⟨_,_,h,_⟩:=h;cases h) fun ds h=>?_)
    ·refine CB (xs:=zs) (R:=OA (OS d)) (T:=fun i acc2 n=>cV n (.Z 5 xs) (xs.length:Int) (j:Int) (.Z 6 zs) (zs.length:Int) i (.Z 8 acc) k (0:Int) (0:Int) (0:Int) (.str t) (.Z 6 es) (.Z 8 bs') (.Z 9 acc2)) (by omega) (fun i acc2 hi ha2 K2=>?_) fun acc2 hr=>?_
     ·refine U.eq (fun n=>tR n _ _ _ _ _ _ _ _ _ _ _ _ _ _ _) (U.I0 (E6 (by omega)) (U.I0 (O5 hi) ?_))
      obtain⟨es2,s,e2,l2,he2,hs⟩:=hz zs[i] (C6 hi)
      rw [bN hi,e2]
      rw [e2] at K2
      cases d with
      |zero=>exact hs.elim
      |succ d=>
       have hs0:=hs
       obtain⟨k3,t3,fs,bs3,zs3,rfl,_⟩:=hs
       refine U.I0 rfl (U.H6 (qX (xs:=es2) (by omega) he2) ?_)
       intro b ds h;cases h;refine⟨rfl,?_⟩
       refine U.I0 rfl (U.H6 (ih [S k3 t3 fs bs3 zs3] (by simp) (rK hs0)) ?_)
       rintro b ds ⟨ys,h,hys⟩;cases h;refine⟨rfl,?_⟩
       obtain⟨y,rfl⟩:∃ y,ys=[y]:=by
        match ys,hys.1 with
        |[y],_=>exact⟨y,rfl⟩
       have hy:=hys.2 0 (by simp) (by simp)
       have hy:OS (d+1) (S k3 t3 fs bs3 zs3) y:=hy
       have hy0:=hy
       obtain⟨k4,i4,j4,l4,t4,fs4,bs4,zs4,fs5,bs5,zs5,e4,rfl,_⟩:=hy
       cases e4
       refine U.I0 rfl (U.I0 rfl (U.I0 rfl (U.I0 (B2 (by simp only [L7];omega)) ?_)))
       exact K2 (AA es2 k3 i4 j4 l4 t3 fs5 bs5 zs5) ⟨es2,es2,k3,i4,j4,l4,t3,fs,bs3,zs3,fs5,bs5,zs5,rfl,rfl,yV ⟨by omega,he2⟩,hy0⟩
     ·exact U.eq (fun n=>tR n _ _ _ _ _ _ _ _ _ _ _ _ _ _ _) (U.no (E8 (by omega)) (U.ret ⟨_,acc2,rfl,hr⟩))
    ·obtain⟨q,zs',h,hzs⟩:=h
     cases h
     refine U.I0 rfl (U.I0 (B2 (by show acc.length+1≤L7;simp only [L7];omega)) ?_)
     exact K (AT k 0 0 0 t es bs' zs') ⟨k,0,0,0,t,es,bs,zs,es,bs',zs',rfl,rfl,yV ⟨le,he⟩,lb,lz,hbs,hzs⟩
   ·exact U.eq (fun n=>oL n xs _ _ _) (U.no (E8 (by omega)) (U.ret ⟨_,acc,rfl,hr⟩))
  ·obtain⟨q,ys,h,hr⟩:=h
   cases h
   exact U.I0 rfl (U.ret ⟨ys,rfl,hr⟩)
def AC (nm:G1)(i j l:Int)(es:List D):D:= .agg [.str nm,.int .i64 i,.int .i64 j,.int .i64 l,.Z 6 es]
def OC (x y:D):Prop:=∃ nm i j l es es',x = .agg [.str nm,.Z 6 es]∧y=AC nm i j l es'∧jI es es'
theorem SC {xs:List D}(hl:xs.length≤10)(h:∀ x∈xs,aA4 x):U (fun n=>gA n (.Z 2 xs)) fun r=>∃ ys,r=(true,[.Z 5 ys])∧Rl OC xs ys:=by
 refine U.eq (fun n=>OP n xs) ?_
 refine U.L3 (Q:=fun r=>∃ q ys,r=(false,[.Z 2 xs,.int .i64 (xs.length:Int),.int .i64 q,.Z 5 ys])∧Rl OC xs ys) ?_ (fun ds h=>by obtain⟨_,_,h,_⟩:=h;cases h) fun ds h=>?_
 ·refine CB (xs:=xs) (R:=OC) (T:=fun j acc n=>cS n (.Z 2 xs) (xs.length:Int) j (.Z 5 acc)) (by omega) (fun j acc hj ha K=>?_) fun acc hr=>?_
  ·refine U.eq (fun n=>tQ n xs _ _ _) (U.I0 (E6 (by omega)) (U.I0 (O5 hj) ?_))
   obtain⟨nm,es,e,le,he⟩:=h xs[j] (C6 hj)
   rw [bN hj,e]
   rw [e] at K
   refine U.I0 rfl (U.H6 (qX (xs:=es) (by omega) he) ?_)
   intro b ds h;cases h;refine⟨rfl,?_⟩
   refine U.I0 rfl (U.I0 (B2 (by simp only [L7];omega)) ?_)
   exact K (AC nm 0 0 0 es) ⟨nm,0,0,0,es,es,rfl,rfl,yV ⟨by omega,he⟩⟩
  ·exact U.eq (fun n=>tQ n xs _ _ _) (U.no (E8 (by omega)) (U.ret ⟨_,acc,rfl,hr⟩))
 ·obtain⟨q,ys,h,hr⟩:=h
  cases h
  exact U.I0 rfl (U.ret ⟨ys,rfl,hr⟩)
def gI:Nat→D→Prop
 |0,_=>False
 |n+1,x=>∃ k nm ty sg es fs bs its els ps qs,x=I k nm ty sg es fs bs its els ps qs∧aB6 es fs bs [] els ps qs∧its.length≤10∧(∀ e∈es,fD 4 e)∧(∀ e∈fs,fD 4 e)∧(∀ e∈bs,sE 4 e)∧
  (∀ i∈its,gI n i)∧(∀ i∈els,gI n i)∧(∀ c∈ps,aA4 c)∧∀ c∈qs,aA4 c
def AJ (k i j l:Int)(nm ty:G1)(sg:Bool)(es fs bs its els ps qs:List D):D:=
 .agg [.int .i64 k,.int .i64 i,.int .i64 j,.int .i64 l,.str nm,.str ty,.bool sg,.Z 6 es,.Z 6 fs,.Z 8 bs,.Z 14 its,.Z 14 els,.Z 5 ps,.Z 5 qs]
def OI:Nat→D→D→Prop
 |0,_,_=>False
 |n+1,x,y=>∃ k i j l nm ty sg es fs bs its els ps qs es' fs' bs' its' els' ps' qs',x=I k nm ty sg es fs bs its els ps qs∧y=AJ k i j l nm ty sg es' fs' bs' its' els' ps' qs'∧jI es es'∧jI fs fs'∧bs.length≤10∧its.length≤10∧els.length≤10∧ps.length≤10∧qs.length≤10∧
  Rl (OS 4) bs bs'∧Rl (OI n) its its'∧Rl (OI n) els els'∧Rl OC ps ps'∧Rl OC qs qs'
theorem JA:∀ (d:Nat) (xs:List D),xs.length≤10→(∀ x∈xs,gI d x)→U (fun n=>aR n (.Z 11 xs)) fun r=>∃ ys,r=(true,[.Z 14 ys])∧Rl (OI d) xs ys:=by
 intro d
 induction d with
 |zero=>
  intro xs hl h
  cases xs with
  |cons x xs=>exact (h x B8).elim
  |nil=>
   refine U.eq (fun n=>AF n []) (U.L3 (Q:=fun r=>r=(false,[.Z 11 [],.int .i64 0,.int .i64 0,.Z 14 []])) (U.eq (fun n=>oK n _ _ _ _) (U.no rfl (U.ret rfl))) (fun ds h=>by cases h) fun ds h=>?_)
   cases h
   exact U.I0 rfl (U.ret ⟨[],rfl,rfl,fun i h=>absurd h (by simp)⟩)
 |succ d ih=>
  intro xs hl h
  refine U.eq (fun n=>AF n xs) ?_
  refine U.L3 (Q:=fun r=>∃ q ys,r=(false,[.Z 11 xs,.int .i64 (xs.length:Int),.int .i64 q,.Z 14 ys])∧Rl (OI (d+1)) xs ys) ?_ (fun ds h=>by obtain⟨_,_,h,_⟩:=h;cases h) fun ds h=>?_
  ·refine CB (xs:=xs) (R:=OI (d+1)) (T:=fun j acc n=>cT n (.Z 11 xs) (xs.length:Int) j (.Z 14 acc)) (by omega) (fun j acc hj ha K=>?_) fun acc hr=>?_
   ·refine U.eq (fun n=>oK n xs _ _ _) (U.I0 (E6 (by omega)) (U.I0 (O5 hj) ?_))
    obtain⟨k,nm,ty,sg,es,fs,bs,its,els,ps,qs,e,⟨m1,m2,m3,_,m5,m6,m7⟩,m4,h3,h4,h5,h6,h7,h8,h9⟩:=h xs[j] (C6 hj)
    rw [bN hj,e]
    rw [e] at K
    refine U.I0 rfl (U.H6 (qX (xs:=es) (by omega) h3) ?_)
    intro b ds h;cases h;refine⟨rfl,?_⟩
    refine U.I0 rfl (U.H6 (qX (xs:=fs) (by omega) h4) ?_)
    intro b ds h;cases h;refine⟨rfl,?_⟩
    refine U.I0 rfl (U.H6 (Iv 4 bs (by omega) h5) ?_)
    rintro b ds ⟨bs',h,hbs⟩;cases h;refine⟨rfl,?_⟩
    refine U.I0 rfl (U.H6 (ih its (by omega) h6) ?_)
    rintro b ds ⟨its',h,hits⟩;cases h;refine⟨rfl,?_⟩
    refine U.I0 rfl (U.H6 (ih els (by omega) h7) ?_)
    rintro b ds ⟨els',h,hels⟩;cases h;refine⟨rfl,?_⟩
    refine U.I0 rfl (U.H6 (SC (xs:=ps) (by omega) h8) ?_)
    rintro b ds ⟨ps',h,hps⟩;cases h;refine⟨rfl,?_⟩
    refine U.I0 rfl (U.H6 (SC (xs:=qs) (by omega) h9) ?_)
    rintro b ds ⟨qs',h,hqs⟩;cases h;refine⟨rfl,?_⟩
    refine U.I0 rfl (U.I0 (B2 (by simp only [L7];omega)) ?_)
    exact K (AJ k 0 0 0 nm ty sg es fs bs' its' els' ps' qs') ⟨k,0,0,0,nm,ty,sg,es,fs,bs,its,els,ps,qs,es,fs,bs',its',els',ps',qs',rfl,rfl,yV ⟨by omega,h3⟩,yV ⟨by omega,h4⟩,by omega,by omega,by omega,by omega,by omega,hbs,hits,hels,hps,hqs⟩
   ·exact U.eq (fun n=>oK n xs _ _ _) (U.no (E8 (by omega)) (U.ret ⟨_,acc,rfl,hr⟩))
  ·obtain⟨q,ys,h,hr⟩:=h
   cases h
   exact U.I0 rfl (U.ret ⟨ys,rfl,hr⟩)
def AM (nm:G1)(i j l:Int)(ps qs its:List D):D:= .agg [.str nm,.int .i64 i,.int .i64 j,.int .i64 l,.Z 14 ps,.Z 14 qs,.Z 14 its]
def OM (x y:D):Prop:=∃ nm i j l ps qs its ps' qs' its',x=M nm ps qs its∧y=AM nm i j l ps' qs' its'∧nm.length≤200∧ps.length≤10∧qs.length≤10∧its.length≤10∧Rl (OI 8) ps ps'∧Rl (OI 8) qs qs'∧Rl (OI 8) its its'
end Go.Proofs.YtalibicpmfbieaaGreatDoor
