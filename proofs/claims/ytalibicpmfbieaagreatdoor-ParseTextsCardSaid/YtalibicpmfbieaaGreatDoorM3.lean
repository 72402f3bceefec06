import Derived.Test.YtalibicpmfbieaaGreatDoorM2
import Derived.Test.YtalibicpmfbieaaGreatDoorM1
namespace Go.Proofs.YtalibicpmfbieaaGreatDoor
open Go.AE
set_option linter.unusedVariables false
set_option linter.unusedSimpArgs false
section
theorem Ph.cast {F:PF}{l:List D}{i m m':Nat}{R:D→Prop}{h:Nat}(H:Ph F l i m R h)(e:m=m'):Ph F l i m' R h:=e▸H
theorem Rk:(Z7.all Eh)=true:=by kernel_rfl
theorem rO {t:Zt}(h:t∈Z7):Eh t=true:=Yg.1 Rk t h
theorem mX {t:Zt}(h:Eh t=true):oQ t=true:=by
 simp only [Eh,Xz] at h
 exact h.1.1.1.1
theorem Hv:(([[102],[103]]:List Zt).all Eh)=true:=by kernel_rfl
theorem Rt:(Nb.all fun o=>xJ.contains o)=true:=by kernel_rfl
theorem WT {o:Zt}(h:o∈Nb):o∈xJ:=by have:=Yg.1 Rt o h;simpa using this
theorem Qn:((Ql++xJ++[[63]]).all fun t=>!(t==[91])&&!(t==[40]))=true:=by kernel_rfl
theorem Lu (t:Zt)(h:cu t=true):(t==[91])=false∧(t==[40])=false:=by
 have hm:t∈Ql++xJ++[[63]]:=by
  simp only [cu,Bool.or_eq_true,List.contains_iff_mem,beq_iff_eq] at h
  simp only [Yy,Yn]
  exact h
 have:=Yg.1 Qn t hm
 simpa using this
theorem Ut {o:Zt}(h:o∈xJ):cu o=true:=by simp [cu,h]
def HX:Nat→Nat
 |0=>0
 |n+1=>HX n+2
section
variable {l:List D} (hl:l.length≤1000000)
def Tn (l:List D)(e:Nat):Prop:=∃ t a b c,l[e]? = some (tk 3 t a b c)∧cl t=true∧(t==[44])=false
theorem Tn.nx {e:Nat}(h:Tn l e):Nx l e cl:=by
 obtain⟨t,a,b,c,h1,h2,_⟩:=h
 exact⟨t,a,b,c,h1,h2⟩
theorem Hs {w:D→List Tk}{R:D→D→Prop}{h:Nat}(hR:∀ x y,R x y→JO y){e:Nat}(he:Tn l e):∀ (r:List D) (y:D) (j:Nat),(∀ x∈y::r,∀ i,C4 l i (w x)→Nx l (i+(w x).length) cl→Ph lB l i (w x).length (R x) h)→
  C4 l j ((3,[44])::lW w (y::r))→e=j+1+(lW w (y::r)).length→To l h j ((y::r).map fun x=>((w x).length,R x)) e
 |[],y,j,hP,ht,hj=>by
  have ht:(∃ a b e,l[j]? = some (tk 3 [44] a b e))∧C4 l (j+1) (w y):=ht
  have hj:e=j+1+(w y).length:=hj
  subst hj
  exact⟨ht.1,hP y (Yi ..) (j+1) ht.2 he.nx,hR y,rfl⟩
 |z::r,y,j,hP,ht,hj=>by
  have ht:(∃ a b e,l[j]? = some (tk 3 [44] a b e))∧C4 l (j+1) (w y++((3,[44])::lW w (z::r))):=ht
  have hj:e=j+1+(w y++((3,[44])::lW w (z::r))).length:=hj
  obtain⟨h1,h2⟩:=ht
  obtain⟨h3,h4⟩:=C7.1 h2
  obtain⟨a,b,c,hc⟩:=h4.1
  refine⟨h1,hP y (Yi ..) (j+1) h3 ⟨[44],a,b,c,hc,rfl⟩,hR y,?_⟩
  refine Hs hR he r z (j+1+(w y).length) (fun x hx=>hP x (Yk _ hx)) h4 ?_
  rw [hj,Xx,Xw];omega
theorem Gb {R:D→D→Prop}{w:D→List Tk}:∀ {xs ys:List D},F2 (fun (p:Nat×(D→Prop)) y=>p.2 y) (xs.map fun x=>((w x).length,R x)) ys→F2 R xs ys
 |[],_,h=>by cases h;exact .nil
 |x::xs,_,h=>by cases h with|cons h1 h2=>exact .cons h1 (Gb h2)
include hl
theorem Mp {w:D→List Tk}{R:D→D→Prop}{h:Nat}(hR:∀ x y,R x y→JO y){x:D}{r:List D}{i:Nat}(hr:r.length≤900)(hP:∀ x'∈x::r,∀ i,C4 l i (w x')→Nx l (i+(w x').length) cl→Ph lB l i (w x').length (R x') h)
  (ht:C4 l i (lW w (x::r))) (he:Tn l (i+(lW w (x::r)).length)):La l i (lW w (x::r)).length (fun ys=>F2 R (x::r) ys) h:=by
 have fin:∀ {es},To l h (i+(w x).length) es (i+(lW w (x::r)).length)→es=r.map (fun x=>((w x).length,R x))→Ph lB l i (w x).length (R x) h→La l i (lW w (x::r)).length (fun ys=>F2 R (x::r) ys) h:=by
  intro es hE hes H
  have he2:=he
  obtain⟨t,a,b,c,h1,_,h3⟩:=he2
  have:=VI hl (hR x) H hE (by rw [hes,List.length_map];exact hr) ⟨t,a,b,c,h1,h3⟩ rfl
  intro d c p0 p1 p2 hd hd2
  refine (this d c p0 p1 p2 hd hd2).mono fun r' hr'=>?_
  obtain⟨_,⟨y,ys,rfl,hy,hf⟩,e⟩:=hr'
  subst hes
  exact⟨_,.cons hy (Gb hf),e⟩
 cases r with
 |nil=>
  have ht:C4 l i (w x):=ht
  exact fin (es:=[]) rfl rfl (hP x (Yi ..) i ht he.nx)
 |cons z r=>
  have ht:C4 l i (w x++((3,[44])::lW w (z::r))):=ht
  obtain⟨h1,h2⟩:=C7.1 ht
  obtain⟨a,b,c,hc⟩:=h2.1
  refine fin (Hs hR he r z (i+(w x).length) (fun x' hx=>hP x' (Yk _ hx)) h2 ?_) rfl (hP x (Yi ..) i h1 ⟨[44],a,b,c,hc,rfl⟩)
  show i+(w x++((3,[44])::lW w (z::r))).length=_
  rw [Xx,Xw];omega
omit hl in
theorem FP:∀ (n:Nat) (x:D),bS n x→∀ i,C4 l i (wE n x)→∃ k t a b e,l[i]? = some (tk k t a b e)∧(NA x=false→k≠3∨t=[40]∨t=[123])
 |0,_,h,_,_=>h.elim
 |n+1,x,h,i,ht=>by
  obtain⟨k,t,ar,rfl,hs,ha⟩:=h
  rw [EU] at ht
  have one:∀ (k':Int) (t':Zt) (ws:List Tk),C4 l i ((k',t')::ws)→(NA (E k t ar)=false→k'≠3∨t'=[40]∨t'=[123])→∃ k1 t1 a b e,l[i]? = some (tk k1 t1 a b e)∧(NA (E k t ar)=false→k1≠3∨t1=[40]∨t1=[123]):=by
   intro k' t' ws h1 h2
   obtain⟨⟨a,b,e,h3⟩,_⟩:=h1
   exact⟨_,_,a,b,e,h3,h2⟩
  have arg:∀ (x:D) (ws:List Tk),bS n x→NA (E k t ar)=true→C4 l i (aW (wE n) x++ws)→∃ k1 t1 a b e,l[i]? = some (tk k1 t1 a b e)∧(NA (E k t ar)=false→k1≠3∨t1=[40]∨t1=[123]):=by
   intro x ws hx ho h1
   have h1:=(C7.1 h1).1
   unfold aW at h1
   cases hop:NA x with
   |true=>
    rw [hop] at h1
    obtain⟨⟨a,b,e,h3⟩,_⟩:=h1
    exact⟨_,_,a,b,e,h3,fun h=>by rw [ho] at h;cases h⟩
   |false=>
    rw [hop] at h1
    obtain⟨k1,t1,a,b,e,h2,_⟩:=FP n x hx i h1
    exact⟨k1,t1,a,b,e,h2,fun h=>by rw [ho] at h;cases h⟩
  rcases hs with ⟨rfl,_,hm⟩|⟨rfl,_,hm⟩|⟨rfl,_,hm⟩|⟨rfl,_,hm⟩|⟨rfl,_,hm⟩|⟨rfl,_,hm,hm2⟩|⟨rfl,_,hm,hm2⟩|⟨rfl,_,hm⟩|⟨rfl,_,hm⟩|⟨rfl,_,hm,hm2⟩
  ·exact one 2 t [] ht fun _=> .inl (by decide)
  ·exact one 1 t [] ht fun _=> .inl (by decide)
  ·exact one 3 t _ ht fun h=>by cases h
  ·match ar,hm,ha,arg,ht with
   |[x,y],_,ha,arg,ht=>exact arg x _ (ha x (by simp)) rfl ht
  ·match ar,hm,ha,arg,ht with
   |[x,y,z],_,ha,arg,ht=>exact arg x _ (ha x (by simp)) rfl ht
  ·exact one 3 [123] _ ht fun _=> .inr (.inr rfl)
  ·exact one 3 [123] _ ht fun _=> .inr (.inr rfl)
  ·exact one 1 t _ ht fun _=> .inl (by decide)
  ·exact one 1 t _ ht fun _=> .inl (by decide)
  ·exact one 1 t _ ht fun _=> .inl (by decide)
omit hl in
theorem PH {n:Nat}{x:D}(h:bS n x){i:Nat}(ht:C4 l i (aW (wE n) x)):∃ k t a b e,l[i]? = some (tk k t a b e)∧(k≠3∨t=[40]∨t=[123]):=by
 unfold aW at ht
 cases hop:NA x with
 |true=>
  rw [hop] at ht
  obtain⟨⟨a,b,e,h3⟩,_⟩:=ht
  exact⟨_,_,a,b,e,h3,.inr (.inl rfl)⟩
 |false=>
  rw [hop] at ht
  obtain⟨k1,t1,a,b,e,h2,h3⟩:=FP n x h i ht
  exact⟨k1,t1,a,b,e,h2,h3 hop⟩
def Core (l:List D)(n:Nat)(x:D):Prop:=∀ i,C4 l i (wE n x)→
 (NA x=false→Nx l (i+(wE n x).length) cu→Ph sE l i (wE n x).length (Sm n x) (HX n-1))∧(Nx l (i+(wE n x).length) cl→Ph lB l i (wE n x).length (Sm n x) (HX n))
theorem Ll {n:Nat}{x:D}(hx:bS n x)(H:Core l n x){i:Nat}(ht:C4 l i (aW (wE n) x))(hn:Nx l (i+(aW (wE n) x).length) cu):Ph ZY l i (aW (wE n) x).length (Sm n x) (HX n):=by
 have hf:=PH hx ht
 refine ET (fun y=>bG) hf ?_
 unfold aW at ht hn ⊢
 cases hop:NA x with
 |true=>
  rw [hop] at ht hn
  have ht:(∃ a b e,l[i]? = some (tk 3 [40] a b e))∧C4 l (i+1) (wE n x++[(3,[41])]):=ht
  obtain⟨h1,h2⟩:=ht
  obtain⟨h3,h4⟩:=C7.1 h2
  obtain⟨h5,_⟩:=h4
  have hc:=h5
  obtain⟨a,b,e,h6⟩:=h5
  exact (Ei hl (fun y=>bG) h1 ((H (i+1) h3).2 ⟨[41],a,b,e,h6,rfl⟩) hc).cast (by show 1+(wE n x).length+1=([(3,[40])]++(wE n x++[(3,[41])])).length;simp only [Xx,Xw,Xy];omega)
 |false=>
  rw [hop] at ht hn
  exact ((H i ht).1 hop hn).mono (fun _ h=>h) (by omega)
omit hl in
theorem tE {i m:Nat}{R:D→Prop}{h:Nat}(hl:l.length≤1000000)(hR:∀ y,R y→JO y)(hx:∃ k t a b e,l[i]? = some (tk k t a b e))(hn:Nx l (i+m) cl)(H:Ph ZY l i m R h):Ph lB l i m R (h+1):=
 Ay hl hR hx hn (sA hR hn hx 10 0 (by decide) (fun t ht=>CT ht _) (qY hR H))
end
end
section
section
variable {l:List D} (hl:l.length≤1000000)
theorem zL {n:Nat}{k:Int}{t:Zt}{ar ar':List D}(a b e:Int)(h:F2 (Sm n) ar ar'):Sm (n+1) (E k t ar) (PE k a b e t ar'):=⟨k,t,ar,a,b,e,ar',rfl,rfl,h⟩
theorem Au {i:Nat}(h:Nx l i cl):Nx l i cu:=h.mono Tx
theorem ED {i:Nat}{t:Zt}{p:Zt→Bool}(h:∃ a b e,l[i]? = some (tk 3 t a b e))(hp:p t=true):Nx l i p:=by
 obtain⟨a,b,e,h⟩:=h
 exact⟨t,a,b,e,h,hp⟩
theorem Qf {i:Nat}{k:Int}{t:Zt}(h:∃ a b e,l[i]? = some (tk k t a b e)):∃ k t a b e,l[i]? = some (tk k t a b e):=by
 obtain⟨a,b,e,h⟩:=h
 exact⟨k,t,a,b,e,h⟩
theorem Am {i:Nat}{p:Int→Zt→Prop}(h:∃ k t a b e,l[i]? = some (tk k t a b e)∧p k t):∃ k t a b e,l[i]? = some (tk k t a b e):=by
 obtain⟨k,t,a,b,e,h,_⟩:=h
 exact⟨k,t,a,b,e,h⟩
include hl
theorem pQ {n i m:Nat}{x:D}(hf:∃ k t a b e,l[i]? = some (tk k t a b e)∧(k≠3∨t=[40]∨t=[123]))(O:Nx l (i+m) cu→Ph sE l i m (Sm (n+1) x) (HX n)) :
  (NA x=false→Nx l (i+m) cu→Ph sE l i m (Sm (n+1) x) (HX (n+1)-1))∧(Nx l (i+m) cl→Ph lB l i m (Sm (n+1) x) (HX (n+1))):=by
 refine⟨fun _ hn=>(O hn).mono (fun _ h=>h) (by simp only [HX];omega),fun hn=>?_⟩
 exact (tE hl (fun y=>bG) (Am hf) hn (ET (fun y=>bG) hf (O (Au hn)))).mono (fun _ h=>h) (by simp only [HX];omega)
theorem Sy {n i h:Nat}{t:Zt}{x:D}(ht:t∈Kn)(hx:∃ a b e,l[i]? = some (tk 3 t a b e)){m:Nat}(Uq:Ph ZY l (i+1) m (Sm n x) h):Ph ZY l i (1+m) (Sm (n+1) (E 3 t [x])) (h+1):=by
 have hne:(t==[43])=false:=by
  have:=Yg.1 Sz t ht
  simpa using this
 refine (ZZ hl (fun y=>bG) (Yk _ ht) hx Uq).mono (fun y hy=>?_) (Yj _)
 rw [hne] at hy
 obtain⟨a,b,e,u,rfl,hu⟩:=hy
 exact zL a b e (.cons hu .nil)
theorem Lo {n i m1 m2 h:Nat}{o:Zt}{x y:D}(ho:o∈Nb)(hx:∃ k t a b e,l[i]? = some (tk k t a b e))(U1:Ph ZY l i m1 (Sm n x) h)(hop:∃ a b e,l[i+m1]? = some (tk 3 o a b e))(hx2:∃ k t a b e,l[i+m1+1]? = some (tk k t a b e))
  (U2:Ph ZY l (i+m1+1) m2 (Sm n y) h) (hn:Nx l (i+(m1+1+m2)) cl):Ph lB l i (m1+1+m2) (Sm (n+1) (E 4 o [x,y])) (h+1):=by
 have L:=Dv hl (WT ho) (fun y=>bG) (fun y=>bG) hx U1 hop hx2 U2 (by rw [show i+m1+1+m2=i+(m1+1+m2) from by omega];exact hn)
 have L2:Ph (YY 0) l i (m1+1+m2) (Sm (n+1) (E 4 o [x,y])) h:=L.mono (fun z ⟨a,b,e,u,v,hz,hu,hv⟩=>by subst hz;exact zL a b e (.cons hu (.cons hv .nil))) (Yj _)
 exact Ay hl (fun y=>bG) hx hn L2
theorem Hm {n i m1 m2 m3 h:Nat}{x y z:D}(hx:∃ k t a b e,l[i]? = some (tk k t a b e))(U1:Ph ZY l i m1 (Sm n x) h)(hq:∃ a b e,l[i+m1]? = some (tk 3 [63] a b e))(hx2:∃ k t a b e,l[i+m1+1]? = some (tk k t a b e))
  (U2:Ph ZY l (i+m1+1) m2 (Sm n y) h) (hc:∃ a b e,l[i+m1+1+m2]? = some (tk 3 [58] a b e)) (hx3:∃ k t a b e,l[i+m1+1+m2+1]? = some (tk k t a b e)) (U3:Ph ZY l (i+m1+1+m2+1) m3 (Sm n z) h) (hn:Nx l (i+(m1+1+m2+1+m3)) cl) :
  Ph lB l i (m1+1+m2+1+m3) (Sm (n+1) (E 5 [] [x,y,z])) (h+2):=by
 have L1:Ph (YY 0) l i m1 (Sm n x) h:=sA (fun y=>bG) (p:=fun t=>t==[63]) (ED hq rfl) hx 10 0 (by decide) (fun t ht=>by rw [eq_of_beq ht];exact Nt _) (qY (fun y=>bG) U1)
 have E2:=tE hl (fun y=>bG) hx2 (ED hc rfl) U2
 have E3:=tE hl (fun y=>bG) hx3 (by rw [show i+m1+1+m2+1+m3=i+(m1+1+m2+1+m3) from by omega];exact hn) U3
 refine (Dj hl (fun y=>bG) (fun y=>bG) (fun y=>bG) hx (L1.mono (fun _ h=>h) (Nat.le_succ h)) hq E2 hc E3).mono (fun w hw=>?_) (Yj _)
 obtain⟨a,b,e,u,v,w,rfl,hu,hv,hw⟩:=hw
 exact zL a b e (.cons hu (.cons hv (.cons hw .nil)))
omit hl in
theorem pV {n:Nat}{x:D}(h:bS n x){i:Nat}(ht:C4 l i (aW (wE n) x)):∃ k t a b e,l[i]? = some (tk k t a b e):=Am (PH h ht)
omit hl in
theorem Py {R:D→D→Prop}{xs ys:List D}(h:F2 R xs ys){m:Nat}(hm:xs.length≤m):ys.length≤m:=h.length▸hm
theorem Bg {n:Nat}(ih:∀ x,bS n x→Core l n x){ar:List D}(h1:1≤ar.length)(h2:ar.length≤900)(ha:∀ a∈ar,bS n a){i:Nat}(ht:C4 l i (lW (wE n) ar))(he:Tn l (i+(lW (wE n) ar).length)):La l i (lW (wE n) ar).length (fun ys=>F2 (Sm n) ar ys) (HX n):=by
 match ar,h1 with
 |x::r,_=>exact Mp hl (fun x y=>bG) (by simp only [Xw] at h2;omega) (fun x' hx' j h1 h2=>(ih x' (ha x' hx') j h1).2 h2) ht he
theorem Di {n:Nat}(ih:∀ x,bS n x→Core l n x):∀ x,bS (n+1) x→Core l (n+1) x:=by
 intro x hx i ht
 have hf:=FP (n+1) x hx i ht
 obtain⟨k,t,ar,rfl,hs,ha⟩:=hx
 rw [EU] at ht ⊢
 have argU:∀ x∈ar,∀ {i},C4 l i (aW (wE n) x)→Nx l (i+(aW (wE n) x).length) cu→Ph ZY l i (aW (wE n) x).length (Sm n x) (HX n):=fun x hx i h1 h2=>Ll hl (ha x hx) (ih x (ha x hx)) h1 h2
 rcases hs with ⟨rfl,_,hm⟩|⟨rfl,hn,hm⟩|⟨rfl,ho,hm⟩|⟨rfl,ho,hm⟩|⟨rfl,h0,hm⟩|⟨rfl,h0,hm,hm2⟩|⟨rfl,h0,hm,hm2⟩|⟨rfl,hn,hm⟩|⟨rfl,hn,hm⟩|⟨rfl,hn,hm,hm2⟩
 ·match ar,hm,ht with
  |[],_,ht=>
   have ht:(∃ a b e,l[i]? = some (tk 2 t a b e))∧True:=ht
   obtain⟨a,b,e,h1⟩:=ht.1
   exact pQ hl (m:=1) ⟨_,_,a,b,e,h1,.inl (by decide)⟩ fun _=>(one_num hl ht.1).mono (fun y ⟨a,b,e,hy⟩=>by subst hy;exact zL a b e .nil) (Yo _)
 ·match ar,hm,ht with
  |[],_,ht=>
   have ht:(∃ a b e,l[i]? = some (tk 1 t a b e))∧True:=ht
   obtain⟨a,b,e,h1⟩:=ht.1
   exact pQ hl (m:=1) ⟨_,_,a,b,e,h1,.inl (by decide)⟩ fun hx=>(Jg hl (rO hn) ht.1 hx Lu).mono (fun y ⟨a,b,e,hy⟩=>by subst hy;exact zL a b e .nil) (Yo _)
 ·match ar,hm,ht,ha,argU with
  |[x],_,ht,ha,argU=>
   have ht:(∃ a b e,l[i]? = some (tk 3 t a b e))∧C4 l (i+1) (aW (wE n) x):=ht
   refine⟨fun h=>(by cases h),fun hx=>?_⟩
   have hx:Nx l (i+([(3,t)]++aW (wE n) x).length) cl:=hx
   have e:([((3:Int),t)]++aW (wE n) x).length=1+(aW (wE n) x).length:=by simp only [Xx,Xw,Xy]
   show Ph lB l i ([((3:Int),t)]++aW (wE n) x).length _ _
   rw [e] at hx ⊢
   have Uq:=argU x (Yi ..) ht.2 (Au (by rw [show i+1+(aW (wE n) x).length=i+(1+(aW (wE n) x).length) from by omega];exact hx))
   exact tE hl (fun y=>bG) (Qf ht.1) hx (Sy hl ho ht.1 Uq)
 ·match ar,hm,ht,ha,argU with
  |[x,y],_,ht,ha,argU=>
   refine⟨fun h=>(by cases h),fun hx=>?_⟩
   have ht:C4 l i (aW (wE n) x++([(3,t)]++aW (wE n) y)):=ht
   have hx:Nx l (i+(aW (wE n) x++([(3,t)]++aW (wE n) y)).length) cl:=hx
   have e:(aW (wE n) x++([((3:Int),t)]++aW (wE n) y)).length=(aW (wE n) x).length+1+(aW (wE n) y).length:=by simp only [Xx,Xw,Xy];omega
   show Ph lB l i (aW (wE n) x++([((3:Int),t)]++aW (wE n) y)).length _ _
   rw [e] at hx ⊢
   obtain⟨h1,h2⟩:=C7.1 ht
   have h2:(∃ a b e,l[i+(aW (wE n) x).length]? = some (tk 3 t a b e))∧C4 l (i+(aW (wE n) x).length+1) (aW (wE n) y):=h2
   have U1:=argU x (by simp) h1 (ED h2.1 (Ut (WT ho)))
   have U2:=argU y (by simp) h2.2 (Au (by rw [show i+(aW (wE n) x).length+1+(aW (wE n) y).length=i+((aW (wE n) x).length+1+(aW (wE n) y).length) from by omega];exact hx))
   exact (Lo hl ho (pV (ha x (by simp)) h1) U1 h2.1 (pV (ha y (by simp)) h2.2) U2 hx).mono (fun _ h=>h) (by simp only [HX];omega)
 ·match ar,hm,ht,ha,argU with
  |[x,y,z],_,ht,ha,argU=>
   subst h0
   refine⟨fun h=>(by cases h),fun hx=>?_⟩
   have ht:C4 l i (aW (wE n) x++([(3,[63])]++(aW (wE n) y++([(3,[58])]++aW (wE n) z)))):=ht
   have hx:Nx l (i+(aW (wE n) x++([(3,[63])]++(aW (wE n) y++([(3,[58])]++aW (wE n) z)))).length) cl:=hx
   have e:(aW (wE n) x++([((3:Int),([63]:Zt))]++(aW (wE n) y++([((3:Int),([58]:Zt))]++aW (wE n) z)))).length=(aW (wE n) x).length+1+(aW (wE n) y).length+1+(aW (wE n) z).length:=by simp only [Xx,Xw,Xy];omega
   show Ph lB l i (aW (wE n) x++([((3:Int),([63]:Zt))]++(aW (wE n) y++([((3:Int),([58]:Zt))]++aW (wE n) z)))).length _ _
   rw [e] at hx ⊢
   obtain⟨h1,h2⟩:=C7.1 ht
   have h2:(∃ a b e,l[i+(aW (wE n) x).length]? = some (tk 3 [63] a b e))∧C4 l (i+(aW (wE n) x).length+1) (aW (wE n) y++([(3,[58])]++aW (wE n) z)):=h2
   obtain⟨h3,h4⟩:=C7.1 h2.2
   have h4:(∃ a b e,l[i+(aW (wE n) x).length+1+(aW (wE n) y).length]? = some (tk 3 [58] a b e))∧C4 l (i+(aW (wE n) x).length+1+(aW (wE n) y).length+1) (aW (wE n) z):=h4
   have U1:=argU x (by simp) h1 (ED h2.1 rfl)
   have U2:=argU y (by simp) h3 (ED h4.1 rfl)
   have U3:=argU z (by simp) h4.2 (Au (by rw [show i+(aW (wE n) x).length+1+(aW (wE n) y).length+1+(aW (wE n) z).length=i+((aW (wE n) x).length+1+(aW (wE n) y).length+1+(aW (wE n) z).length) from by omega];exact hx))
   exact Hm hl (pV (ha x (by simp)) h1) U1 h2.1 (pV (ha y (by simp)) h3) U2 h4.1 (pV (ha z (by simp)) h4.2) U3 hx
 ·subst h0
  have ht:(∃ a b e,l[i]? = some (tk 3 [123] a b e))∧C4 l (i+1) (lW (wE n) ar++[(3,[125])]):=ht
  obtain⟨h1,h2⟩:=ht
  obtain⟨h3,h4⟩:=C7.1 h2
  have h4:=h4.1
  obtain⟨a,b,e,g1⟩:=h1
  obtain⟨a4,b4,e4,g4⟩:=h4
  have L:=Bg hl ih hm (by omega) ha h3 ⟨[125],a4,b4,e4,g4,rfl,rfl⟩
  have O:=(My hl ⟨a,b,e,g1⟩ L ⟨a4,b4,e4,g4⟩).mono (R':=Sm (n+1) (E 6 [] ar)) (fun y ⟨a,b,e,ys,hy,hys⟩=>by subst hy;exact zL a b e hys) (Yj _)
  have e:1+(lW (wE n) ar).length+1=([((3:Int),([123]:Zt))]++(lW (wE n) ar++[(3,[125])])).length:=by simp only [Xx,Xw,Xy];omega
  exact pQ hl (m:=([((3:Int),([123]:Zt))]++(lW (wE n) ar++[(3,[125])])).length) ⟨_,_,a,b,_,g1,.inr (.inr rfl)⟩ fun _=>O.cast e
 ·subst h0
  match ar,hm,hm2,ht,ha with
  |x::r,hm,hm2,ht,ha=>
   have ht:(∃ a b e,l[i]? = some (tk 3 [123] a b e))∧C4 l (i+1) (wE n x++([(3,[123])]++(lW (wE n) r++[(3,[125]),(3,[125])]))):=ht
   obtain⟨h1,h2⟩:=ht
   obtain⟨h3,h4⟩:=C7.1 h2
   have h4:(∃ a b e,l[i+1+(wE n x).length]? = some (tk 3 [123] a b e))∧C4 l (i+1+(wE n x).length+1) (lW (wE n) r++[(3,[125]),(3,[125])]):=h4
   obtain⟨h5,h6⟩:=C7.1 h4.2
   have h7:=h6.1
   have h8:=h6.2.1
   obtain⟨a,b,e,g1⟩:=h1
   obtain⟨a4,b4,e4,g4⟩:=h7
   have L:=Bg hl ih (ar:=r) (by simp only [Xw] at hm;omega) (by simp only [Xw] at hm2;omega) (fun a h=>ha a (Yk _ h)) h5 ⟨[125],a4,b4,e4,g4,rfl,rfl⟩
   have H1:=(ih x (ha x (Yi ..)) (i+1) h3).2 (ED h4.1 rfl)
   have O:=(Mz hl (fun y=>bG) (fun ys h=>Py h (by simp only [Xw] at hm2;omega)) ⟨a,b,e,g1⟩ H1 h4.1 L ⟨a4,b4,e4,g4⟩ h8).mono (R':=Sm (n+1) (E 7 [] (x::r))) (fun y ⟨a,b,e,u,ys,hy,hu,hys⟩=>by subst hy;exact zL a b e (.cons hu hys)) (Yj _)
   have e:1+(wE n x).length+1+(lW (wE n) r).length+2=([((3:Int),([123]:Zt))]++(wE n x++([(3,[123])]++(lW (wE n) r++[(3,[125]),(3,[125])])))).length:=by simp only [Xx,Xw,Xy];omega
   exact pQ hl (m:=([((3:Int),([123]:Zt))]++(wE n x++([(3,[123])]++(lW (wE n) r++[(3,[125]),(3,[125])])))).length) ⟨_,_,a,b,_,g1,.inr (.inr rfl)⟩ fun _=>O.cast e
 ·match ar,hm,ht,ha with
  |[x],_,ht,ha=>
   have ht:(∃ a b e,l[i]? = some (tk 1 t a b e))∧(∃ a b e,l[i+1]? = some (tk 3 [91] a b e))∧C4 l (i+2) (wE n x++[(3,[93])]):=ht
   obtain⟨h1,h2,h3⟩:=ht
   obtain⟨h4,h5⟩:=C7.1 h3
   obtain⟨a,b,e,g1⟩:=h1
   have H1:=(ih x (ha x (Yi ..)) (i+2) h4).2 (ED h5.1 rfl)
   have O:=(WS hl (rO hn) ⟨a,b,e,g1⟩ (fun y ⟨a,b,e,u,hy,_⟩=>⟨_,_,_,_,_,_,hy,by decide⟩) (LJ hl (fun y=>bG) (mX (rO hn)) ⟨a,b,e,g1⟩ h2 H1 h5.1)).mono (R':=Sm (n+1) (E 8 t [x])) (fun y ⟨a,b,e,u,hy,hu⟩=>by subst hy;exact zL a b e (.cons hu .nil)) (Yj _)
   have e:2+(wE n x).length+1=([((1:Int),t),(3,[91])]++(wE n x++[(3,[93])])).length:=by simp only [Xx,Xw,Xy];omega
   exact pQ hl (m:=([((1:Int),t),(3,[91])]++(wE n x++[(3,[93])])).length) ⟨_,_,a,b,_,g1,.inl (by decide)⟩ fun _=>O.cast e
 ·match ar,hm,ht,ha with
  |[x,y],_,ht,ha=>
   have ht:(∃ a b e,l[i]? = some (tk 1 t a b e))∧(∃ a b e,l[i+1]? = some (tk 3 [91] a b e))∧C4 l (i+2) (wE n x++([(3,[58])]++(wE n y++[(3,[93])]))):=ht
   obtain⟨h1,h2,h3⟩:=ht
   obtain⟨h4,h5⟩:=C7.1 h3
   have h5:(∃ a b e,l[i+2+(wE n x).length]? = some (tk 3 [58] a b e))∧C4 l (i+2+(wE n x).length+1) (wE n y++[(3,[93])]):=h5
   obtain⟨h6,h7⟩:=C7.1 h5.2
   obtain⟨a,b,e,g1⟩:=h1
   have H1:=(ih x (ha x (by simp)) (i+2) h4).2 (ED h5.1 rfl)
   have H2:=(ih y (ha y (by simp)) _ h6).2 (ED h7.1 rfl)
   have O:=(WS hl (rO hn) ⟨a,b,e,g1⟩ (fun y ⟨a,b,e,u,v,hy,_⟩=>⟨_,_,_,_,_,_,hy,by decide⟩) (LK hl (fun y=>bG) (fun y=>bG) (mX (rO hn)) ⟨a,b,e,g1⟩ h2 H1 h5.1 H2 h7.1)).mono (R':=Sm (n+1) (E 9 t [x,y])) (fun z ⟨a,b,e,u,v,hz,hu,hv⟩=>by subst hz;exact zL a b e (.cons hu (.cons hv .nil))) (Yj _)
   have e:2+(wE n x).length+1+(wE n y).length+1=([((1:Int),t),(3,[91])]++(wE n x++([(3,[58])]++(wE n y++[(3,[93])])))).length:=by simp only [Xx,Xw,Xy];omega
   exact pQ hl (m:=([((1:Int),t),(3,[91])]++(wE n x++([(3,[58])]++(wE n y++[(3,[93])])))).length) ⟨_,_,a,b,_,g1,.inl (by decide)⟩ fun _=>O.cast e
 ·have ht:(∃ a b e,l[i]? = some (tk 1 t a b e))∧(∃ a b e,l[i+1]? = some (tk 3 [40] a b e))∧C4 l (i+2) (lW (wE n) ar++[(3,[41])]):=ht
  obtain⟨h1,h2,h3⟩:=ht
  obtain⟨h4,h5⟩:=C7.1 h3
  obtain⟨a,b,e,g1⟩:=h1
  have h5:=h5.1
  obtain⟨a4,b4,e4,g4⟩:=h5
  have L:=Bg hl ih hm (by omega) ha h4 ⟨[41],a4,b4,e4,g4,rfl,rfl⟩
  have O:Ph sE l i (2+(lW (wE n) ar).length+1) (fun y=>∃ a b e ys,y=PE 10 a b e t ys∧F2 (Sm n) ar ys) (HX n):=by
   simp only [GX,Yh,List.not_mem_nil,or_false] at hn
   rcases hn with hn|hn|hn|hn
   ·exact WR hl (Yg.1 Hv t (by rw [hn];simp)) ⟨a,b,e,g1⟩ h2 L ⟨a4,b4,e4,g4⟩
   ·exact WR hl (Yg.1 Hv t (by rw [hn];simp)) ⟨a,b,e,g1⟩ h2 L ⟨a4,b4,e4,g4⟩
   ·exact Br hl (.inl hn) ⟨a,b,e,g1⟩ h2 L ⟨a4,b4,e4,g4⟩
   ·exact Br hl (.inr hn) ⟨a,b,e,g1⟩ h2 L ⟨a4,b4,e4,g4⟩
  have O2:=O.mono (R':=Sm (n+1) (E 10 t ar)) (fun y ⟨a,b,e,ys,hy,hys⟩=>by subst hy;exact zL a b e hys) (Yj _)
  have e:2+(lW (wE n) ar).length+1=([((1:Int),t),(3,[40])]++(lW (wE n) ar++[(3,[41])])).length:=by simp only [Xx,Xw,Xy];omega
  exact pQ hl (m:=([((1:Int),t),(3,[40])]++(lW (wE n) ar++[(3,[41])])).length) ⟨_,_,a,b,_,g1,.inl (by decide)⟩ fun _=>O2.cast e
theorem core:∀ (n:Nat) (x:D),bS n x→Core l n x
 |0,_,h=>h.elim
 |n+1,x,h=>Di hl (core n) x h
end
end
section
def sQ (q:D→Nat):List D→Nat
 |[]=>0
 |x::xs=>q x+sQ q xs
def Xj (q:D→Nat)(k:Int)(bs zs:List D):Nat:=
 1+(bif k==4 then q (x0 bs)+(bif ((x1 bs).at_ 0).i==8 then 0 else q (x1 bs)) else sQ q bs+sQ (fun a=>q (EP a)) zs)
def qS:Nat→D→Nat
 |0,_=>0
 |n+1,x=>Xj (qS n) (x.at_ 0).i (x.at_ 3).l (x.at_ 4).l
theorem Ww (n:Nat)(k:Int)(t:Zt)(es bs zs:List D):qS (n+1) (S k t es bs zs)=Xj (qS n) k bs zs:=rfl
def SH (n:Nat):Nat:=n+10
abbrev PW:=Nat→D→D→D→D→D→D→D→D→Out
def Pq (F:PW)(l:List D)(i m q:Nat)(R:D→Prop)(h:Nat):Prop:=
 ∀ d c p0 p1 p2:Int,0≤d→d+h≤40→0≤c→c+q≤4000→U (fun n=>F n (.Z 5 l) (i:Int) d c p0 p1 p2 (0:Int)) fun r=>∃ y,R y∧r=(true,[y,.Z 5 l,.int .i64 ((i+m:Nat):Int),.int .i64 d,.int .i64 (c+(q:Int)),.int .i64 p0,.int .i64 p1,.int .i64 p2,.int .i64 0])
def Gg (l:List D)(j:Nat):Prop:=∃ k t a b e,l[j]? = some (tk k t a b e)∧(t==cT)=false
theorem C2 {l:List D}{i:Nat}{k:Int}{t:Zt}{ws:List Tk}(h:C4 l i ((k,t)::ws)):∃ a b e,l[i]? = some (tk k t a b e):=h.1
theorem D0 {l:List D}{i:Nat}{k:Int}{t:Zt}{ws:List Tk}(h:C4 l i ((k,t)::ws)):C4 l (i+1) ws:=h.2
theorem bI {l:List D}{i:Nat}{w:Tk}{ws:List Tk}(h:C4 l i ([w]++ws)):C4 l i (w::ws):=h
theorem Li {l:List D}{i j:Nat}{ws:List Tk}(h:C4 l i ws)(e:i=j):C4 l j ws:=e▸h
theorem ND {l:List D}{i j:Nat}{x:D}(h:l[i]? = some x)(e:i=j):l[j]? = some x:=e▸h
section
variable {l:List D} (hl:l.length≤1000000)
theorem Ub (hl:l.length≤1000000){x:D}(hx:bS 4 x){i:Nat}(ht:C4 l i (wE 4 x)){k:Int}{t:Zt}{a b e:Int}(hn:l[i+(wE 4 x).length]? = some (tk 3 t a b e))(hc:cl t=true):Ph lB l i (wE 4 x).length (fun y=>OE 4 x y) 8:=
 (((core hl 4 x hx) i ht).2 ⟨t,a,b,e,hn,hc⟩).mono (fun _ h=>ON hx h) (Yj _)
theorem Gh {n:Nat}{x y:D}(h:OE n x y):JO y:=by
 obtain⟨k,t,ar,a,b,e,ar',_,rfl⟩:=Y7 h;exact⟨_,_,_,_,_,_,rfl⟩
theorem Wu {n:Nat}{x y:D}(h:OE n x y):C0 B1 y=y:=by
 obtain⟨k,t,ar,a,b,e,ar',_,rfl⟩:=Y7 h;rfl
theorem wO (hl:l.length≤1000000){x:D}(hx:bS 4 x){i:Nat}(ht:C4 l i (wE 4 x)){t:Zt}{a b e:Int}(hn:l[i+(wE 4 x).length]? = some (tk 3 t a b e))(hc:cl t=true)(d c p0 p1 p2:Int)(hd:0≤d)(hd2:d≤32) :
  U (fun n=>B3 n (.Z 5 l) (i:Int) d c p0 p1 p2 (0:Int)) fun r=>∃ y,OE 4 x y∧r=(true,[y,.Z 5 l,.int .i64 ((i+(wE 4 x).length:Nat):Int),.int .i64 d,.int .i64 c,.int .i64 p0,.int .i64 p1,.int .i64 p2,.int .i64 0]):=
 Ub hl hx ht (k:=3) hn hc d c p0 p1 p2 hd (by omega)
theorem sF (hl:l.length≤1000000){x:D}(hx:bS 4 x){i:Nat}(ht:C4 l i (pW x))(d c p0 p1 p2:Int)(hd:0≤d)(hd2:d≤32) :
  U (fun n=>K1 n (.Z 5 l) (i:Int) d c p0 p1 p2 (0:Int)) fun r=>∃ y,OE 4 x y∧r=(true,[y,.Z 5 l,.int .i64 ((i+(pW x).length:Nat):Int),.int .i64 d,.int .i64 c,.int .i64 p0,.int .i64 p1,.int .i64 p2,.int .i64 0]):=by
 have ht:C4 l i ((3,[40])::(wE 4 x++[(3,[41])])):=ht
 obtain⟨a,b,e,h1⟩:=C2 ht
 obtain⟨h2,h3⟩:=C7.1 (D0 ht)
 obtain⟨a3,b3,e3,h3⟩:=C2 h3
 have X:=wO hl hx h2 h3 rfl d c p0 p1 p2 hd hd2
 refine U.eq (fun n=>vG n l i d c p0 p1 p2 0) (U.A0 (G6 (d:=d) (c:=c) (p0:=p0) (p1:=p1) (p2:=p2) hl [[40]] (by decide) (H8 h1 rfl)) ?_)
 (intro _ ds h0;cases h0;refine⟨rfl,U.Xu rfl ?_⟩)
 refine U.A0 X ?_
 rintro _ ds ⟨y,hy,h0⟩;cases h0
 obtain⟨k,t,ar,a4,b4,e4,ar',_,rfl⟩:=Y7 hy
 refine⟨rfl,U.Xu rfl (U.A0 (G6 (d:=d) (c:=c) (p0:=p0) (p1:=p1) (p2:=p2) hl [[41]] (by decide) (H8 h3 rfl)) ?_)⟩
 (intro _ ds h0;cases h0;refine⟨rfl,U.Xu rfl ?_⟩)
 refine U.ret ⟨_,hy,?_⟩
 rw [show i+(pW x).length=i+1+(wE 4 x).length+1 from by simp only [pW,Xx,Xw,Xy];omega]
 rfl
theorem Cb (hl:l.length≤1000000){x:D}(hx:isLeft x){i:Nat}(ht:C4 l i (wE 4 x)){k:Int}{t:Zt}{a b e:Int}(hn:l[i+(wE 4 x).length]? = some (tk k t a b e))(hc:(t==[91])=false)(d c p0 p1 p2:Int)(hd:0≤d)(hd2:d≤32) :
  U (fun n=>I4 n (.Z 5 l) (i:Int) d c p0 p1 p2 (0:Int)) fun r=>∃ y,OE 4 x y∧r=(true,[y,.Z 5 l,.int .i64 ((i+(wE 4 x).length:Nat):Int),.int .i64 d,.int .i64 c,.int .i64 p0,.int .i64 p1,.int .i64 p2,.int .i64 0]):=by
 obtain⟨k0,t0,ar,rfl,hn0,hk,ha⟩:=hx
 have ha4:∀ z∈ar,bS 3 z:=fun z hz=>cS (by decide) (ha z hz)
 have hg:=mX (rO hn0)
 rcases hk with ⟨rfl,hm⟩|⟨rfl,hm⟩|⟨rfl,hm⟩
 ·have:ar=[]:=Zh.1 hm
  subst this
  have ht:C4 l i [(1,t0)]:=ht
  obtain⟨a1,b1,e1,h1⟩:=C2 ht
  have hn:l[i+1]? = some (tk k t a b e):=hn
  refine (JG (d:=d) (c:=c) (p0:=p0) (p1:=p1) (p2:=p2) hl h1 hg hn hc).mono fun r hr=>⟨_,?_,hr⟩
  exact⟨2,t0,[],a1,b1,e1,[],rfl,rfl,.inr (.inl ⟨rfl,hn0,rfl⟩),rfl,fun i h=>absurd h (by simp)⟩
 ·match ar,hm,ha4,ht,hn with
  |[z],_,ha4,ht,hn=>
   have hz:=ha4 z (by simp)
   have ht:C4 l i ((1,t0)::(3,[91])::(wE 3 z++[(3,[93])])):=ht
   obtain⟨a1,b1,e1,h1⟩:=C2 ht
   obtain⟨a2,b2,e2,h2⟩:=C2 (D0 ht)
   obtain⟨h3,h4⟩:=C7.1 (D0 (D0 ht))
   obtain⟨a4,b4,e4,h4⟩:=C2 h4
   have X:=(((core hl 3 z hz) _ h3).2 ⟨_,_,_,_,h4,rfl⟩).mono (R':=fun y=>OE 3 z y) (fun _ h=>ON hz h) (Yj _)
   have L:=LJ hl (fun y h=>Gh h) hg ⟨_,_,_,h1⟩ ⟨_,_,_,h2⟩ X ⟨_,_,_,h4⟩ d c p0 p1 p2 hd (by show d+6≤40;omega)
   refine L.mono fun r ⟨y,⟨a5,b5,e5,u,hy,hu⟩,hr⟩=>⟨y,?_,?_⟩
   ·exact⟨8,t0,[z],a5,b5,e5,[u],rfl,hy,.inr (.inr (.inr (.inr (.inr (.inr (.inr (.inl ⟨rfl,hn0,rfl⟩))))))),rfl,fun i h h'=>by
     have:i=0:=by simpa using h
     subst this;exact hu⟩
   ·rw [hr,show i+(wE 4 (E 8 t0 [z])).length=i+(2+(wE 3 z).length+1) from by
     show i+([(1,t0),(3,[91])]++(wE 3 z++[(3,[93])]):List Tk).length=_
     simp only [Xx,Xw,Xy];omega]
 ·match ar,hm,ha4,ht,hn with
  |[z,w],_,ha4,ht,hn=>
   have hz:=ha4 z (by simp)
   have hw:=ha4 w (by simp)
   have ht:C4 l i ((1,t0)::(3,[91])::(wE 3 z++((3,[58])::(wE 3 w++[(3,[93])])))):=ht
   obtain⟨a1,b1,e1,h1⟩:=C2 ht
   obtain⟨a2,b2,e2,h2⟩:=C2 (D0 ht)
   obtain⟨h3,h4⟩:=C7.1 (D0 (D0 ht))
   obtain⟨a4,b4,e4,g4⟩:=C2 h4
   obtain⟨h5,h6⟩:=C7.1 (D0 h4)
   obtain⟨a6,b6,e6,g6⟩:=C2 h6
   have X1:=(((core hl 3 z hz) _ h3).2 ⟨_,_,_,_,g4,rfl⟩).mono (R':=fun y=>OE 3 z y) (fun _ h=>ON hz h) (Yj _)
   have X2:=(((core hl 3 w hw) _ h5).2 ⟨_,_,_,_,g6,rfl⟩).mono (R':=fun y=>OE 3 w y) (fun _ h=>ON hw h) (Yj _)
   have L:=LK hl (fun y h=>Gh h) (fun y h=>Gh h) hg ⟨_,_,_,h1⟩ ⟨_,_,_,h2⟩ X1 ⟨_,_,_,g4⟩ X2 ⟨_,_,_,g6⟩ d c p0 p1 p2 hd (by show d+6≤40;omega)
   refine L.mono fun r ⟨y,⟨a5,b5,e5,u,v,hy,hu,hv⟩,hr⟩=>⟨y,?_,?_⟩
   ·exact⟨9,t0,[z,w],a5,b5,e5,[u,v],rfl,hy,.inr (.inr (.inr (.inr (.inr (.inr (.inr (.inr (.inl ⟨rfl,hn0,rfl⟩)))))))),rfl,fun i h h'=>by
     have:i=0∨i=1:=by simp at h;omega
     rcases this with rfl|rfl
     ·exact hu
     ·exact hv⟩
   ·rw [hr,show i+(wE 4 (E 9 t0 [z,w])).length=i+(2+(wE 3 z).length+1+(wE 3 w).length+1) from by
     show i+([(1,t0),(3,[91])]++(wE 3 z++([(3,[58])]++(wE 3 w++[(3,[93])]))):List Tk).length=_
     simp only [Xx,Xw,Xy];omega]
theorem VS {x:D}(hx:isLeft x){i:Nat}(ht:C4 l i (wE 4 x)):∃ t a b e,l[i]? = some (tk 1 t a b e)∧t∈Z7:=by
 obtain⟨k0,t0,ar,rfl,hn0,hk,ha⟩:=hx
 rcases hk with ⟨rfl,hm⟩|⟨rfl,hm⟩|⟨rfl,hm⟩
 ·have ht:C4 l i [(1,t0)]:=ht
  obtain⟨a,b,e,h⟩:=C2 ht
  exact⟨t0,a,b,e,h,hn0⟩
 ·have ht:C4 l i ((1,t0)::_):=ht
  obtain⟨a,b,e,h⟩:=C2 ht
  exact⟨t0,a,b,e,h,hn0⟩
 ·have ht:C4 l i ((1,t0)::_):=ht
  obtain⟨a,b,e,h⟩:=C2 ht
  exact⟨t0,a,b,e,h,hn0⟩
theorem Qq (hl:l.length≤1000000){xs:List D}(h1:1≤xs.length)(h2:xs.length≤10)(hx:∀ x∈xs,bS 4 x){i:Nat}(ht:C4 l i (lW (wE 4) xs)){t:Zt}{a b e:Int}(hn:l[i+(lW (wE 4) xs).length]? = some (tk 3 t a b e))(hc:cl t=true)(hc2:(t==[44])=false)(d c p0 p1 p2:Int)(hd:0≤d)(hd2:d≤32) :
  U (fun n=>H4 n (.Z 5 l) (i:Int) d c p0 p1 p2 (0:Int)) fun r=>∃ ys,fL xs ys∧r=(true,[.Z 5 l,.int .i64 ((i+(lW (wE 4) xs).length:Nat):Int),.int .i64 d,.int .i64 c,.int .i64 p0,.int .i64 p1,.int .i64 p2,.int .i64 0,.Z 6 ys]):=by
 have L:=Bg hl (fun x hx=>core hl 4 x hx) h1 (by omega) hx ht ⟨t,a,b,e,hn,hc,hc2⟩ d c p0 p1 p2 hd (by show d+8≤40;omega)
 refine L.mono fun r ⟨ys,hy,hr⟩=>⟨ys,⟨⟨h2,hx⟩,(Ga hy).mono fun x hx' y h=>ON (hx x hx') h⟩,hr⟩
theorem Bk (hl:l.length≤1000000){t:Zt}(hg:oQ t=true){es:List D}(h3:es.length=3)(hx:∀ x∈es,bS 4 x){i:Nat}(ht:C4 l i (Z9 t es))(d c p0 p1 p2:Int)(hd:0≤d)(hd2:d≤32) :
  U (fun n=>V9 n (.Z 5 l) ((i+1:Nat):Int) d c p0 p1 p2 (0:Int)) fun r=>∃ ys,fL es ys∧r=(true,[.str t,.Z 5 l,.int .i64 ((i+(Z9 t es).length:Nat):Int),.int .i64 d,.int .i64 c,.int .i64 p0,.int .i64 p1,.int .i64 p2,.int .i64 0,.Z 6 ys]):=by
 match es,h3,hx,ht with
 |[x,y,z],_,hx,ht=>
  have wx:=hx x (by simp)
  have wy:=hx y (by simp)
  have wz:=hx z (by simp)
  have ht:C4 l i ((1,uZ)::(3,[40])::(1,t)::(3,[61])::(wE 4 x++((3,[59])::(wE 4 y++((3,[59])::(1,t)::(3,[61])::(wE 4 z++[(3,[41])])))))):=ht
  have ht:=D0 ht
  obtain⟨a1,b1,e1,h1⟩:=C2 ht
  have ht:=D0 ht
  obtain⟨a2,b2,e2,h2⟩:=C2 ht
  have ht:=D0 ht
  obtain⟨a3,b3,e3,h3⟩:=C2 ht
  obtain⟨hX,ht⟩:=C7.1 (D0 ht)
  obtain⟨a4,b4,e4,h4⟩:=C2 ht
  obtain⟨hY,ht⟩:=C7.1 (D0 ht)
  obtain⟨a5,b5,e5,h5⟩:=C2 ht
  have ht:=D0 ht
  obtain⟨a6,b6,e6,h6⟩:=C2 ht
  have ht:=D0 ht
  obtain⟨a7,b7,e7,h7⟩:=C2 ht
  obtain⟨hZ,ht⟩:=C7.1 (D0 ht)
  obtain⟨a8,b8,e8,h8⟩:=C2 ht
  have eL:(Z9 t [x,y,z]).length=4+(wE 4 x).length+1+(wE 4 y).length+3+(wE 4 z).length+1:=by
   show ([(1,uZ),(3,[40]),(1,t),(3,[61])]++(wE 4 x++([(3,[59])]++(wE 4 y++([(3,[59]),(1,t),(3,[61])]++(wE 4 z++[(3,[41])]))))):List Tk).length=_
   simp only [Xx,Xw,Xy];omega
  have X:=wO hl wx hX h4 rfl d c p0 p1 p2 hd hd2
  have Yq:=wO hl wy hY h5 rfl d c p0 p1 p2 hd hd2
  have Zq:=wO hl wz hZ h8 rfl d c p0 p1 p2 hd hd2
  refine U.eq (fun n=>xR n l _ d c p0 p1 p2 0) (U.A0 (G6 (d:=d) (c:=c) (p0:=p0) (p1:=p1) (p2:=p2) hl [[40]] (by decide) (H8 h1 rfl)) ?_)
  (intro _ ds h0;cases h0;refine⟨rfl,U.Xu rfl ?_⟩)
  refine U.A0 (gJ (d:=d) (c:=c) (p0:=p0) (p1:=p1) (p2:=p2) hl h2 hg) ?_
  (intro _ ds h0;cases h0;refine⟨rfl,U.Xu rfl ?_⟩)
  refine U.A0 (G6 (d:=d) (c:=c) (p0:=p0) (p1:=p1) (p2:=p2) hl [[61]] (by decide) (H8 h3 rfl)) ?_
  (intro _ ds h0;cases h0;refine⟨rfl,U.Xu rfl ?_⟩)
  refine U.A0 X ?_
  rintro _ ds ⟨x',hx',h0⟩;cases h0
  obtain⟨k1,t1,r1,q1,q2,q3,s1,_,rfl⟩:=Y7 hx'
  refine⟨rfl,U.Xu rfl (U.A0 (G6 (d:=d) (c:=c) (p0:=p0) (p1:=p1) (p2:=p2) hl [[59]] (by decide) (H8 h4 rfl)) ?_)⟩
  (intro _ ds h0;cases h0;refine⟨rfl,U.Xu rfl ?_⟩)
  refine U.A0 Yq ?_
  rintro _ ds ⟨y',hy',h0⟩;cases h0
  obtain⟨k2,t2,r2,q4,q5,q6,s2,_,rfl⟩:=Y7 hy'
  have hw:CI l (i+1+1+1+1+(wE 4 x).length+1+(wE 4 y).length) [[59],t,[61]]:=by
   intro j hj
   have:j=0∨j=1∨j=2:=by simp at hj;omega
   rcases this with rfl|rfl|rfl
   ·exact⟨3,_,_,_,h5,rfl⟩
   ·exact⟨1,_,_,_,h6,rfl⟩
   ·exact⟨3,_,_,_,h7,rfl⟩
  refine⟨rfl,U.Xu rfl (U.A0 (G6 (d:=d) (c:=c) (p0:=p0) (p1:=p1) (p2:=p2) hl [[59],t,[61]] (by simp) hw) ?_)⟩
  (intro _ ds h0;cases h0;refine⟨rfl,U.Xu rfl ?_⟩)
  refine U.A0 Zq ?_
  rintro _ ds ⟨z',hz',h0⟩;cases h0
  obtain⟨k3,t3,r3,q7,q8,q9,s3,_,rfl⟩:=Y7 hz'
  refine⟨rfl,U.Xu rfl (U.A0 (G6 (d:=d) (c:=c) (p0:=p0) (p1:=p1) (p2:=p2) hl [[41]] (by decide) (H8 h8 rfl)) ?_)⟩
  (intro _ ds h0;cases h0;refine⟨rfl,U.Xu rfl ?_⟩)
  refine U.ret ⟨[PE k1 q1 q2 q3 t1 s1,PE k2 q4 q5 q6 t2 s2,PE k3 q7 q8 q9 t3 s3],⟨⟨by simp,hx⟩,rfl,fun j hj hj'=>?_⟩,?_⟩
  ·have:j=0∨j=1∨j=2:=by simp at hj;omega
   rcases this with rfl|rfl|rfl
   ·exact hx'
   ·exact hy'
   ·exact hz'
  ·rw [eL,show i+(4+(wE 4 x).length+1+(wE 4 y).length+3+(wE 4 z).length+1)=i+1+1+1+1+(wE 4 x).length+1+(wE 4 y).length+1+1+1+(wE 4 z).length+1 from by omega]
   rfl
end
end
section
theorem Ra:(Z7.all fun t=>([[59],Q6,vI,oO,uZ,nK]:List Zt).all fun w=>!(t==w))=true:=by kernel_rfl
theorem PZ {t w:Zt}(h:t∈Z7)(hw:([[59],Q6,vI,oO,uZ,nK]:List Zt).contains w=true):(t==w&&(1:Int) !=2)=false:=by
 have:=Yg.1 (Yg.1 Ra t h) w (List.contains_iff_mem.1 hw)
 rw [Zd] at this
 rw [this];rfl
theorem LR {t w:Zt}{k:Int}(h:(t==w)=false):(t==w&&k !=2)=false:=by rw [h];rfl
theorem oS {n:Nat}{x y:D}(h:OS n x y):∃ k i j l t es bs zs es' bs' zs',x=S k t es bs zs∧y=AT k i j l t es' bs' zs':=by
 cases n with
 |zero=>exact h.elim
 |succ n=>obtain⟨k,i,j,l,t,es,bs,zs,es',bs',zs',h1,h2,_⟩:=h;exact⟨k,i,j,l,t,es,bs,zs,es',bs',zs',h1,h2⟩
theorem Rl.snoc {R:D→D→Prop}{xs ys:List D}{x y:D}(h:Rl R xs ys)(hx:R x y):Rl R (xs++[x]) (ys++[y]):=by
 refine⟨by simp [h.1],fun i hi hi'=>?_⟩
 by_cases hl:i<xs.length
 ·rw [Zp hl,Zp (by rw [← h.1];exact hl)]
  exact h.2 i hl (by rw [← h.1];exact hl)
 ·have:i=xs.length:=by rw [Xx,Yu] at hi;omega
  subst this
  rw [List.getElem_append_right (by omega),List.getElem_append_right (by rw [h.1];exact Yj _)]
  simpa [h.1] using hx
theorem Rl.app {R:D→D→Prop}{xs ys us vs:List D}(h:Rl R xs ys)(h':Rl R us vs):Rl R (xs++us) (ys++vs):=by
 refine⟨by simp [h.1,h'.1],fun i hi hi'=>?_⟩
 by_cases hl:i<xs.length
 ·rw [Zp hl,Zp (by rw [← h.1];exact hl)]
  exact h.2 i hl (by rw [← h.1];exact hl)
 ·rw [List.getElem_append_right (by omega),List.getElem_append_right (by rw [← h.1];omega)]
  have e:=h.1
  rw [Xx] at hi
  have:=h'.2 (i-xs.length) (by omega) (by rw [← h'.1];omega)
  simpa only [e] using this
theorem Rl.nil {R:D→D→Prop}:Rl R [] []:=⟨rfl,fun i h=>absurd h (by simp)⟩
theorem Rl.one {R:D→D→Prop}{x y:D}(h:R x y):Rl R [x] [y]:=⟨rfl,fun i hi _=>by
 have:i=0:=by simpa using hi
 subst this;exact h⟩
theorem fL.one {x y:D}(hx:bS 4 x)(h:OE 4 x y):fL [x] [y]:=⟨⟨by simp,fun e he=>by rw [Yn.1 he];exact hx⟩,Rl.one h⟩
theorem fL.two {x y x' y':D}(hx:bS 4 x)(hx':bS 4 x')(h:OE 4 x y)(h':OE 4 x' y'):fL [x,x'] [y,y']:=
 ⟨⟨by simp,fun e he=>by
  rcases Yh.1 he with rfl|he
  ·exact hx
  ·rw [Yn.1 he];exact hx'⟩,Rl.snoc (Rl.one h) h'⟩
theorem fL.nil:fL [] []:=⟨⟨by simp,fun e he=>(by cases he)⟩,Rl.nil⟩
theorem XE {a:List D}{z y:D}:(a++[z]).set (a.length:Int).toNat y=a++[y]:=by
 rw [Zf,List.set_append_right _ _ (Yj _),Nat.sub_self];rfl
def Wg (l:List D)(n:Nat):Prop:=∀ x,qL n x→∀ i,C4 l i (wS n x)→(kX n x=true→Gg l (i+(wS n x).length))→Pq (fun m=>D5 m) l i (wS n x).length (qS n x) (OS n x) (SH n)
def sT:List Zt:=Z7++[Q6,vI,oO,uZ,nK,[59],[112,49]]
def Pg:List Zt:=[dD,cT,bZ,MZ,iF,eZ]
theorem Sj:(sT.all fun t=>Pg.all fun w=>!(t==w))=true:=by kernel_rfl
theorem QH {t w:Zt}(h:t∈sT)(hw:w∈Pg):(t==w)=false:=by
 have:=Yg.1 (Yg.1 Sj t h) w hw
 rwa [Zd] at this
theorem Kh {l:List D}:∀ {n:Nat} {x:D},qL n x→∀ {i:Nat},C4 l i (wS n x)→∃ k t a b e,l[i]? = some (tk k t a b e)∧t∈sT
 |0,_,h,_,_=>h.elim
 |n+1,x,h,i,ht=>by
  obtain⟨k,t,es,bs,zs,rfl,he,hb,hz,hs⟩:=h
  rw [Vn] at ht
  have one:∀ (k':Int) (t':Zt) (ws:List Tk),C4 l i ((k',t')::ws)→t'∈sT→∃ k t a b e,l[i]? = some (tk k t a b e)∧t∈sT:=by
   intro k' t' ws h1 h2
   obtain⟨a,b,e,h3⟩:=C2 h1
   exact⟨k',t',a,b,e,h3,h2⟩
  rcases hs with ⟨rfl,rfl,rfl,hl,rfl⟩|⟨hk,rfl,⟨l0,e,rfl,hlf⟩,rfl,rfl⟩|⟨rfl,rfl,hl,⟨b,c,rfl,hop⟩,rfl⟩|⟨rfl,rfl,hl,rfl,hz1,hz2⟩|⟨rfl,rfl,hl,hl2,rfl⟩|⟨rfl,ht',hl,rfl,rfl⟩|⟨rfl,rfl,rfl,rfl,rfl⟩
  ·exact one _ _ _ ht (by simp [sT])
  ·have hT:C4 l i (wE 4 l0):=by
    rcases hk with rfl|rfl
    ·exact (C7.1 (show C4 l i (wE 4 l0++_) from ht)).1
    ·exact (C7.1 (show C4 l i (wE 4 l0++_) from ht)).1
   obtain⟨t,a,b,e,h1,h2⟩:=VS hlf hT
   exact⟨1,t,a,b,e,h1,Yf _ h2⟩
  ·exact one _ _ _ ht (by simp [sT])
  ·exact one _ _ _ ht (by simp [sT])
  ·match es,hl,ht with
   |[a,b,c],_,ht=>exact one _ _ _ ht (by simp [sT])
  ·rcases ht' with rfl|rfl
   ·exact one _ _ _ ht (by simp [sT])
   ·exact one _ _ _ ht (by simp [sT])
  ·exact one _ _ _ ht (by simp [sT])
theorem Sr {l:List D}{n:Nat}{x:D}(h:qL n x){i:Nat}(ht:C4 l i (wS n x)):∃ k t a b e,l[i]? = some (tk k t a b e)∧(t==dD&&k !=2)=false:=by
 obtain⟨k,t,a,b,e,h1,h2⟩:=Kh h ht
 exact⟨k,t,a,b,e,h1,by rw [QH h2 (by simp [Pg])];rfl⟩
theorem Sq {l:List D}{n:Nat}{x:D}(h:qL n x){i:Nat}(ht:C4 l i (wS n x)):Gg l i:=by
 obtain⟨k,t,a,b,e,h1,h2⟩:=Kh h ht
 exact⟨k,t,a,b,e,h1,QH h2 (by simp [Pg])⟩
def fT:List Zt:=WO++Z7++GX++Kn++[[40],[123]]
def Tl:List Zt:=[cT,bZ,wJ,dD,[41],[91],[58],[59],[44]]
theorem Qr:(fT.all fun t=>Tl.all fun w=>!(t==w))=true:=by kernel_rfl
theorem Az {t w:Zt}(h:t∈fT)(hw:w∈Tl):(t==w)=false:=by
 have:=Yg.1 (Yg.1 Qr t h) w hw
 rwa [Zd] at this
theorem tG {t:Zt}(h:t∈WO∨t∈Z7∨t∈GX∨t∈Kn∨t=[40]∨t=[123]):t∈fT:=by
 simp only [fT,Yy,Yh,List.not_mem_nil,or_false]
 rcases h with h|h|h|h|h|h
 ·exact .inl (.inl (.inl (.inl h)))
 ·exact .inl (.inl (.inl (.inr h)))
 ·exact .inl (.inl (.inr h))
 ·exact .inl (.inr h)
 ·exact .inr (.inl h)
 ·exact .inr (.inr h)
theorem DJ {l:List D}:∀ (n:Nat) (x:D),bS n x→∀ i,C4 l i (wE n x)→∃ k t a b e,l[i]? = some (tk k t a b e)∧t∈fT
 |0,_,h,_,_=>h.elim
 |n+1,x,h,i,ht=>by
  obtain⟨k,t,ar,rfl,hs,ha⟩:=h
  rw [EU] at ht
  have one:∀ (k':Int) (t':Zt) (ws:List Tk),C4 l i ((k',t')::ws)→t'∈fT→∃ k1 t1 a b e,l[i]? = some (tk k1 t1 a b e)∧t1∈fT:=by
   intro k' t' ws h1 h2
   obtain⟨a,b,e,h3⟩:=C2 h1
   exact⟨_,_,a,b,e,h3,h2⟩
  have arg:∀ (x:D) (ws:List Tk),bS n x→C4 l i (aW (wE n) x++ws)→∃ k1 t1 a b e,l[i]? = some (tk k1 t1 a b e)∧t1∈fT:=by
   intro x ws hx h1
   have h1:=(C7.1 h1).1
   unfold aW at h1
   cases hop:NA x with
   |true=>
    rw [hop] at h1
    exact one 3 [40] _ h1 (tG (.inr (.inr (.inr (.inr (.inl rfl))))))
   |false=>
    rw [hop] at h1
    exact DJ n x hx i h1
  rcases hs with ⟨rfl,hn,hm⟩|⟨rfl,hn,hm⟩|⟨rfl,hn,hm⟩|⟨rfl,_,hm⟩|⟨rfl,_,hm⟩|⟨rfl,_,hm,hm2⟩|⟨rfl,_,hm,hm2⟩|⟨rfl,hn,hm⟩|⟨rfl,hn,hm⟩|⟨rfl,hn,hm,hm2⟩
  ·exact one 2 t [] ht (tG (.inl hn))
  ·exact one 1 t [] ht (tG (.inr (.inl hn)))
  ·exact one 3 t _ ht (tG (.inr (.inr (.inr (.inl hn)))))
  ·match ar,hm,ha,ht with
   |[x,y],_,ha,ht=>exact arg x _ (ha x (by simp)) ht
  ·match ar,hm,ha,ht with
   |[x,y,z],_,ha,ht=>exact arg x _ (ha x (by simp)) ht
  ·exact one 3 [123] _ ht (tG (.inr (.inr (.inr (.inr (.inr rfl))))))
  ·exact one 3 [123] _ ht (tG (.inr (.inr (.inr (.inr (.inr rfl))))))
  ·exact one 1 t _ ht (tG (.inr (.inl hn)))
  ·exact one 1 t _ ht (tG (.inr (.inl hn)))
  ·exact one 1 t _ ht (tG (.inr (.inr (.inl hn))))
theorem VY {l:List D}{xs:List D}(h1:1≤xs.length)(hx:∀ x∈xs,bS 4 x){i:Nat}(ht:C4 l i (lW (wE 4) xs)):∃ k t a b e,l[i]? = some (tk k t a b e)∧(t==wJ&&k !=2)=false∧(t==cT)=false∧(t==bZ&&k !=2)=false:=by
 have:∃ k t a b e,l[i]? = some (tk k t a b e)∧t∈fT:=by
  match xs,h1,hx,ht with
  |[x],_,hx,ht=>exact DJ 4 x (hx x (by simp)) i ht
  |x::y::r,_,hx,ht=>exact DJ 4 x (hx x (by simp)) i (C7.1 (show C4 l i (wE 4 x++_) from ht)).1
 obtain⟨k,t,a,b,e,g1,g2⟩:=this
 refine⟨k,t,a,b,e,g1,?_,Az g2 (by simp [Tl]),?_⟩
 ·rw [Az g2 (by simp [Tl])];rfl
 ·rw [Az g2 (by simp [Tl])];rfl
theorem Ao {l:List D}{n:Nat}{z:D}(h:Tc n z){i:Nat}(ht:C4 l i (fS (wS n) z)):∃ k t a b e,l[i]? = some (tk k t a b e)∧(t==cT)=false∧(t==bZ&&k !=2)=false:=by
 obtain⟨es,s0,rfl,hle,he,hs⟩:=h
 have ht:C4 l i ((bif (arm es s0 |>.at_ 0).l.isEmpty then [(1,wJ)] else [])++(lW (wE 4) (arm es s0 |>.at_ 0).l++([(3,[58])]++wS n (EP (arm es s0))))):=ht
 rw [Ts] at ht
 cases es with
 |nil=>
  obtain⟨a,b,e,h⟩:=C2 (show C4 l i ((1,wJ)::_) from ht)
  exact⟨1,wJ,a,b,e,h,rfl,rfl⟩
 |cons e0 er=>
  obtain⟨k,t,a,b,e,g1,_,g2,g3⟩:=VY (xs:=e0::er) (by simp) he (C7.1 (show C4 l i (lW (wE 4) (e0::er)++_) from ht)).1
  exact⟨k,t,a,b,e,g1,g2,g3⟩
section
variable {l:List D} (hl:l.length≤1000000)
include hl
theorem OV {e:D}(he:bS 4 e){i:Nat}(ht:C4 l i ([(1,nK)]++(pW e++[(3,[59])])))(k0 k1 k2 k3:Int)(t:Zt)(es bs zs:List D)(d c p0 p1 p2:Int)(hd:0≤d)(hd2:d≤32) :
  U (fun n=>R9 n (.Z 5 l) (i:Int) d c p0 p1 p2 (0:Int) k0 k1 k2 k3 (.str t) (.Z 6 es) (.Z 8 bs) (.Z 9 zs)) fun r=>∃ y,OE 4 e y∧r=(true,[.Z 5 l,.int .i64 ((i+((pW e).length+2):Nat):Int),.int .i64 d,.int .i64 c,.int .i64 p0,.int .i64 p1,.int .i64 p2,.int .i64 0,.int .i64 7,.int .i64 k1,.int .i64 k2,.int .i64 k3,.str t,.Z 6 [y],.Z 8 bs,.Z 9 zs]):=by
 have ht:=bI ht
 obtain⟨a1,b1,e1,h1⟩:=C2 ht
 obtain⟨h2,h3⟩:=C7.1 (D0 ht)
 obtain⟨a3,b3,e3,h3⟩:=C2 h3
 refine U.eq (fun n=>tR n l i d c p0 p1 p2 0 k0 k1 k2 k3 t es bs zs) (U.A0 (G6 (d:=d) (c:=c) (p0:=p0) (p1:=p1) (p2:=p2) hl [nK] (by decide) (H8 h1 rfl)) ?_)
 (intro _ ds h0;cases h0;refine⟨rfl,U.Xu rfl ?_⟩)
 refine U.A0 (sF hl he h2 d c p0 p1 p2 hd hd2) ?_
 rintro _ ds ⟨y,hy,h0⟩;cases h0
 have hy0:=hy
 obtain⟨k4,t4,r4,a4,b4,e4,s4,_,rfl⟩:=Y7 hy
 refine⟨rfl,U.Xu rfl (U.A0 (G6 (d:=d) (c:=c) (p0:=p0) (p1:=p1) (p2:=p2) hl [[59]] (by decide) (H8 h3 rfl)) ?_)⟩
 (intro _ ds h0;cases h0;refine⟨rfl,U.Xu rfl ?_⟩)
 refine U.ret ⟨_,hy0,?_⟩
 rw [show i+((pW e).length+2)=i+1+(pW e).length+1 from by omega]
 rfl
theorem Sl {k:Int}(hk:k=2∨k=3){x e:D}(hx:isLeft x)(he:bS 4 e){i:Nat}(ht:C4 l i (wE 4 x++([(3,bif k==2 then [61] else [60,61])]++(wE 4 e++[(3,[59])]))))(k1 k2 k3:Int)(d c p0 p1 p2:Int)(hd:0≤d)(hd2:d≤32) :
  U (fun n=>V4 n (.Z 5 l) (i:Int) d c p0 p1 p2 (0:Int) (8:Int) k1 k2 k3 (.str []) (.Z 6 []) (.Z 8 []) (.Z 9 [])) fun r=>∃ y z,OE 4 x y∧OE 4 e z∧r=(true,[.Z 5 l,.int .i64 ((i+((wE 4 x).length+(wE 4 e).length+2):Nat):Int),.int .i64 d,.int .i64 c,.int .i64 p0,.int .i64 p1,.int .i64 p2,.int .i64 0,.int .i64 k,.int .i64 k1,.int .i64 k2,.int .i64 k3,.str [],.Z 6 [y,z],.Z 8 [],.Z 9 []]):=by
 obtain⟨h1,ht⟩:=C7.1 ht
 have ht:=bI ht
 obtain⟨a1,b1,e1,h2⟩:=C2 ht
 obtain⟨h3,h4⟩:=C7.1 (D0 ht)
 obtain⟨a4,b4,e4,h4⟩:=C2 h4
 have L:=Cb hl hx h1 h2 (by rcases hk with rfl|rfl<;>rfl) d c p0 p1 p2 hd hd2
 have X:=wO hl he h3 h4 rfl d c p0 p1 p2 hd hd2
 have hlen:i+((wE 4 x).length+(wE 4 e).length+2)=i+(wE 4 x).length+1+(wE 4 e).length+1:=by omega
 have J2:∀ (r1:List D) (y:D),r1=[y,.Z 5 l,.int .i64 ((i+(wE 4 x).length:Nat):Int),.int .i64 d,.int .i64 c,.int .i64 p0,.int .i64 p1,.int .i64 p2,.int .i64 0]→OE 4 x y→U (fun n=>cQ n l ((i+(wE 4 x).length+1:Nat):Int) d c p0 p1 p2 0 k k1 k2 k3 [] r1 [] []) fun r=>∃ y z,OE 4 x y∧OE 4 e z∧r=(true,[.Z 5 l,.int .i64 ((i+((wE 4 x).length+(wE 4 e).length+2):Nat):Int),.int .i64 d,.int .i64 c,.int .i64 p0,.int .i64 p1,.int .i64 p2,.int .i64 0,.int .i64 k,.int .i64 k1,.int .i64 k2,.int .i64 k3,.str [],.Z 6 [y,z],.Z 8 [],.Z 9 []]):=by
  intro r1 y hr1 hy
  refine G4 (fun n=>cQ.eq_1 n _ _ _ _ _ _ _ _ _ _ _ _ _ _ _ _) (U.A0 X ?_)
  rintro _ ds ⟨z,hz,h0⟩;cases h0
  have hz0:=hz
  obtain⟨k5,t5,r5,a5,b5,e5,s5,_,rfl⟩:=Y7 hz
  refine⟨rfl,U.Xu rfl (U.A0 (G6 (d:=d) (c:=c) (p0:=p0) (p1:=p1) (p2:=p2) hl [[59]] (by decide) (H8 h4 rfl)) ?_)⟩
  (intro _ ds h0;cases h0;refine⟨rfl,U.Xu rfl ?_⟩)
  refine U.ret ⟨y,_,hy,hz0,?_⟩
  subst hr1
  rw [hlen,show C0 B1 (Y [y,.Z 5 l,.int .i64 ((i+(wE 4 x).length:Nat):Int),.int .i64 d,.int .i64 c,.int .i64 p0,.int .i64 p1,.int .i64 p2,.int .i64 0] 0)=y from Wu hy]
  rfl
 have J1:∀ (r1:List D) (y:D),r1=[y,.Z 5 l,.int .i64 ((i+(wE 4 x).length:Nat):Int),.int .i64 d,.int .i64 c,.int .i64 p0,.int .i64 p1,.int .i64 p2,.int .i64 0]→OE 4 x y→U (fun n=>aS n false l ((i+(wE 4 x).length:Nat):Int) d c p0 p1 p2 0 8 k1 k2 k3 r1 [] [] [] []) fun r=>∃ y z,OE 4 x y∧OE 4 e z∧r=(true,[.Z 5 l,.int .i64 ((i+((wE 4 x).length+(wE 4 e).length+2):Nat):Int),.int .i64 d,.int .i64 c,.int .i64 p0,.int .i64 p1,.int .i64 p2,.int .i64 0,.int .i64 k,.int .i64 k1,.int .i64 k2,.int .i64 k3,.str [],.Z 6 [y,z],.Z 8 [],.Z 9 []]):=by
  intro r1 y hr1 hy
  refine G4 (fun n=>aS.eq_1 n _ _ _ _ _ _ _ _ _ _ _ _ _ _ _ _ _ _) (U.no rfl ?_)
  rcases hk with rfl|rfl
  ·refine U.A0 (C1 (d:=d) (c:=c) (p0:=p0) (p1:=p1) (p2:=p2) h2 rfl) ?_
   (intro _ ds h0;cases h0;refine⟨rfl,U.Xu rfl ?_⟩)
   refine U.no rfl (U.A0 (G6 (d:=d) (c:=c) (p0:=p0) (p1:=p1) (p2:=p2) hl [[61]] (by decide) (H8 h2 rfl)) ?_)
   (intro _ ds h0;cases h0;refine⟨rfl,U.Xu rfl ?_⟩)
   exact J2 r1 y hr1 hy
  ·refine U.A0 (F8 (d:=d) (c:=c) (p0:=p0) (p1:=p1) (p2:=p2) hl h2 rfl) ?_
   (intro _ ds h0;cases h0;refine⟨rfl,U.Xu rfl ?_⟩)
   refine U.Xu rfl ?_
   exact J2 r1 y hr1 hy
 refine U.eq (fun n=>mB n l i d c p0 p1 p2 0 8 k1 k2 k3 [] [] [] []) (U.A0 L ?_)
 rintro _ ds ⟨y,hy,h0⟩;cases h0
 have hy0:=hy
 obtain⟨k5,t5,r5,a5,b5,e5,s5,hx5,rfl⟩:=Y7 hy
 refine⟨rfl,U.Xu rfl (U.Xv (fun _=>?_) fun _=>J1 _ _ rfl hy0)⟩
 refine U.A0 (C1 (d:=d) (c:=c) (p0:=p0) (p1:=p1) (p2:=p2) h2 (by rcases hk with rfl|rfl<;>rfl)) ?_
 (intro _ ds h0;cases h0;refine⟨rfl,U.Xu rfl ?_⟩)
 exact J1 _ _ rfl hy0
theorem Jd {e:D}(he:bS 4 e){i:Nat}(ht:C4 l i ([(1,[112,49]),(3,[58])]++([(1,nK)]++(pW e++[(3,[59])]))))(k1 k2 k3:Int)(d c p0 p1 p2:Int)(hd:0≤d)(hd2:d≤32) :
  U (fun n=>V4 n (.Z 5 l) (i:Int) d c p0 p1 p2 (0:Int) (8:Int) k1 k2 k3 (.str []) (.Z 6 []) (.Z 8 []) (.Z 9 [])) fun r=>∃ y,OE 4 e y∧r=(true,[.Z 5 l,.int .i64 ((i+((pW e).length+4):Nat):Int),.int .i64 d,.int .i64 c,.int .i64 p0,.int .i64 p1,.int .i64 p2,.int .i64 0,.int .i64 7,.int .i64 k1,.int .i64 k2,.int .i64 k3,.str [112,49],.Z 6 [y],.Z 8 [],.Z 9 []]):=by
 obtain⟨a1,b1,e1,h1⟩:=C2 ht
 obtain⟨a2,b2,e2,h2⟩:=C2 (D0 ht)
 have h3:C4 l (i+1+1) ([(1,nK)]++(pW e++[(3,[59])])):=D0 (D0 ht)
 refine U.eq (fun n=>mB n l i d c p0 p1 p2 0 8 k1 k2 k3 [] [] [] []) (U.A0 (JG (d:=d) (c:=c) (p0:=p0) (p1:=p1) (p2:=p2) hl h1 (by kernel_rfl) h2 rfl) ?_)
 (intro _ ds h0;cases h0;refine⟨rfl,U.Xu rfl ?_⟩)
 refine U.Xu rfl (U.A0 (F8 (d:=d) (c:=c) (p0:=p0) (p1:=p1) (p2:=p2) hl h2 rfl) ?_)
 (intro _ ds h0;cases h0;refine⟨rfl,U.Xu rfl ?_⟩)
 refine G4 (fun n=>aS.eq_1 n _ _ _ _ _ _ _ _ _ _ _ _ _ _ _ _ _ _) (U.Xu rfl (U.A0 (OV hl he h3 8 k1 k2 k3 [112,49] [] [] [] d c p0 p1 p2 hd hd2) ?_))
 rintro _ ds ⟨y,hy,h0⟩;cases h0
 refine⟨rfl,U.Xu rfl (U.ret ⟨y,hy,?_⟩)⟩
 rw [show i+((pW e).length+4)=i+1+1+((pW e).length+2) from by omega]
 rfl
end
section
variable {l:List D} (hl:l.length≤1000000) {n:Nat} (ih:Wg l n)
include hl ih
theorem Aq (k1 k2 k3 d p0 p1 p2:Int)(hd:0≤d)(hd2:d+SH n≤40):∀ (bs:List D) (i:Nat) (c:Int) (acc xs:List D),(∀ b∈bs,qL n b)→C4 l i (bs.flatMap (wS n)++[(1,dD)])→bs.length+acc.length≤100→0≤c→c+sQ (qS n) bs≤4000→Rl (OS n) xs acc→
  U (fun m=>Q1 m (.Z 5 l) (i:Int) d c p0 p1 p2 (0:Int) (0:Int) (0:Int) (0:Int) (0:Int) (.str []) (1:Int) k1 k2 k3 (.str []) (.Z 6 []) (.Z 8 []) (.Z 9 []) (.Z 6 []) (.Z 8 acc) (.Z 9 [])) fun r=>
   ∃ ys,Rl (OS n) (xs++bs) ys∧r=(false,[.Z 5 l,.int .i64 ((i+((bs.flatMap (wS n)).length+1):Nat):Int),.int .i64 d,.int .i64 (c+(sQ (qS n) bs:Nat)),.int .i64 p0,.int .i64 p1,.int .i64 p2,.int .i64 0,.int .i64 0,.int .i64 0,.int .i64 0,.int .i64 0,.str [],.int .i64 1,.int .i64 k1,.int .i64 k2,.int .i64 k3,.str [],.Z 6 [],.Z 8 [],.Z 9 [],.Z 6 [],.Z 8 ys,.Z 9 []])
 |[],i,c,acc,xs,_,ht,_,hc,hq,hr=>by
  obtain⟨a,b,e,h1⟩:=C2 (show C4 l i [(1,dD)] from ht)
  refine U.eq (fun m=>kY m _ _ _ _ _ _ _ _ _ _ _ _ _ _ _ _ _ _ _ _ _ _ _ _) (U.Xu rfl (U.A0 (F8 (d:=d) (c:=c) (p0:=p0) (p1:=p1) (p2:=p2) hl h1 rfl) ?_))
  (intro _ ds h0;cases h0;refine⟨rfl,U.Xu rfl ?_⟩)
  refine U.no rfl (U.ret ⟨acc,by rw [Za];exact hr,?_⟩)
  show (_:Bool×List D)=(false,[.Z 5 l,.int .i64 ((i+(0+1):Nat):Int),.int .i64 d,.int .i64 (c+((0:Nat):Int)),.int .i64 p0,.int .i64 p1,.int .i64 p2,.int .i64 0,_,_,_,_,_,_,_,_,_,_,_,_,_,_,_,_])
  rw [show c+((0:Nat):Int)=c from by omega]
  rfl
 |b::bs,i,c,acc,xs,hb,ht,hn,hc,hq,hr=>by
  have hq:c+((qS n b+sQ (qS n) bs:Nat):Int)≤4000:=hq
  rw [Ze,Yl] at ht
  obtain⟨h1,h2⟩:=C7.1 ht
  have hwb:=hb b (Yi ..)
  obtain⟨k,t,a0,b0,e0,h0,hne⟩:=Sr hwb h1
  have hNel:Gg l (i+(wS n b).length):=by
   cases bs with
   |nil=>
    obtain⟨a,b,e,h3⟩:=C2 (show C4 l _ [(1,dD)] from h2)
    exact⟨1,dD,a,b,e,h3,rfl⟩
   |cons b2 bs=>
    rw [Ze,Yl] at h2
    have hw2:=hb b2 (by simp)
    exact Sq hw2 (C7.1 h2).1
  have I:=ih b hwb i h1 (fun _=>hNel) d c p0 p1 p2 hd hd2 hc (by omega)
  refine U.eq (fun m=>kY m _ _ _ _ _ _ _ _ _ _ _ _ _ _ _ _ _ _ _ _ _ _ _ _) (U.Xu rfl (U.A0 (C1 (d:=d) (c:=c) (p0:=p0) (p1:=p1) (p2:=p2) h0 hne) ?_))
  (intro _ ds h0;cases h0;refine⟨rfl,U.Xu rfl ?_⟩)
  refine U.Xu rfl (U.A0 I ?_)
  rintro _ ds ⟨y,hy,h3⟩;cases h3
  obtain⟨k4,i4,j4,l4,t4,es4,bs4,zs4,es5,bs5,zs5,_,rfl⟩:=oS hy
  simp only [Xw] at hn
  refine⟨rfl,U.Xu rfl (U.Xu (Yc (by simp only [D8];omega)) (U.Xu (by rw [Zi (by omega),Zi (by rw [Xx,Yu];omega)];rfl) ?_))⟩
  rw [XE]
  have K:=Aq k1 k2 k3 d p0 p1 p2 hd hd2 bs (i+(wS n b).length) (c+(qS n b:Int)) (acc++[AT k4 i4 j4 l4 t4 es5 bs5 zs5]) (xs++[b]) (fun x hx=>hb x (Yk _ hx)) h2 (by rw [Xx,Yu];omega) (by omega) (by omega) (hr.snoc hy)
  refine K.mono fun r ⟨ys,g1,g2⟩=>⟨ys,by rw [Yl] at g1;exact g1,?_⟩
  rw [g2,Ze,Xx,show i+(wS n b).length+((bs.flatMap (wS n)).length+1)=i+((wS n b).length+(bs.flatMap (wS n)).length+1) from by omega]
  show (_:Bool×List D)=(false,[.Z 5 l,.int .i64 ((i+((wS n b).length+(bs.flatMap (wS n)).length+1):Nat):Int),.int .i64 d,.int .i64 (c+((qS n b+sQ (qS n) bs:Nat):Int)),.int .i64 p0,.int .i64 p1,.int .i64 p2,.int .i64 0,_,_,_,_,_,_,_,_,_,_,_,_,_,_,_,_])
  rw [show c+(qS n b:Int)+(sQ (qS n) bs:Int)=c+((qS n b+sQ (qS n) bs:Nat):Int) from by omega]
end
end
section
section
variable {l:List D} (hl:l.length≤1000000) {n:Nat} (ih:Wg l n)
include hl
theorem Rn {i:Nat}(ht:C4 l i [(3,[59])]):Pq (fun m=>D5 m) l i 1 1 (OS (n+1) rC) (SH (n+1)):=by
 obtain⟨a1,b1,e1,h1⟩:=C2 ht
 intro d c p0 p1 p2 hd hd2 hc hc2
 have hS:d+1+(SH n:Int)≤40:=by unfold SH at hd2 ⊢;omega
 unfold SH at hd2
 (refine U.eq (fun m=>Q2 m l i d c p0 p1 p2 0) (U.A0 (gN (l:=l) (d:=d) (c:=c) (p0:=p0) (p1:=p1) (p2:=p2) (i:Int) (by omega) hd) ?_);intro _ ds h0;cases h0;refine⟨rfl,U.Xu rfl (U.no rfl (U.A0 (P6 (l:=l) (d:=(d+1)) (c:=c) (p0:=p0) (p1:=p1) (p2:=p2) (i:Int) (by omega) hc) ?_))⟩;intro _ ds h0;cases h0;refine⟨rfl,U.Xu rfl (U.A0 (K8 (d:=(d+1)) (c:=(c+1)) (p0:=p0) (p1:=p1) (p2:=p2) h1) ?_)⟩;intro _ ds h0;cases h0;refine⟨rfl,U.Xu rfl ?_⟩)
 refine U.A0 (F8 (d:=(d+1)) (c:=(c+1)) (p0:=p0) (p1:=p1) (p2:=p2) hl h1 rfl) ?_
 (intro _ ds h0;cases h0;refine⟨rfl,U.Xu rfl ?_⟩)
 refine U.Xu rfl ?_
 (refine U.A0 (cM (l:=l) (d:=d) (c:=(c+1)) (p0:=p0) (p1:=p1) (p2:=p2) _ (by omega) hd) ?_;intro _ ds h0;cases h0;refine⟨rfl,U.Xu rfl ?_⟩)
 exact U.ret ⟨_,⟨8,a1,b1,e1,[],[],[],[],[],[],[],rfl,rfl,fL.nil,by simp,by simp,Rl.nil,Rl.nil⟩,rfl⟩
theorem Kb {k:Int}(hk:k=2∨k=3){x e:D}(hx:isLeft x)(he:bS 4 e){i:Nat}(ht:C4 l i (wE 4 x++([(3,bif k==2 then [61] else [60,61])]++(wE 4 e++[(3,[59])])))) :
  Pq (fun m=>D5 m) l i ((wE 4 x).length+(wE 4 e).length+2) 1 (OS (n+1) (S k [] [x,e] [] [])) (SH (n+1)):=by
 obtain⟨t,a1,b1,e1,h1,hn⟩:=VS hx (C7.1 ht).1
 have hx4:bS 4 x:=cS (by decide) (rZ hx)
 intro d c p0 p1 p2 hd hd2 hc hc2
 unfold SH at hd2
 (refine U.eq (fun m=>Q2 m l i d c p0 p1 p2 0) (U.A0 (gN (l:=l) (d:=d) (c:=c) (p0:=p0) (p1:=p1) (p2:=p2) (i:Int) (by omega) hd) ?_);intro _ ds h0;cases h0;refine⟨rfl,U.Xu rfl (U.no rfl (U.A0 (P6 (l:=l) (d:=(d+1)) (c:=c) (p0:=p0) (p1:=p1) (p2:=p2) (i:Int) (by omega) hc) ?_))⟩;intro _ ds h0;cases h0;refine⟨rfl,U.Xu rfl (U.A0 (K8 (d:=(d+1)) (c:=(c+1)) (p0:=p0) (p1:=p1) (p2:=p2) h1) ?_)⟩;intro _ ds h0;cases h0;refine⟨rfl,U.Xu rfl ?_⟩)
 (refine U.A0 (C1 (d:=(d+1)) (c:=(c+1)) (p0:=p0) (p1:=p1) (p2:=p2) h1 (PZ hn rfl)) ?_;intro _ ds h0;cases h0;refine⟨rfl,U.Xu rfl (U.no rfl ?_)⟩)
 (refine U.A0 (C1 (d:=(d+1)) (c:=(c+1)) (p0:=p0) (p1:=p1) (p2:=p2) h1 (PZ hn rfl)) ?_;intro _ ds h0;cases h0;refine⟨rfl,U.Xu rfl (U.no rfl ?_)⟩)
 (refine U.A0 (C1 (d:=(d+1)) (c:=(c+1)) (p0:=p0) (p1:=p1) (p2:=p2) h1 (PZ hn rfl)) ?_;intro _ ds h0;cases h0;refine⟨rfl,U.Xu rfl (U.no rfl ?_)⟩)
 refine U.A0 (C1 (d:=(d+1)) (c:=(c+1)) (p0:=p0) (p1:=p1) (p2:=p2) h1 (PZ hn rfl)) ?_
 intro _ ds h0;cases h0
 refine⟨rfl,U.Xu rfl (U.D4 (Q:=fun r=>∃ y z,OE 4 x y∧OE 4 e z∧r=(false,[.bool false,.Z 5 l,.int .i64 ((i+((wE 4 x).length+(wE 4 e).length+2):Nat):Int),.int .i64 (d+1),.int .i64 (c+1),.int .i64 p0,.int .i64 p1,.int .i64 p2,.int .i64 0,.int .i64 0,.int .i64 0,.int .i64 0,.int .i64 0,.str [],.int .i64 k,.int .i64 a1,.int .i64 b1,.int .i64 e1,.str [],.Z 6 [],.Z 8 [],.Z 9 [],.Z 6 [y,z],.Z 8 [],.Z 9 []])) ?_ (fun ds h=>by obtain⟨_,_,_,_,h⟩:=h;cases h) fun ds h=>?_)⟩
 ·refine U.eq (fun m=>Y5 m _ _ _ _ _ _ _ _ _ _ _ _ _ _ _ _ _ _ _ _ _ _ _ _ _) (U.no rfl (U.A0 (C1 (d:=(d+1)) (c:=(c+1)) (p0:=p0) (p1:=p1) (p2:=p2) h1 (PZ hn rfl)) ?_))
  (intro _ ds h0;cases h0;refine⟨rfl,U.Xu rfl ?_⟩)
  refine U.no rfl (U.A0 (dF (d:=(d+1)) (c:=(c+1)) (p0:=p0) (p1:=p1) (p2:=p2) nK h1) ?_)
  (intro _ ds h0;cases h0;refine⟨rfl,U.Xu rfl ?_⟩)
  refine U.no (by exact PZ hn rfl) (U.A0 (Sl hl hk hx he ht a1 b1 e1 (d+1) (c+1) p0 p1 p2 (by omega) (by omega)) ?_)
  rintro _ ds ⟨y,z,hy,hz,h0⟩;cases h0
  exact⟨rfl,U.Xu rfl (U.ret ⟨y,z,hy,hz,rfl⟩)⟩
 ·obtain⟨y,z,hy,hz,h⟩:=h
  cases h
  refine U.Xu rfl ?_
  (refine U.A0 (cM (l:=l) (d:=d) (c:=(c+1)) (p0:=p0) (p1:=p1) (p2:=p2) _ (by omega) hd) ?_;intro _ ds h0;cases h0;refine⟨rfl,U.Xu rfl ?_⟩)
  exact U.ret ⟨_,⟨k,a1,b1,e1,[],[x,e],[],[],[y,z],[],[],rfl,rfl,fL.two hx4 he hy hz,by simp,by simp,Rl.nil,Rl.nil⟩,rfl⟩
theorem Tu {t:Zt}(ht':t=[]∨t=[112,49]){e:D}(he:bS 4 e){i:Nat}(ht:C4 l i ((bif t.isEmpty then [] else [(1,t),(3,[58])])++([(1,nK)]++(pW e++[(3,[59])])))) :
  Pq (fun m=>D5 m) l i ((bif t.isEmpty then 0 else 2)+((pW e).length+2)) 1 (OS (n+1) (S 7 t [e] [] [])) (SH (n+1)):=by
 intro d c p0 p1 p2 hd hd2 hc hc2
 unfold SH at hd2
 rcases ht' with rfl|rfl
 ·have ht:C4 l i ([(1,nK)]++(pW e++[(3,[59])])):=ht
  obtain⟨a1,b1,e1,h1⟩:=C2 ht
  (refine U.eq (fun m=>Q2 m l i d c p0 p1 p2 0) (U.A0 (gN (l:=l) (d:=d) (c:=c) (p0:=p0) (p1:=p1) (p2:=p2) (i:Int) (by omega) hd) ?_);intro _ ds h0;cases h0;refine⟨rfl,U.Xu rfl (U.no rfl (U.A0 (P6 (l:=l) (d:=(d+1)) (c:=c) (p0:=p0) (p1:=p1) (p2:=p2) (i:Int) (by omega) hc) ?_))⟩;intro _ ds h0;cases h0;refine⟨rfl,U.Xu rfl (U.A0 (K8 (d:=(d+1)) (c:=(c+1)) (p0:=p0) (p1:=p1) (p2:=p2) h1) ?_)⟩;intro _ ds h0;cases h0;refine⟨rfl,U.Xu rfl ?_⟩)
  (refine U.A0 (C1 (d:=(d+1)) (c:=(c+1)) (p0:=p0) (p1:=p1) (p2:=p2) h1 rfl) ?_;intro _ ds h0;cases h0;refine⟨rfl,U.Xu rfl (U.no rfl ?_)⟩)
  (refine U.A0 (C1 (d:=(d+1)) (c:=(c+1)) (p0:=p0) (p1:=p1) (p2:=p2) h1 rfl) ?_;intro _ ds h0;cases h0;refine⟨rfl,U.Xu rfl (U.no rfl ?_)⟩)
  (refine U.A0 (C1 (d:=(d+1)) (c:=(c+1)) (p0:=p0) (p1:=p1) (p2:=p2) h1 rfl) ?_;intro _ ds h0;cases h0;refine⟨rfl,U.Xu rfl (U.no rfl ?_)⟩)
  refine U.A0 (C1 (d:=(d+1)) (c:=(c+1)) (p0:=p0) (p1:=p1) (p2:=p2) h1 rfl) ?_
  intro _ ds h0;cases h0
  refine⟨rfl,U.Xu rfl (U.D4 (Q:=fun r=>∃ y,OE 4 e y∧r=(false,[.bool false,.Z 5 l,.int .i64 ((i+((pW e).length+2):Nat):Int),.int .i64 (d+1),.int .i64 (c+1),.int .i64 p0,.int .i64 p1,.int .i64 p2,.int .i64 0,.int .i64 0,.int .i64 0,.int .i64 0,.int .i64 0,.str [],.int .i64 7,.int .i64 a1,.int .i64 b1,.int .i64 e1,.str [],.Z 6 [],.Z 8 [],.Z 9 [],.Z 6 [y],.Z 8 [],.Z 9 []])) ?_ (fun ds h=>by obtain⟨_,_,h⟩:=h;cases h) fun ds h=>?_)⟩
  ·refine U.eq (fun m=>Y5 m _ _ _ _ _ _ _ _ _ _ _ _ _ _ _ _ _ _ _ _ _ _ _ _ _) (U.no rfl (U.A0 (C1 (d:=(d+1)) (c:=(c+1)) (p0:=p0) (p1:=p1) (p2:=p2) h1 rfl) ?_))
   (intro _ ds h0;cases h0;refine⟨rfl,U.Xu rfl ?_⟩)
   refine U.no rfl (U.A0 (dF (d:=(d+1)) (c:=(c+1)) (p0:=p0) (p1:=p1) (p2:=p2) nK h1) ?_)
   (intro _ ds h0;cases h0;refine⟨rfl,U.Xu rfl ?_⟩)
   refine U.Xu rfl (U.A0 (OV hl he ht 8 a1 b1 e1 [] [] [] [] (d+1) (c+1) p0 p1 p2 (by omega) (by omega)) ?_)
   rintro _ ds ⟨y,hy,h0⟩;cases h0
   exact⟨rfl,U.Xu rfl (U.ret ⟨y,hy,rfl⟩)⟩
  ·obtain⟨y,hy,h⟩:=h
   cases h
   refine U.Xu rfl ?_
   (refine U.A0 (cM (l:=l) (d:=d) (c:=(c+1)) (p0:=p0) (p1:=p1) (p2:=p2) _ (by omega) hd) ?_;intro _ ds h0;cases h0;refine⟨rfl,U.Xu rfl ?_⟩)
   refine U.ret ⟨_,⟨7,a1,b1,e1,[],[e],[],[],[y],[],[],rfl,rfl,fL.one he hy,by simp,by simp,Rl.nil,Rl.nil⟩,?_⟩
   show (_:Bool×List D)=(true,[_,.Z 5 l,.int .i64 ((i+(0+((pW e).length+2)):Nat):Int),.int .i64 d,.int .i64 (c+((1:Nat):Int)),.int .i64 p0,.int .i64 p1,.int .i64 p2,.int .i64 0])
   rw [Yp];rfl
 ·have ht:C4 l i ([(1,[112,49]),(3,[58])]++([(1,nK)]++(pW e++[(3,[59])]))):=ht
  obtain⟨a1,b1,e1,h1⟩:=C2 ht
  (refine U.eq (fun m=>Q2 m l i d c p0 p1 p2 0) (U.A0 (gN (l:=l) (d:=d) (c:=c) (p0:=p0) (p1:=p1) (p2:=p2) (i:Int) (by omega) hd) ?_);intro _ ds h0;cases h0;refine⟨rfl,U.Xu rfl (U.no rfl (U.A0 (P6 (l:=l) (d:=(d+1)) (c:=c) (p0:=p0) (p1:=p1) (p2:=p2) (i:Int) (by omega) hc) ?_))⟩;intro _ ds h0;cases h0;refine⟨rfl,U.Xu rfl (U.A0 (K8 (d:=(d+1)) (c:=(c+1)) (p0:=p0) (p1:=p1) (p2:=p2) h1) ?_)⟩;intro _ ds h0;cases h0;refine⟨rfl,U.Xu rfl ?_⟩)
  (refine U.A0 (C1 (d:=(d+1)) (c:=(c+1)) (p0:=p0) (p1:=p1) (p2:=p2) h1 rfl) ?_;intro _ ds h0;cases h0;refine⟨rfl,U.Xu rfl (U.no rfl ?_)⟩)
  (refine U.A0 (C1 (d:=(d+1)) (c:=(c+1)) (p0:=p0) (p1:=p1) (p2:=p2) h1 rfl) ?_;intro _ ds h0;cases h0;refine⟨rfl,U.Xu rfl (U.no rfl ?_)⟩)
  (refine U.A0 (C1 (d:=(d+1)) (c:=(c+1)) (p0:=p0) (p1:=p1) (p2:=p2) h1 rfl) ?_;intro _ ds h0;cases h0;refine⟨rfl,U.Xu rfl (U.no rfl ?_)⟩)
  refine U.A0 (C1 (d:=(d+1)) (c:=(c+1)) (p0:=p0) (p1:=p1) (p2:=p2) h1 rfl) ?_
  intro _ ds h0;cases h0
  refine⟨rfl,U.Xu rfl (U.D4 (Q:=fun r=>∃ y,OE 4 e y∧r=(false,[.bool false,.Z 5 l,.int .i64 ((i+((pW e).length+4):Nat):Int),.int .i64 (d+1),.int .i64 (c+1),.int .i64 p0,.int .i64 p1,.int .i64 p2,.int .i64 0,.int .i64 0,.int .i64 0,.int .i64 0,.int .i64 0,.str [],.int .i64 7,.int .i64 a1,.int .i64 b1,.int .i64 e1,.str [112,49],.Z 6 [],.Z 8 [],.Z 9 [],.Z 6 [y],.Z 8 [],.Z 9 []])) ?_ (fun ds h=>by obtain⟨_,_,h⟩:=h;cases h) fun ds h=>?_)⟩
  ·refine U.eq (fun m=>Y5 m _ _ _ _ _ _ _ _ _ _ _ _ _ _ _ _ _ _ _ _ _ _ _ _ _) (U.no rfl (U.A0 (C1 (d:=(d+1)) (c:=(c+1)) (p0:=p0) (p1:=p1) (p2:=p2) h1 rfl) ?_))
   (intro _ ds h0;cases h0;refine⟨rfl,U.Xu rfl ?_⟩)
   refine U.no rfl (U.A0 (dF (d:=(d+1)) (c:=(c+1)) (p0:=p0) (p1:=p1) (p2:=p2) nK h1) ?_)
   (intro _ ds h0;cases h0;refine⟨rfl,U.Xu rfl ?_⟩)
   refine U.no rfl (U.A0 (Jd hl he ht a1 b1 e1 (d+1) (c+1) p0 p1 p2 (by omega) (by omega)) ?_)
   rintro _ ds ⟨y,hy,h0⟩;cases h0
   exact⟨rfl,U.Xu rfl (U.ret ⟨y,hy,rfl⟩)⟩
  ·obtain⟨y,hy,h⟩:=h
   cases h
   refine U.Xu rfl ?_
   (refine U.A0 (cM (l:=l) (d:=d) (c:=(c+1)) (p0:=p0) (p1:=p1) (p2:=p2) _ (by omega) hd) ?_;intro _ ds h0;cases h0;refine⟨rfl,U.Xu rfl ?_⟩)
   refine U.ret ⟨_,⟨7,a1,b1,e1,[112,49],[e],[],[],[y],[],[],rfl,rfl,fL.one he hy,by simp,by simp,Rl.nil,Rl.nil⟩,?_⟩
   show (_:Bool×List D)=(true,[_,.Z 5 l,.int .i64 ((i+(2+((pW e).length+2)):Nat):Int),.int .i64 d,.int .i64 (c+((1:Nat):Int)),.int .i64 p0,.int .i64 p1,.int .i64 p2,.int .i64 0])
   rw [show i+(2+((pW e).length+2))=i+((pW e).length+4) from by omega];rfl
include ih
theorem Tv {bs:List D}(hn:bs.length≤3)(hb:∀ b∈bs,qL n b){i:Nat}(ht:C4 l i ([(1,Q6)]++(bs.flatMap (wS n)++[(1,dD)]))) :
  Pq (fun m=>D5 m) l i ((bs.flatMap (wS n)).length+2) (1+sQ (qS n) bs) (OS (n+1) (S 1 [] [] bs [])) (SH (n+1)):=by
 have ht:=bI ht
 obtain⟨a1,b1,e1,h1⟩:=C2 ht
 have ht:=D0 ht
 intro d c p0 p1 p2 hd hd2 hc hc2
 have hS:d+1+(SH n:Int)≤40:=by unfold SH at hd2 ⊢;omega
 unfold SH at hd2
 have B:=Aq hl ih a1 b1 e1 (d+1) p0 p1 p2 (by omega) hS bs (i+1) (c+1) [] [] hb ht (by simp;omega) (by omega) (by omega) Rl.nil
 (refine U.eq (fun m=>Q2 m l i d c p0 p1 p2 0) (U.A0 (gN (l:=l) (d:=d) (c:=c) (p0:=p0) (p1:=p1) (p2:=p2) (i:Int) (by omega) hd) ?_);intro _ ds h0;cases h0;refine⟨rfl,U.Xu rfl (U.no rfl (U.A0 (P6 (l:=l) (d:=(d+1)) (c:=c) (p0:=p0) (p1:=p1) (p2:=p2) (i:Int) (by omega) hc) ?_))⟩;intro _ ds h0;cases h0;refine⟨rfl,U.Xu rfl (U.A0 (K8 (d:=(d+1)) (c:=(c+1)) (p0:=p0) (p1:=p1) (p2:=p2) h1) ?_)⟩;intro _ ds h0;cases h0;refine⟨rfl,U.Xu rfl ?_⟩)
 (refine U.A0 (C1 (d:=(d+1)) (c:=(c+1)) (p0:=p0) (p1:=p1) (p2:=p2) h1 rfl) ?_;intro _ ds h0;cases h0;refine⟨rfl,U.Xu rfl (U.no rfl ?_)⟩)
 refine U.A0 (F8 (d:=(d+1)) (c:=(c+1)) (p0:=p0) (p1:=p1) (p2:=p2) hl h1 rfl) ?_
 (intro _ ds h0;cases h0;refine⟨rfl,U.Xu rfl ?_⟩)
 refine U.Xu rfl (U.D4 B (fun ds h=>by obtain⟨_,_,h⟩:=h;cases h) fun ds h=>?_)
 obtain⟨ys,hy,h⟩:=h
 cases h
 refine U.Xu rfl ?_
 (refine U.A0 (cM (l:=l) (d:=d) (c:=(c+1+(sQ (qS n) bs:Int))) (p0:=p0) (p1:=p1) (p2:=p2) _ (by omega) hd) ?_;intro _ ds h0;cases h0;refine⟨rfl,U.Xu rfl ?_⟩)
 refine U.ret ⟨_,⟨1,a1,b1,e1,[],[],bs,[],[],ys,[],rfl,rfl,fL.nil,by omega,by simp,hy,Rl.nil⟩,?_⟩
 rw [show i+((bs.flatMap (wS n)).length+2)=i+1+((bs.flatMap (wS n)).length+1) from by omega,show c+((1+sQ (qS n) bs:Nat):Int)=c+1+(sQ (qS n) bs:Int) from by omega]
 rfl
theorem Wj {e b c0:D}(he:bS 4 e)(hb:qL n b)(hc0:qL n c0)(hop:c0=rC∨kX n b=false){i:Nat}(ht:C4 l i (wS (n+1) (S 4 [] [e] [b,c0] [])))(hN:kX (n+1) (S 4 [] [e] [b,c0] [])=true→Gg l (i+(wS (n+1) (S 4 [] [e] [b,c0] [])).length)) :
  Pq (fun m=>D5 m) l i (wS (n+1) (S 4 [] [e] [b,c0] [])).length (qS (n+1) (S 4 [] [e] [b,c0] [])) (OS (n+1) (S 4 [] [e] [b,c0] [])) (SH (n+1)):=by
 intro d c p0 p1 p2 hd hd2 hc hc2
 have hS:d+1+(SH n:Int)≤40:=by unfold SH at hd2 ⊢;omega
 unfold SH at hd2
 have hn0:n≠0:=by rintro rfl;exact hb.elim
 obtain⟨n',rfl⟩:∃ n',n=n'+1:=⟨n-1,by omega⟩
 have hnull:(c0.at_ 0).i==8→c0=rC:=by
  intro h8
  obtain⟨k,t,es,bs,zs,rfl,_,_,_,hs⟩:=hc0
  have h8:(k==8)=true:=h8
  have h8:=eq_of_beq h8
  subst h8
  rcases hs with ⟨h,_⟩|⟨h|h,_⟩|⟨h,_⟩|⟨h,_⟩|⟨h,_⟩|⟨h,_⟩|⟨_,rfl,rfl,rfl,rfl⟩
  all_goals first|rfl|exact absurd h (by decide)
 have hopen:kX (n'+1+1) (S 4 [] [e] [b,c0] [])=((c0.at_ 0).i==8||kX (n'+1) c0):=by
  obtain⟨k,t,es,bs,zs,rfl,_⟩:=hc0
  rfl
 cases h8:(c0.at_ 0).i==8 with
 |true=>
  have e0:=hnull h8
  subst e0
  have ew:wS (n'+1+1) (S 4 [] [e] [b,rC] [])=[(1,vI)]++(pW e++wS (n'+1) b):=by
   show [(1,vI)]++(pW e++(wS (n'+1) b++[]))=_
   rw [Za]
  have eq:qS (n'+1+1) (S 4 [] [e] [b,rC] [])=1+qS (n'+1) b:=rfl
  have hN:=hN (by rw [hopen,h8];rfl)
  rw [ew] at ht hN
  rw [ew,eq]
  rw [eq] at hc2
  have ht:=bI ht
  obtain⟨a1,b1,e1,h1⟩:=C2 ht
  obtain⟨h2,h3⟩:=C7.1 (D0 ht)
  have el:([(1,vI)]++(pW e++wS (n'+1) b):List Tk).length=1+(pW e).length+(wS (n'+1) b).length:=by simp only [Xx,Xw,Xy];omega
  rw [el] at hN ⊢
  obtain⟨kn,tn,an,bn,en,hn1,hn2⟩:=hN
  have hn1:l[i+1+(pW e).length+(wS (n'+1) b).length]? = some (tk kn tn an bn en):=ND hn1 (by omega)
  have I:=ih b hb _ h3 (fun _=>⟨kn,tn,an,bn,en,hn1,hn2⟩) (d+1) (c+1) p0 p1 p2 (by omega) hS (by omega) (by omega)
  (refine U.eq (fun m=>Q2 m l i d c p0 p1 p2 0) (U.A0 (gN (l:=l) (d:=d) (c:=c) (p0:=p0) (p1:=p1) (p2:=p2) (i:Int) (by omega) hd) ?_);intro _ ds h0;cases h0;refine⟨rfl,U.Xu rfl (U.no rfl (U.A0 (P6 (l:=l) (d:=(d+1)) (c:=c) (p0:=p0) (p1:=p1) (p2:=p2) (i:Int) (by omega) hc) ?_))⟩;intro _ ds h0;cases h0;refine⟨rfl,U.Xu rfl (U.A0 (K8 (d:=(d+1)) (c:=(c+1)) (p0:=p0) (p1:=p1) (p2:=p2) h1) ?_)⟩;intro _ ds h0;cases h0;refine⟨rfl,U.Xu rfl ?_⟩)
  (refine U.A0 (C1 (d:=(d+1)) (c:=(c+1)) (p0:=p0) (p1:=p1) (p2:=p2) h1 rfl) ?_;intro _ ds h0;cases h0;refine⟨rfl,U.Xu rfl (U.no rfl ?_)⟩)
  (refine U.A0 (C1 (d:=(d+1)) (c:=(c+1)) (p0:=p0) (p1:=p1) (p2:=p2) h1 rfl) ?_;intro _ ds h0;cases h0;refine⟨rfl,U.Xu rfl (U.no rfl ?_)⟩)
  refine U.A0 (F8 (d:=(d+1)) (c:=(c+1)) (p0:=p0) (p1:=p1) (p2:=p2) hl h1 rfl) ?_
  (intro _ ds h0;cases h0;refine⟨rfl,U.Xu rfl ?_⟩)
  refine U.Xu rfl (U.A0 (sF hl he h2 (d+1) (c+1) p0 p1 p2 (by omega) (by omega)) ?_)
  rintro _ ds ⟨x,hx,h0⟩;cases h0
  have hx0:=hx
  obtain⟨k4,t4,r4,a4,b4,e4,s4,_,rfl⟩:=Y7 hx
  refine⟨rfl,U.Xu rfl (U.A0 I ?_)⟩
  rintro _ ds ⟨y,hy,h0⟩;cases h0
  have hy0:=hy
  obtain⟨k5,i5,j5,l5,t5,es5,bs5,zs5,es6,bs6,zs6,_,rfl⟩:=oS hy
  refine⟨rfl,U.Xu rfl (U.A0 (C1 (d:=(d+1)) (c:=(c+1+(qS (n'+1) b:Int))) (p0:=p0) (p1:=p1) (p2:=p2) hn1 (LR hn2)) ?_)⟩
  (intro _ ds h0;cases h0;refine⟨rfl,U.Xu rfl ?_⟩)
  refine U.no rfl ?_
  (refine U.A0 (cM (l:=l) (d:=d) (c:=(c+1+(qS (n'+1) b:Int))) (p0:=p0) (p1:=p1) (p2:=p2) _ (by omega) hd) ?_;intro _ ds h0;cases h0;refine⟨rfl,U.Xu rfl ?_⟩)
  have hO:OS (n'+1) rC (AT 8 0 0 0 [] [] [] []):=⟨8,0,0,0,[],[],[],[],[],[],[],rfl,rfl,fL.nil,by simp,by simp,Rl.nil,Rl.nil⟩
  refine U.ret ⟨_,⟨4,a1,b1,e1,[],[e],[b,rC],[],[PE k4 a4 b4 e4 t4 s4],[AT k5 i5 j5 l5 t5 es6 bs6 zs6,AT 8 0 0 0 [] [] [] []],[],rfl,rfl,fL.one he hx0,by simp,by simp,(Rl.one hy0).snoc hO,Rl.nil⟩,?_⟩
  rw [show i+(1+(pW e).length+(wS (n'+1) b).length)=i+1+(pW e).length+(wS (n'+1) b).length from by omega,show c+((1+qS (n'+1) b:Nat):Int)=c+1+(qS (n'+1) b:Int) from by omega]
  rfl
 |false=>
  have ho:kX (n'+1) b=false:=by
   rcases hop with h|h
   ·subst h;exact absurd h8 (by decide)
   ·exact h
  have ew:wS (n'+1+1) (S 4 [] [e] [b,c0] [])=[(1,vI)]++(pW e++(wS (n'+1) b++([(1,cT)]++wS (n'+1) c0))):=by
   show [(1,vI)]++(pW e++(wS (n'+1) b++(bif (c0.at_ 0).i==8 then [] else [(1,cT)]++wS (n'+1) c0)))=_
   rw [h8];rfl
  have eq:qS (n'+1+1) (S 4 [] [e] [b,c0] [])=1+(qS (n'+1) b+qS (n'+1) c0):=by
   show 1+(qS (n'+1) b+(bif (c0.at_ 0).i==8 then 0 else qS (n'+1) c0))=_
   rw [h8];rfl
  rw [ew] at ht hN
  rw [ew,eq]
  rw [eq] at hc2
  have ht:=bI ht
  obtain⟨a1,b1,e1,h1⟩:=C2 ht
  obtain⟨h2,h3⟩:=C7.1 (D0 ht)
  obtain⟨h3,h4⟩:=C7.1 h3
  have h4:=bI h4
  obtain⟨a5,b5,e5,h5⟩:=C2 h4
  have h6:=D0 h4
  have el:([(1,vI)]++(pW e++(wS (n'+1) b++([(1,cT)]++wS (n'+1) c0))):List Tk).length=1+(pW e).length+(wS (n'+1) b).length+1+(wS (n'+1) c0).length:=by simp only [Xx,Xw,Xy];omega
  rw [el] at hN ⊢
  have I:=ih b hb _ h3 (fun h=>by rw [ho] at h;cases h) (d+1) (c+1) p0 p1 p2 (by omega) hS (by omega) (by omega)
  have I2:=ih c0 hc0 _ h6 (fun h=>by
   obtain⟨kn,tn,an,bn,en,hn1,hn2⟩:=hN (by rw [hopen,h,Bool.or_true])
   exact⟨kn,tn,an,bn,en,ND hn1 (by omega),hn2⟩) (d+1) (c+1+(qS (n'+1) b:Int)) p0 p1 p2 (by omega) hS (by omega) (by omega)
  (refine U.eq (fun m=>Q2 m l i d c p0 p1 p2 0) (U.A0 (gN (l:=l) (d:=d) (c:=c) (p0:=p0) (p1:=p1) (p2:=p2) (i:Int) (by omega) hd) ?_);intro _ ds h0;cases h0;refine⟨rfl,U.Xu rfl (U.no rfl (U.A0 (P6 (l:=l) (d:=(d+1)) (c:=c) (p0:=p0) (p1:=p1) (p2:=p2) (i:Int) (by omega) hc) ?_))⟩;intro _ ds h0;cases h0;refine⟨rfl,U.Xu rfl (U.A0 (K8 (d:=(d+1)) (c:=(c+1)) (p0:=p0) (p1:=p1) (p2:=p2) h1) ?_)⟩;intro _ ds h0;cases h0;refine⟨rfl,U.Xu rfl ?_⟩)
  (refine U.A0 (C1 (d:=(d+1)) (c:=(c+1)) (p0:=p0) (p1:=p1) (p2:=p2) h1 rfl) ?_;intro _ ds h0;cases h0;refine⟨rfl,U.Xu rfl (U.no rfl ?_)⟩)
  (refine U.A0 (C1 (d:=(d+1)) (c:=(c+1)) (p0:=p0) (p1:=p1) (p2:=p2) h1 rfl) ?_;intro _ ds h0;cases h0;refine⟨rfl,U.Xu rfl (U.no rfl ?_)⟩)
  refine U.A0 (F8 (d:=(d+1)) (c:=(c+1)) (p0:=p0) (p1:=p1) (p2:=p2) hl h1 rfl) ?_
  (intro _ ds h0;cases h0;refine⟨rfl,U.Xu rfl ?_⟩)
  refine U.Xu rfl (U.A0 (sF hl he h2 (d+1) (c+1) p0 p1 p2 (by omega) (by omega)) ?_)
  rintro _ ds ⟨x,hx,h0⟩;cases h0
  have hx0:=hx
  obtain⟨k4,t4,r4,a4,b4,e4,s4,_,rfl⟩:=Y7 hx
  refine⟨rfl,U.Xu rfl (U.A0 I ?_)⟩
  rintro _ ds ⟨y,hy,h0⟩;cases h0
  have hy0:=hy
  obtain⟨k5,i5,j5,l5,t5,es5,bs5,zs5,es6,bs6,zs6,_,rfl⟩:=oS hy
  refine⟨rfl,U.Xu rfl (U.A0 (F8 (d:=(d+1)) (c:=(c+1+(qS (n'+1) b:Int))) (p0:=p0) (p1:=p1) (p2:=p2) hl h5 rfl) ?_)⟩
  (intro _ ds h0;cases h0;refine⟨rfl,U.Xu rfl ?_⟩)
  refine U.Xu rfl (U.A0 I2 ?_)
  rintro _ ds ⟨z,hz,h0⟩;cases h0
  have hz0:=hz
  obtain⟨k7,i7,j7,l7,t7,es7,bs7,zs7,es8,bs8,zs8,_,rfl⟩:=oS hz
  refine⟨rfl,U.Xu rfl ?_⟩
  (refine U.A0 (cM (l:=l) (d:=d) (c:=(c+1+(qS (n'+1) b:Int)+(qS (n'+1) c0:Int))) (p0:=p0) (p1:=p1) (p2:=p2) _ (by omega) hd) ?_;intro _ ds h0;cases h0;refine⟨rfl,U.Xu rfl ?_⟩)
  refine U.ret ⟨_,⟨4,a1,b1,e1,[],[e],[b,c0],[],[PE k4 a4 b4 e4 t4 s4],[AT k5 i5 j5 l5 t5 es6 bs6 zs6,AT k7 i7 j7 l7 t7 es8 bs8 zs8],[],rfl,rfl,fL.one he hx0,by simp,by simp,(Rl.one hy0).snoc hz0,Rl.nil⟩,?_⟩
  rw [show i+(1+(pW e).length+(wS (n'+1) b).length+1+(wS (n'+1) c0).length)=i+1+(pW e).length+(wS (n'+1) b).length+1+(wS (n'+1) c0).length from by omega,show c+((1+(qS (n'+1) b+qS (n'+1) c0):Nat):Int)=c+1+(qS (n'+1) b:Int)+(qS (n'+1) c0:Int) from by omega]
  rfl
theorem Uc {es:List D}{b:D}(h3:es.length=3)(he:∀ e∈es,bS 4 e)(hb:qL n b){i:Nat}(ht:C4 l i (Z9 [105] es++wS n b))(hN:kX n b=true→Gg l (i+((Z9 [105] es).length+(wS n b).length))) :
  Pq (fun m=>D5 m) l i ((Z9 [105] es).length+(wS n b).length) (1+qS n b) (OS (n+1) (S 6 [105] es [b] [])) (SH (n+1)):=by
 intro d c p0 p1 p2 hd hd2 hc hc2
 have hS:d+1+(SH n:Int)≤40:=by unfold SH at hd2 ⊢;omega
 unfold SH at hd2
 obtain⟨h2,hB⟩:=C7.1 ht
 obtain⟨a1,b1,e1,h1⟩:∃ a b e,l[i]? = some (tk 1 uZ a b e):=by
  match es,h3,h2 with
  |[x,y,z],_,h2=>exact C2 (show C4 l i ((1,uZ)::_) from h2)
 have L:=Bk hl (t:=[105]) (by kernel_rfl) h3 he h2 (d+1) (c+1) p0 p1 p2 (by omega) (by omega)
 have I:=ih b hb _ hB (fun h=>by
  obtain⟨kn,tn,an,bn,en,hn1,hn2⟩:=hN h
  exact⟨kn,tn,an,bn,en,ND hn1 (by omega),hn2⟩) (d+1) (c+1) p0 p1 p2 (by omega) hS (by omega) (by omega)
 (refine U.eq (fun m=>Q2 m l i d c p0 p1 p2 0) (U.A0 (gN (l:=l) (d:=d) (c:=c) (p0:=p0) (p1:=p1) (p2:=p2) (i:Int) (by omega) hd) ?_);intro _ ds h0;cases h0;refine⟨rfl,U.Xu rfl (U.no rfl (U.A0 (P6 (l:=l) (d:=(d+1)) (c:=c) (p0:=p0) (p1:=p1) (p2:=p2) (i:Int) (by omega) hc) ?_))⟩;intro _ ds h0;cases h0;refine⟨rfl,U.Xu rfl (U.A0 (K8 (d:=(d+1)) (c:=(c+1)) (p0:=p0) (p1:=p1) (p2:=p2) h1) ?_)⟩;intro _ ds h0;cases h0;refine⟨rfl,U.Xu rfl ?_⟩)
 (refine U.A0 (C1 (d:=(d+1)) (c:=(c+1)) (p0:=p0) (p1:=p1) (p2:=p2) h1 rfl) ?_;intro _ ds h0;cases h0;refine⟨rfl,U.Xu rfl (U.no rfl ?_)⟩)
 (refine U.A0 (C1 (d:=(d+1)) (c:=(c+1)) (p0:=p0) (p1:=p1) (p2:=p2) h1 rfl) ?_;intro _ ds h0;cases h0;refine⟨rfl,U.Xu rfl (U.no rfl ?_)⟩)
 (refine U.A0 (C1 (d:=(d+1)) (c:=(c+1)) (p0:=p0) (p1:=p1) (p2:=p2) h1 rfl) ?_;intro _ ds h0;cases h0;refine⟨rfl,U.Xu rfl (U.no rfl ?_)⟩)
 refine U.A0 (C1 (d:=(d+1)) (c:=(c+1)) (p0:=p0) (p1:=p1) (p2:=p2) h1 rfl) ?_
 intro _ ds h0;cases h0
 refine⟨rfl,U.Xu rfl (U.D4 (Q:=fun r=>∃ ys y,fL es ys∧OS n b y∧r=(false,[.bool false,.Z 5 l,.int .i64 ((i+(Z9 [105] es).length+(wS n b).length:Nat):Int),.int .i64 (d+1),.int .i64 (c+1+(qS n b:Int)),.int .i64 p0,.int .i64 p1,.int .i64 p2,.int .i64 0,.int .i64 0,.int .i64 0,.int .i64 0,.int .i64 0,.str [],.int .i64 6,.int .i64 a1,.int .i64 b1,.int .i64 e1,.str [105],.Z 6 [],.Z 8 [],.Z 9 [],.Z 6 ys,.Z 8 [y],.Z 9 []])) ?_ (fun ds h=>by obtain⟨_,_,_,_,h⟩:=h;cases h) fun ds h=>?_)⟩
 ·refine U.eq (fun m=>Y5 m _ _ _ _ _ _ _ _ _ _ _ _ _ _ _ _ _ _ _ _ _ _ _ _ _) (U.no rfl (U.A0 (F8 (d:=(d+1)) (c:=(c+1)) (p0:=p0) (p1:=p1) (p2:=p2) hl h1 rfl) ?_))
  (intro _ ds h0;cases h0;refine⟨rfl,U.Xu rfl ?_⟩)
  refine U.Xu rfl (U.A0 L ?_)
  rintro _ ds ⟨ys,hys,h0⟩;cases h0
  refine⟨rfl,U.Xu rfl (U.A0 I ?_)⟩
  rintro _ ds ⟨y,hy,h0⟩;cases h0
  have hy0:=hy
  obtain⟨k5,i5,j5,l5,t5,es5,bs5,zs5,es6,bs6,zs6,_,rfl⟩:=oS hy
  exact⟨rfl,U.Xu rfl (U.ret ⟨ys,_,hys,hy0,rfl⟩)⟩
 ·obtain⟨ys,y,hys,hy,h⟩:=h
  cases h
  refine U.Xu rfl ?_
  (refine U.A0 (cM (l:=l) (d:=d) (c:=(c+1+(qS n b:Int))) (p0:=p0) (p1:=p1) (p2:=p2) _ (by omega) hd) ?_;intro _ ds h0;cases h0;refine⟨rfl,U.Xu rfl ?_⟩)
  refine U.ret ⟨_,⟨6,a1,b1,e1,[105],es,[b],[],ys,[y],[],rfl,rfl,hys,by simp,by simp,Rl.one hy,Rl.nil⟩,?_⟩
  rw [show i+((Z9 [105] es).length+(wS n b).length)=i+(Z9 [105] es).length+(wS n b).length from by omega,show c+((1+qS n b:Nat):Int)=c+1+(qS n b:Int) from by omega]
  rfl
omit hl ih in
theorem Kr {n:Nat}{x:D}(h:qL n x):∃ k t fs bs zs,x=S k t fs bs zs:=by
 cases n with
 |zero=>exact h.elim
 |succ n=>obtain⟨k,t,fs,bs,zs,e,_⟩:=h;exact⟨k,t,fs,bs,zs,e⟩
theorem Gw (k1 k2 k3 d p0 p1 p2:Int)(hd:0≤d)(hd2:d+SH n≤40)(hd3:d≤32)(e':D):∀ (zs:List D) (i:Nat) (c:Int) (acc xs:List D),(∀ z∈zs,Tc n z)→C4 l i (zs.flatMap (fS (wS n))++[(1,bZ)])→zs.length+acc.length≤100→1≤zs.length+acc.length→0≤c→c+sQ (fun a=>qS n (EP a)) zs≤4000→Rl (OA (OS n)) xs acc→
  U (fun m=>O8 m (.Z 5 l) (i:Int) d c p0 p1 p2 (0:Int) (5:Int) k1 k2 k3 (.str []) (.Z 6 [e']) (.Z 8 []) (.Z 9 acc)) fun r=>
   ∃ ys,Rl (OA (OS n)) (xs++zs) ys∧r=(false,[.Z 5 l,.int .i64 ((i+(zs.flatMap (fS (wS n))).length:Nat):Int),.int .i64 d,.int .i64 (c+(sQ (fun a=>qS n (EP a)) zs:Nat)),.int .i64 p0,.int .i64 p1,.int .i64 p2,.int .i64 0,.int .i64 5,.int .i64 k1,.int .i64 k2,.int .i64 k3,.str [],.Z 6 [e'],.Z 8 [],.Z 9 ys])
 |[],i,c,acc,xs,_,ht,_,h1,hc,hq,hr=>by
  obtain⟨a,b,e,h2⟩:=C2 (show C4 l i [(1,bZ)] from ht)
  refine U.eq (fun m=>jZ m _ _ _ _ _ _ _ _ _ _ _ _ _ _ _ _) (U.Xu rfl (U.no (Zn.2 (by simp only [Xy] at h1;omega)) (U.A0 (dF (d:=d) (c:=c) (p0:=p0) (p1:=p1) (p2:=p2) bZ h2) ?_)))
  (intro _ ds h0;cases h0;refine⟨rfl,U.Xu rfl ?_⟩)
  refine G4 (fun m=>Q7.eq_1 m _ _ _ _ _ _ _ _ _ _ _ _ _ _ _ _ _) (U.no rfl (U.ret ⟨acc,by rw [Za];exact hr,?_⟩))
  show (_:Bool×List D)=(false,[.Z 5 l,.int .i64 ((i+0:Nat):Int),.int .i64 d,.int .i64 (c+((0:Nat):Int)),.int .i64 p0,.int .i64 p1,.int .i64 p2,.int .i64 0,_,_,_,_,_,_,_,_])
  rw [show c+((0:Nat):Int)=c from by omega]
  rfl
 |z::zs,i,c,acc,xs,hz,ht,hn,h1,hc,hq,hr=>by
  have hq:c+((qS n (EP z)+sQ (fun a=>qS n (EP a)) zs:Nat):Int)≤4000:=hq
  rw [Ze,Yl] at ht
  obtain⟨hT,h2⟩:=C7.1 ht
  obtain⟨es,s0,ez,hle,he,hs⟩:=hz z (Yi ..)
  have hs0:=hs
  obtain⟨k,t,fs,bs,zs0,rfl⟩:=Kr hs
  subst ez
  have hq:c+((qS n (S k t fs bs zs0)+sQ (fun a=>qS n (EP a)) zs:Nat):Int)≤4000:=hq
  have eA:fS (wS n) (arm es (S k t fs bs zs0))=(bif es.isEmpty then [(1,wJ)] else [])++(lW (wE 4) es++([(3,[58])]++wS n (S k t fs bs zs0))):=rfl
  rw [eA] at hT
  have eLen:(fS (wS n) (arm es (S k t fs bs zs0))).length=(bif es.isEmpty then 1 else 0)+(lW (wE 4) es).length+1+(wS n (S k t fs bs zs0)).length:=by
   rw [eA]
   cases es.isEmpty<;>simp only [cond_true,cond_false,Xx,Xw,Xy]<;>omega
  rw [eLen] at h2
  have hNel:Gg l (i+((bif es.isEmpty then 1 else 0)+(lW (wE 4) es).length+1+(wS n (S k t fs bs zs0)).length)):=by
   cases zs with
   |nil=>
    obtain⟨a,b,e,h3⟩:=C2 (show C4 l _ [(1,bZ)] from h2)
    exact⟨1,bZ,a,b,e,h3,rfl⟩
   |cons z2 zs=>
    rw [Ze,Yl] at h2
    obtain⟨k,t,a,b,e,g1,g2,_⟩:=Ao (hz z2 (by simp)) (C7.1 h2).1
    exact⟨k,t,a,b,e,g1,g2⟩
  have J2:∀ (j:Nat) (es':List D),fL es es'→C4 l j ([(3,[58])]++wS n (S k t fs bs zs0))→i+((bif es.isEmpty then 1 else 0)+(lW (wE 4) es).length)=j→
    U (fun m=>bK m l (j:Int) d c p0 p1 p2 0 es' acc 5 k1 k2 k3 [] [e'] []) fun r=>∃ ys,Rl (OA (OS n)) (xs++arm es (S k t fs bs zs0)::zs) ys∧r=(false,[.Z 5 l,.int .i64 ((i+((arm es (S k t fs bs zs0)::zs).flatMap (fS (wS n))).length:Nat):Int),.int .i64 d,.int .i64 (c+(sQ (fun a=>qS n (EP a)) (arm es (S k t fs bs zs0)::zs):Nat)),.int .i64 p0,.int .i64 p1,.int .i64 p2,.int .i64 0,.int .i64 5,.int .i64 k1,.int .i64 k2,.int .i64 k3,.str [],.Z 6 [e'],.Z 8 [],.Z 9 ys]):=by
   intro j es' hE hj ej
   have hj:=bI hj
   obtain⟨a3,b3,e3,h3⟩:=C2 hj
   have I:=ih _ hs0 (j+1) (D0 hj) (fun _=>by rw [show j+1+(wS n (S k t fs bs zs0)).length=i+((bif es.isEmpty then 1 else 0)+(lW (wE 4) es).length+1+(wS n (S k t fs bs zs0)).length) from by omega];exact hNel) d c p0 p1 p2 hd hd2 hc (by omega)
   refine G4 (fun m=>bK.eq_1 m _ _ _ _ _ _ _ _ _ _ _ _ _ _ _ _ _) (U.A0 (G6 (d:=d) (c:=c) (p0:=p0) (p1:=p1) (p2:=p2) hl [[58]] (by decide) (H8 h3 rfl)) ?_)
   (intro _ ds h0;cases h0;refine⟨rfl,U.Xu rfl ?_⟩)
   refine U.A0 I ?_
   rintro _ ds ⟨y,hy,h0⟩;cases h0
   have hy0:=hy
   obtain⟨k5,i5,j5,l5,t5,es5,bs5,zs5,es6,bs6,zs6,e5,rfl⟩:=oS hy
   cases e5
   simp only [Xw] at hn
   refine⟨rfl,U.Xu rfl (U.Xu (Yc (by simp only [D8];omega)) (U.Xu (by rw [Zi (by omega),Zi (by rw [Xx,Yu];omega)];rfl) ?_))⟩
   rw [XE]
   have hA:OA (OS n) (arm es (S k t fs bs zs0)) (AA es' k i5 j5 l5 t es6 bs6 zs6):=⟨es,es',k,i5,j5,l5,t,fs,bs,zs0,es6,bs6,zs6,rfl,rfl,hE,hy0⟩
   have K:=Gw k1 k2 k3 d p0 p1 p2 hd hd2 hd3 e' zs (j+1+(wS n (S k t fs bs zs0)).length) (c+(qS n (S k t fs bs zs0):Int)) (acc++[AA es' k i5 j5 l5 t es6 bs6 zs6]) (xs++[arm es (S k t fs bs zs0)]) (fun x hx=>hz x (Yk _ hx)) (Li h2 (by omega)) (by rw [Xx,Yu];omega) (by rw [Xx,Yu];omega) (by omega) (by omega) (hr.snoc hA)
   refine K.mono fun r ⟨ys,g1,g2⟩=>⟨ys,by rw [Yl] at g1;exact g1,?_⟩
   rw [g2,Ze,Xx,eLen,show j+1+(wS n (S k t fs bs zs0)).length+(zs.flatMap (fS (wS n))).length=i+((bif es.isEmpty then 1 else 0)+(lW (wE 4) es).length+1+(wS n (S k t fs bs zs0)).length+(zs.flatMap (fS (wS n))).length) from by omega]
   show (_:Bool×List D)=(false,[.Z 5 l,.int .i64 ((i+((bif es.isEmpty then 1 else 0)+(lW (wE 4) es).length+1+(wS n (S k t fs bs zs0)).length+(zs.flatMap (fS (wS n))).length):Nat):Int),.int .i64 d,.int .i64 (c+((qS n (S k t fs bs zs0)+sQ (fun a=>qS n (EP a)) zs:Nat):Int)),.int .i64 p0,.int .i64 p1,.int .i64 p2,.int .i64 0,_,_,_,_,_,_,_,_])
   rw [show c+(qS n (S k t fs bs zs0):Int)+(sQ (fun a=>qS n (EP a)) zs:Int)=c+((qS n (S k t fs bs zs0)+sQ (fun a=>qS n (EP a)) zs:Nat):Int) from by omega]
  have J1:U (fun m=>Q7 m true l (i:Int) d c p0 p1 p2 0 acc 5 k1 k2 k3 [] [e'] []) fun r=>∃ ys,Rl (OA (OS n)) (xs++arm es (S k t fs bs zs0)::zs) ys∧r=(false,[.Z 5 l,.int .i64 ((i+((arm es (S k t fs bs zs0)::zs).flatMap (fS (wS n))).length:Nat):Int),.int .i64 d,.int .i64 (c+(sQ (fun a=>qS n (EP a)) (arm es (S k t fs bs zs0)::zs):Nat)),.int .i64 p0,.int .i64 p1,.int .i64 p2,.int .i64 0,.int .i64 5,.int .i64 k1,.int .i64 k2,.int .i64 k3,.str [],.Z 6 [e'],.Z 8 [],.Z 9 ys]):=by
   refine G4 (fun m=>Q7.eq_1 m _ _ _ _ _ _ _ _ _ _ _ _ _ _ _ _ _) (U.Xu rfl ?_)
   cases hes:es with
   |nil=>
    rw [hes] at hT
    obtain⟨a3,b3,e3,h3⟩:=C2 (show C4 l i ((1,wJ)::([(3,[58])]++wS n (S k t fs bs zs0))) from hT)
    refine U.A0 (F8 (d:=d) (c:=c) (p0:=p0) (p1:=p1) (p2:=p2) hl h3 rfl) ?_
    (intro _ ds h0;cases h0;refine⟨rfl,U.Xu rfl ?_⟩)
    refine U.no rfl ?_
    have J:=J2 (i+1) [] (by rw [hes];exact fL.nil) (D0 (show C4 l i ((1,wJ)::([(3,[58])]++wS n (S k t fs bs zs0))) from hT)) (by rw [hes];rfl)
    rw [hes] at J
    exact J
   |cons e0 er=>
    rw [← hes]
    have hne:es.isEmpty=false:=by rw [hes];rfl
    rw [hne] at hT
    obtain⟨h3,h4⟩:=C7.1 (show C4 l i (lW (wE 4) es++([(3,[58])]++wS n (S k t fs bs zs0))) from hT)
    obtain⟨a4,b4,e4,g4⟩:=C2 h4
    obtain⟨kk,t3,a3,b3,e3,g3,g5,_⟩:=VY (xs:=es) (by rw [hes];simp) he h3
    have X:=Qq hl (by rw [hes];simp) (by omega) he h3 g4 rfl rfl d c p0 p1 p2 hd hd3
    refine U.A0 (C1 (d:=d) (c:=c) (p0:=p0) (p1:=p1) (p2:=p2) g3 g5) ?_
    (intro _ ds h0;cases h0;refine⟨rfl,U.Xu rfl ?_⟩)
    refine U.Xu rfl (U.A0 X ?_)
    rintro _ ds ⟨es',hE,h0⟩;cases h0
    exact⟨rfl,U.Xu rfl (J2 _ es' hE h4 (by rw [hne];simp))⟩
  refine U.eq (fun m=>jZ m _ _ _ _ _ _ _ _ _ _ _ _ _ _ _ _) (U.Xu rfl (U.Xv (fun _=>J1) fun _=>?_))
  obtain⟨kk,t3,a3,b3,e3,g3,_,g5⟩:=Ao (n:=n) ⟨es,_,rfl,hle,he,hs0⟩ (show C4 l i (fS (wS n) (arm es (S k t fs bs zs0))) from hT)
  refine U.A0 (dF (d:=d) (c:=c) (p0:=p0) (p1:=p1) (p2:=p2) bZ g3) ?_
  (intro _ ds h0;cases h0;refine⟨rfl,U.Xu rfl ?_⟩)
  show U (fun m=>Q7 m (!(t3==bZ&&kk !=2)) l (i:Int) d c p0 p1 p2 0 acc 5 k1 k2 k3 [] [e'] []) _
  rw [g5]
  exact J1
theorem Qj {e:D}{zs:List D}(he:bS 4 e)(hz:∀ z∈zs,Tc n z)(h1z:1≤zs.length)(h2z:zs.length≤4){i:Nat}(ht:C4 l i ([(1,oO)]++(pW e++(zs.flatMap (fS (wS n))++[(1,bZ)])))) :
  Pq (fun m=>D5 m) l i (1+(pW e).length+(zs.flatMap (fS (wS n))).length+1) (1+sQ (fun a=>qS n (EP a)) zs) (OS (n+1) (S 5 [] [e] [] zs)) (SH (n+1)):=by
 intro d c p0 p1 p2 hd hd2 hc hc2
 have hS:d+1+(SH n:Int)≤40:=by unfold SH at hd2 ⊢;omega
 unfold SH at hd2
 have ht:=bI ht
 obtain⟨a1,b1,e1,h1⟩:=C2 ht
 obtain⟨h2,hA⟩:=C7.1 (D0 ht)
 obtain⟨_,h9⟩:=C7.1 hA
 obtain⟨a9,b9,e9,h9⟩:=C2 h9
 (refine U.eq (fun m=>Q2 m l i d c p0 p1 p2 0) (U.A0 (gN (l:=l) (d:=d) (c:=c) (p0:=p0) (p1:=p1) (p2:=p2) (i:Int) (by omega) hd) ?_);intro _ ds h0;cases h0;refine⟨rfl,U.Xu rfl (U.no rfl (U.A0 (P6 (l:=l) (d:=(d+1)) (c:=c) (p0:=p0) (p1:=p1) (p2:=p2) (i:Int) (by omega) hc) ?_))⟩;intro _ ds h0;cases h0;refine⟨rfl,U.Xu rfl (U.A0 (K8 (d:=(d+1)) (c:=(c+1)) (p0:=p0) (p1:=p1) (p2:=p2) h1) ?_)⟩;intro _ ds h0;cases h0;refine⟨rfl,U.Xu rfl ?_⟩)
 (refine U.A0 (C1 (d:=(d+1)) (c:=(c+1)) (p0:=p0) (p1:=p1) (p2:=p2) h1 rfl) ?_;intro _ ds h0;cases h0;refine⟨rfl,U.Xu rfl (U.no rfl ?_)⟩)
 (refine U.A0 (C1 (d:=(d+1)) (c:=(c+1)) (p0:=p0) (p1:=p1) (p2:=p2) h1 rfl) ?_;intro _ ds h0;cases h0;refine⟨rfl,U.Xu rfl (U.no rfl ?_)⟩)
 (refine U.A0 (C1 (d:=(d+1)) (c:=(c+1)) (p0:=p0) (p1:=p1) (p2:=p2) h1 rfl) ?_;intro _ ds h0;cases h0;refine⟨rfl,U.Xu rfl (U.no rfl ?_)⟩)
 refine U.A0 (F8 (d:=(d+1)) (c:=(c+1)) (p0:=p0) (p1:=p1) (p2:=p2) hl h1 rfl) ?_
 intro _ ds h0;cases h0
 refine⟨rfl,U.Xu rfl (U.D4 (Q:=fun r=>∃ y ys,OE 4 e y∧Rl (OA (OS n)) zs ys∧r=(false,[.bool true,.Z 5 l,.int .i64 ((i+1+(pW e).length+(zs.flatMap (fS (wS n))).length+1:Nat):Int),.int .i64 (d+1),.int .i64 (c+1+(sQ (fun a=>qS n (EP a)) zs:Int)),.int .i64 p0,.int .i64 p1,.int .i64 p2,.int .i64 0,.int .i64 0,.int .i64 0,.int .i64 0,.int .i64 0,.str [],.int .i64 5,.int .i64 a1,.int .i64 b1,.int .i64 e1,.str [],.Z 6 [],.Z 8 [],.Z 9 [],.Z 6 [y],.Z 8 [],.Z 9 ys])) ?_ (fun ds h=>by obtain⟨_,_,_,_,h⟩:=h;cases h) fun ds h=>?_)⟩
 ·refine U.eq (fun m=>Y5 m _ _ _ _ _ _ _ _ _ _ _ _ _ _ _ _ _ _ _ _ _ _ _ _ _) (U.Xu rfl (U.A0 (Q:=fun r=>∃ y ys,OE 4 e y∧Rl (OA (OS n)) zs ys∧r=(true,[.Z 5 l,.int .i64 ((i+1+(pW e).length+(zs.flatMap (fS (wS n))).length+1:Nat):Int),.int .i64 (d+1),.int .i64 (c+1+(sQ (fun a=>qS n (EP a)) zs:Int)),.int .i64 p0,.int .i64 p1,.int .i64 p2,.int .i64 0,.int .i64 5,.int .i64 a1,.int .i64 b1,.int .i64 e1,.str [],.Z 6 [y],.Z 8 [],.Z 9 ys])) ?_ ?_))
  ·refine U.eq (fun m=>vB m l _ _ _ _ _ _ _ _ _ _ _ _ _ _ _) (U.A0 (sF hl he h2 (d+1) (c+1) p0 p1 p2 (by omega) (by omega)) ?_)
   rintro _ ds ⟨x,hx,h0⟩;cases h0
   have hx0:=hx
   obtain⟨k4,t4,r4,a4,b4,e4,s4,_,rfl⟩:=Y7 hx
   have B:=Gw hl ih a1 b1 e1 (d+1) p0 p1 p2 (by omega) hS (by omega) (PE k4 a4 b4 e4 t4 s4) zs (i+1+(pW e).length) (c+1) [] [] hz hA (by simp;omega) (by simp;omega) (by omega) (by omega) Rl.nil
   refine⟨rfl,U.Xu rfl (U.D4 B (fun ds h=>by obtain⟨_,_,h⟩:=h;cases h) fun ds h=>?_)⟩
   obtain⟨ys,hy,h⟩:=h
   cases h
   refine U.Xu rfl (U.A0 (G6 (d:=(d+1)) (c:=(c+1+(sQ (fun a=>qS n (EP a)) zs:Int))) (p0:=p0) (p1:=p1) (p2:=p2) hl [bZ] (by decide) (H8 h9 rfl)) ?_)
   (intro _ ds h0;cases h0;refine⟨rfl,U.Xu rfl ?_⟩)
   exact U.ret ⟨_,ys,hx0,hy,rfl⟩
  ·rintro _ ds ⟨y,ys,hy,hys,h0⟩;cases h0
   exact⟨rfl,U.Xu rfl (U.ret ⟨y,ys,hy,hys,rfl⟩)⟩
 ·obtain⟨y,ys,hy,hys,h⟩:=h
  cases h
  refine U.Xu rfl ?_
  (refine U.A0 (cM (l:=l) (d:=d) (c:=(c+1+(sQ (fun a=>qS n (EP a)) zs:Int))) (p0:=p0) (p1:=p1) (p2:=p2) _ (by omega) hd) ?_;intro _ ds h0;cases h0;refine⟨rfl,U.Xu rfl ?_⟩)
  refine U.ret ⟨_,⟨5,a1,b1,e1,[],[e],[],zs,[y],[],ys,rfl,rfl,fL.one he hy,by simp,by omega,Rl.nil,hys⟩,?_⟩
  rw [show i+(1+(pW e).length+(zs.flatMap (fS (wS n))).length+1)=i+1+(pW e).length+(zs.flatMap (fS (wS n))).length+1 from by omega,show c+((1+sQ (fun a=>qS n (EP a)) zs:Nat):Int)=c+1+(sQ (fun a=>qS n (EP a)) zs:Int) from by omega]
  rfl
end
theorem Pq.cast {F:PW}{l:List D}{i m q m' q':Nat}{R:D→Prop}{h:Nat}(H:Pq F l i m q R h)(e:m=m')(e':q=q'):Pq F l i m' q' R h:=e▸e'▸H
theorem Vz {l:List D}(hl:l.length≤1000000):∀ n,Wg l n
 |0=>fun _ h=>h.elim
 |n+1=>by
  have ih:=Vz hl n
  rintro x ⟨k,t,es,bs,zs,rfl,he,hb,hz,hs⟩ i ht hN
  rcases hs with ⟨rfl,rfl,rfl,hn,rfl⟩|⟨hk,rfl,⟨x,e,rfl,hx⟩,rfl,rfl⟩|⟨rfl,rfl,hn,⟨b,c,rfl,hop⟩,rfl⟩|⟨rfl,rfl,hn,rfl,hz1,hz2⟩|⟨rfl,rfl,hn,hl2,rfl⟩|⟨rfl,ht',hn,rfl,rfl⟩|⟨rfl,rfl,rfl,rfl,rfl⟩
  ·exact (Tv hl ih hn hb (show C4 l i ([(1,Q6)]++(bs.flatMap (wS n)++[(1,dD)])) from ht)).cast (by show _=([(1,Q6)]++(bs.flatMap (wS n)++[(1,dD)]):List Tk).length;simp only [Xx,Xw,Xy];omega) rfl
  ·have h2:=he e (by simp)
   have eW:wS (n+1) (S k [] [x,e] [] [])=wE 4 x++([(3,bif k==2 then [61] else [60,61])]++(wE 4 e++[(3,[59])])):=by rcases hk with rfl|rfl<;>rfl
   rw [eW] at ht ⊢
   exact (Kb hl hk hx h2 ht).cast (by simp only [Xx,Xw,Xy];omega) (by rcases hk with rfl|rfl<;>rfl)
  ·match es,hn,he,ht,hN with
   |[e],_,he,ht,hN=>exact Wj hl ih (he e (by simp)) (hb b (by simp)) (hb c (by simp)) hop ht hN
  ·match es,hn,he,ht with
   |[e],_,he,ht=>
    exact (Qj hl ih (he e (by simp)) hz hz1 hz2 (show C4 l i ([(1,oO)]++(pW e++(zs.flatMap (fS (wS n))++[(1,bZ)]))) from ht)).cast (by show _=([(1,oO)]++(pW e++(zs.flatMap (fS (wS n))++[(1,bZ)])):List Tk).length;simp only [Xx,Xw,Xy];omega) (by show 1+sQ (fun a=>qS n (EP a)) zs=1+(0+sQ (fun a=>qS n (EP a)) zs);omega)
  ·match bs,hl2,hb,ht,hN with
   |[b],_,hb,ht,hN=>
    have eW:wS (n+1) (S 6 [105] es [b] [])=Z9 [105] es++wS n b:=rfl
    have eL:(wS (n+1) (S 6 [105] es [b] [])).length=(Z9 [105] es).length+(wS n b).length:=by rw [eW,Xx]
    refine (Uc hl ih hn he (hb b (by simp)) (show C4 l i (Z9 [105] es++wS n b) from ht) (fun h=>?_)).cast eL.symm (by show _=1+((qS n b+0)+0);omega)
    rw [← eL]
    exact hN h
  ·match es,hn,he,ht with
   |[e],_,he,ht=>
    exact (Tu hl ht' (he e (by simp)) (show C4 l i ((bif t.isEmpty then [] else [(1,t),(3,[58])])++([(1,nK)]++(pW e++[(3,[59])]))) from ht)).cast (by show _=((bif t.isEmpty then [] else [(1,t),(3,[58])])++([(1,nK)]++(pW e++[(3,[59])])):List Tk).length;cases t.isEmpty<;>simp only [cond_true,cond_false,Xx,Xw,Xy]<;>omega) rfl
  ·exact Rn hl (show C4 l i [(3,[59])] from ht)
theorem HV {q:D→Nat}{w:D→List Tk}:∀ {xs:List D},(∀ x∈xs,q x≤(w x).length)→sQ q xs≤(xs.flatMap w).length
 |[],_=>Yo _
 |x::xs,h=>by
  have h1:=h x (Yi ..)
  have h2:=HV (q:=q) (w:=w) (xs:=xs) fun y hy=>h y (Yk _ hy)
  simp only [sQ,Ze,Xx];omega
theorem By:∀ (n:Nat) (x:D),qL n x→qS n x≤(wS n x).length
 |0,_,h=>h.elim
 |n+1,x,h=>by
  obtain⟨k,t,es,bs,zs,rfl,he,hb,hz,hs⟩:=h
  have ih:=By n
  have hB:sQ (qS n) bs≤(bs.flatMap (wS n)).length:=HV fun x hx=>ih x (hb x hx)
  have hZ:sQ (fun a=>qS n (EP a)) zs≤(zs.flatMap (fS (wS n))).length:=HV fun a ha=>by
   obtain⟨es,s,rfl,_,_,hs⟩:=hz a ha
   have h1:=ih s hs
   show qS n (EP (arm es s))≤((bif (arm es s |>.at_ 0).l.isEmpty then [(1,wJ)] else [])++(lW (wE 4) (arm es s |>.at_ 0).l++([(3,[58])]++wS n (EP (arm es s)))):List Tk).length
   rw [Ki hs]
   simp only [Xx];omega
  rw [Vn,Ww]
  rcases hs with ⟨rfl,rfl,rfl,hn,rfl⟩|⟨hk,rfl,⟨x,e,rfl,hx⟩,rfl,rfl⟩|⟨rfl,rfl,hn,⟨b,c,rfl,hop⟩,rfl⟩|⟨rfl,rfl,hn,rfl,hz1,hz2⟩|⟨rfl,rfl,hn,hl2,rfl⟩|⟨rfl,ht',hn,rfl,rfl⟩|⟨rfl,rfl,rfl,rfl,rfl⟩
  ·show 1+(sQ (qS n) bs+0)≤([(1,Q6)]++(bs.flatMap (wS n)++[(1,dD)]):List Tk).length
   simp only [Xx,Xw,Xy];omega
  ·rcases hk with rfl|rfl
   ·show 1≤(wE 4 x++([(3,[61])]++(wE 4 e++[(3,[59])])):List Tk).length
    simp only [Xx,Xw,Xy];omega
   ·show 1≤(wE 4 x++([(3,[60,61])]++(wE 4 e++[(3,[59])])):List Tk).length
    simp only [Xx,Xw,Xy];omega
  ·have h1:=ih b (hb b (by simp))
   have h2:=ih c (hb c (by simp))
   show 1+(qS n b+(bif (c.at_ 0).i==8 then 0 else qS n c))≤([(1,vI)]++(pW (x0 es)++(wS n b++(bif (c.at_ 0).i==8 then [] else [(1,cT)]++wS n c))):List Tk).length
   cases (c.at_ 0).i==8<;>simp only [cond_true,cond_false,Xx,Xw,Xy]<;>omega
  ·show 1+(0+sQ (fun a=>qS n (EP a)) zs)≤([(1,oO)]++(pW (x0 es)++(zs.flatMap (fS (wS n))++[(1,bZ)])):List Tk).length
   simp only [Xx,Xw,Xy];omega
  ·match bs,hl2,hb with
   |[b],_,hb=>
    have h1:=ih b (hb b (by simp))
    show 1+(qS n b+0+0)≤(Z9 [105] es++wS n b:List Tk).length
    have:1≤(Z9 [105] es).length:=by simp only [Z9,Xx,Xw,Xy];omega
    rw [Xx];omega
  ·show 1≤((bif t.isEmpty then [] else [(1,t),(3,[58])])++([(1,nK)]++(pW (x0 es)++[(3,[59])])):List Tk).length
   simp only [Xx,Xw,Xy];omega
  ·show 1≤([(3,[59])]:List Tk).length
   simp
end
end Go.Proofs.YtalibicpmfbieaaGreatDoor
