import Derived.Test.YtalibicpmfbieaaGreatDoorM2
import Derived.Test.YtalibicpmfbieaaGreatDoorM1
namespace Go.Proofs.YtalibicpmfbieaaGreatDoor
open Go.AE
set_option linter.all false
section
theorem Ok:decide (WZ.length≤4294967280)=true:=by kernel_rfl
theorem Av:WZ.length≤4294967280:=E7 Ok
theorem Xa:(([43]::Oj).all fun t=>decide (t.length≤3)&&decide (0≤bV (([32]++t)++[32]) WZ 0)&&!(t==[94,126]))=true:=by kernel_rfl
theorem Zb:([[40],[123]].all fun t=>!decide (0≤bV (([32]++t)++[32]) WZ 0))=true:=by kernel_rfl
theorem Wz:(Oj.all fun t=>!(t==[43]))=true:=by kernel_rfl
noncomputable def Dm:PF:=fun n=>T5 n
noncomputable def vB:PF:=fun n=>cO n
noncomputable def nY:PF:=fun n=>I7 n
section
variable {l:List D} (hl:l.length≤1000000)
theorem HY {i m:Nat}{R:D→Prop}{h:Nat}(hR:∀ y,R y→MR y)(hx:∃ k t a b e,l[i]? = some (tk k t a b e)∧(k≠3∨t=[40]∨t=[123]))(H:Ph vB l i m R h):Ph Dm l i m R h:=by
 intro d c p0 p1 p2 hd hd2
 obtain⟨k,t,a,b,e,ht,hk⟩:=hx
 have J:U (fun n=>aY n true [tk k t a b e,.Z 5 l,.int .i64 (i:Int),.int .i64 d,.int .i64 c,.int .i64 p0,.int .i64 p1,.int .i64 p2,.int .i64 0]) fun r=>∃ y,R y∧r=(true,[y,.Z 5 l,.int .i64 ((i+m:Nat):Int),.int .i64 d,.int .i64 c,.int .i64 p0,.int .i64 p1,.int .i64 p2,.int .i64 0]):=by
  refine O6 (fun n=>aY.eq_1 n _ _) (U.I0 rfl (U.H6 (H d c p0 p1 p2 hd hd2) ?_))
  rintro _ ds ⟨y,hy,h0⟩
  cases h0
  obtain⟨v0,v1,v2,v3,vt,vs,rfl⟩:=hR y hy
  exact⟨rfl,U.I0 rfl (U.ret ⟨_,hy,rfl⟩)⟩
 unfold Dm
 refine U.eq (fun n=>pE n l i d c p0 p1 p2 0) (U.H6 (S5 (d:=d) (c:=c) (p0:=p0) (p1:=p1) (p2:=p2) ht) ?_)
 (intro _ ds h0;cases h0;refine⟨rfl,U.I0 rfl ?_⟩)
 refine U.N9 (fun _=>J) fun hk3=>?_
 have hk3:(k !=3)=false:=hk3
 have hk3:k=3:=by simpa using hk3
 have ht2:t=[40]∨t=[123]:=by rcases hk with h|h;exact absurd hk3 h;exact h
 have hno:decide (0≤bV (([32]++t)++[32]) WZ 0)=false:=by
  have:=B6.1 Zb t (by rcases ht2 with rfl|rfl<;>simp)
  simpa using this
 have hlen:t.length≤3:=by rcases ht2 with rfl|rfl<;>simp
 refine U.I0 (E6 (by show 1+t.length≤W0;simp only [W0];omega)) (U.I0 (E6 (by show ([32]++t).length+1≤W0;simp only [W0,A7,C9];omega)) (U.H6 (jK (s:=WZ) Av (([32]++t)++[32])) ?_))
 (intro _ ds h0;cases h0;refine⟨rfl,U.I0 rfl ?_⟩)
 show U (fun n=>aY n (!decide (0≤bV (([32]++t)++[32]) WZ 0)) _) _
 rw [hno]
 exact J
include hl
theorem Dn {i m:Nat}{R:D→Prop}{h:Nat}(hR:∀ y,R y→MR y){t:G1}(ht:t∈[43]::Oj)(hx:∃ a b e,l[i]? = some (tk 3 t a b e))(H:Ph Dm l (i+1) m R h) :
  Ph Dm l i (1+m) (fun y=>bif t==[43] then R y else ∃ a b e u,y=PE 3 a b e t [u]∧R u) (h+1):=by
 intro d c p0 p1 p2 hd hd2
 obtain⟨a,b,e,hx⟩:=hx
 have htab:=B6.1 Xa t ht
 simp only [A9,decide_eq_true_eq,D8] at htab
 obtain⟨⟨hlen,hyes⟩,hpl⟩:=htab
 have hil:=HG hx
 have I:=H (d+1) c p0 p1 p2 (by omega) (by omega)
 rw [show i+1+m=i+(1+m) from by omega,← P0 (j:=i) (by omega)] at I
 unfold Dm at I ⊢
 refine U.eq (fun n=>pE n l i d c p0 p1 p2 0) (U.H6 (S5 (d:=d) (c:=c) (p0:=p0) (p1:=p1) (p2:=p2) hx) ?_)
 (intro _ ds h0;cases h0;refine⟨rfl,U.I0 rfl ?_⟩)
 refine U.no rfl (U.I0 (E6 (by show 1+t.length≤W0;simp only [W0];omega)) (U.I0 (E6 (by show ([32]++t).length+1≤W0;simp only [W0,A7,C9];omega)) (U.H6 (jK (s:=WZ) Av (([32]++t)++[32])) ?_)))
 (intro _ ds h0;cases h0;refine⟨rfl,U.I0 rfl ?_⟩)
 show U (fun n=>aY n (!decide (0≤bV (([32]++t)++[32]) WZ 0)) _) _
 rw [E6 hyes]
 refine O6 (fun n=>aY.eq_1 n _ _) (U.no rfl (U.H6 (kG (l:=l) (d:=d) (c:=c) (p0:=p0) (p1:=p1) (p2:=p2) (i:Int) (by omega) hd) ?_))
 (intro _ ds h0;cases h0;refine⟨rfl,U.I0 rfl ?_⟩)
 refine U.no rfl (U.H6 I ?_)
 (rintro _ ds ⟨y,hy,h0⟩;cases h0;obtain⟨v0,v1,v2,v3,vt,vs,rfl⟩:=hR y hy;refine⟨rfl,U.I0 rfl ?_⟩)
 refine U.N9 (fun h=>?_) fun h=>?_
 ·have h:(t==[43])=true:=h
  refine U.H6 (fS (l:=l) (d:=d) (c:=c) (p0:=p0) (p1:=p1) (p2:=p2) _ (by omega) hd) ?_
  (intro _ ds h0;cases h0;refine⟨rfl,U.I0 rfl ?_⟩)
  exact U.ret ⟨_,by rw [h];exact hy,rfl⟩
 ·have h:(t==[43])=false:=h
  refine U.H6 (U.eq (fun n=>BB n t) (U.no hpl (U.ret (P:=fun r=>r=(true,[.str t])) rfl))) ?_
  (intro _ ds h0;cases h0;refine⟨rfl,U.I0 rfl ?_⟩)
  refine U.H6 (fS (l:=l) (d:=d) (c:=c) (p0:=p0) (p1:=p1) (p2:=p2) _ (by omega) hd) ?_
  (intro _ ds h0;cases h0;refine⟨rfl,U.I0 rfl ?_⟩)
  exact U.ret ⟨_,by rw [h];exact⟨a,b,e,_,rfl,hy⟩,rfl⟩
omit hl in
theorem Ku {t w:G1}(h:cl t=true)(hw:Ul.contains w=false)(k:Int):(t==w&&k !=2)=false:=by
 cases hb:t==w with
 |false=>rfl
 |true=>rw [eq_of_beq hb] at h;unfold cl at h;rw [hw] at h;cases h
theorem El {i m:Nat}{R:D→Prop}{h:Nat}(hR:∀ y,R y→MR y)(hx:∃ k t a b e,l[i]? = some (tk k t a b e))(hn:Nx l (i+m) cl)(H:Ph (Ci 0) l i m R h):Ph nY l i m R (h+1):=by
 have _:=hl
 intro d c p0 p1 p2 hd hd2
 obtain⟨k,t,a,b,e,hx⟩:=hx
 obtain⟨t2,a2,b2,e2,h2,hc⟩:=hn
 have I:=H (d+1) c p0 p1 p2 (by omega) (by omega)
 unfold nY
 unfold Ci at I
 refine U.eq (fun n=>qY n l i d c p0 p1 p2 0) (U.H6 (S5 (d:=d) (c:=c) (p0:=p0) (p1:=p1) (p2:=p2) hx) ?_)
 (intro _ ds h0;cases h0;refine⟨rfl,U.I0 rfl ?_⟩)
 refine U.H6 (kG (l:=l) (d:=d) (c:=c) (p0:=p0) (p1:=p1) (p2:=p2) (i:Int) (by omega) hd) ?_
 (intro _ ds h0;cases h0;refine⟨rfl,U.I0 rfl ?_⟩)
 refine U.no rfl (U.H6 I ?_)
 (rintro _ ds ⟨y,hy,h0⟩;cases h0;obtain⟨v0,v1,v2,v3,vt,vs,rfl⟩:=hR y hy;refine⟨rfl,U.I0 rfl ?_⟩)
 refine U.H6 (J7 (d:=(d+1)) (c:=c) (p0:=p0) (p1:=p1) (p2:=p2) (w:=[63]) h2 (Ku hc rfl 3)) ?_
 (intro _ ds h0;cases h0;refine⟨rfl,U.I0 rfl ?_⟩)
 refine U.I0 rfl (U.H6 (fS (l:=l) (d:=d) (c:=c) (p0:=p0) (p1:=p1) (p2:=p2) _ (by omega) hd) ?_)
 (intro _ ds h0;cases h0;refine⟨rfl,U.I0 rfl ?_⟩)
 exact U.ret ⟨_,hy,rfl⟩
theorem Hc {i m1 m2 m3:Nat}{R1 R2 R3:D→Prop}{h:Nat}(hR1:∀ y,R1 y→MR y)(hR2:∀ y,R2 y→MR y)(hR3:∀ y,R3 y→MR y)(hx:∃ k t a b e,l[i]? = some (tk k t a b e))(H1:Ph (Ci 0) l i m1 R1 h)
  (hq:∃ a b e,l[i+m1]? = some (tk 3 [63] a b e)) (H2:Ph nY l (i+m1+1) m2 R2 h) (hc:∃ a b e,l[i+m1+1+m2]? = some (tk 3 [58] a b e)) (H3:Ph nY l (i+m1+1+m2+1) m3 R3 h) :
  Ph nY l i (m1+1+m2+1+m3) (fun y=>∃ a b e u v w,y=PE 5 a b e [] [u,v,w]∧R1 u∧R2 v∧R3 w) (h+1):=by
 intro d c p0 p1 p2 hd hd2
 obtain⟨k,t,a,b,e,hx⟩:=hx
 obtain⟨a2,b2,e2,hq⟩:=hq
 obtain⟨a3,b3,e3,hc⟩:=hc
 have hil:=HG hc
 have I1:=H1 (d+1) c p0 p1 p2 (by omega) (by omega)
 have I2:=H2 (d+1) c p0 p1 p2 (by omega) (by omega)
 have I3:=H3 (d+1) c p0 p1 p2 (by omega) (by omega)
 rw [show i+m1+1+m2+1+m3=i+(m1+1+m2+1+m3) from by omega] at I3
 unfold nY at I2 I3 ⊢
 unfold Ci at I1
 refine U.eq (fun n=>qY n l i d c p0 p1 p2 0) (U.H6 (S5 (d:=d) (c:=c) (p0:=p0) (p1:=p1) (p2:=p2) hx) ?_)
 (intro _ ds h0;cases h0;refine⟨rfl,U.I0 rfl ?_⟩)
 refine U.H6 (kG (l:=l) (d:=d) (c:=c) (p0:=p0) (p1:=p1) (p2:=p2) (i:Int) (by omega) hd) ?_
 (intro _ ds h0;cases h0;refine⟨rfl,U.I0 rfl ?_⟩)
 refine U.no rfl (U.H6 I1 ?_)
 (rintro _ ds ⟨y1,hy1,h0⟩;cases h0;obtain⟨v0,v1,v2,v3,vt,vs,rfl⟩:=hR1 y1 hy1;refine⟨rfl,U.I0 rfl ?_⟩)
 refine U.H6 (N6 (d:=(d+1)) (c:=c) (p0:=p0) (p1:=p1) (p2:=p2) (w:=[63]) hl hq rfl) ?_
 (intro _ ds h0;cases h0;refine⟨rfl,U.I0 rfl ?_⟩)
 refine U.no rfl (U.H6 I2 ?_)
 (rintro _ ds ⟨y2,hy2,h0⟩;cases h0;obtain⟨v0,v1,v2,v3,vt,vs,rfl⟩:=hR2 y2 hy2;refine⟨rfl,U.I0 rfl ?_⟩)
 refine U.H6 (O7 (d:=(d+1)) (c:=c) (p0:=p0) (p1:=p1) (p2:=p2) hl [[58]] (by decide) (P5 hc rfl)) ?_
 (intro _ ds h0;cases h0;refine⟨rfl,U.I0 rfl ?_⟩)
 refine U.H6 I3 ?_
 (rintro _ ds ⟨y3,hy3,h0⟩;cases h0;obtain⟨v0,v1,v2,v3,vt,vs,rfl⟩:=hR3 y3 hy3;refine⟨rfl,U.I0 rfl ?_⟩)
 refine U.H6 (fS (l:=l) (d:=d) (c:=c) (p0:=p0) (p1:=p1) (p2:=p2) _ (by omega) hd) ?_
 (intro _ ds h0;cases h0;refine⟨rfl,U.I0 rfl ?_⟩)
 exact U.ret ⟨_,⟨a,b,e,_,_,_,rfl,hy1,hy2,hy3⟩,rfl⟩
theorem Ig {i m:Nat}{R:D→Prop}{h:Nat}(hR:∀ y,R y→MR y)(ho:∃ a b e,l[i]? = some (tk 3 [40] a b e))(H:Ph nY l (i+1) m R h)(hs:∃ a b e,l[i+1+m]? = some (tk 3 [41] a b e)):Ph vB l i (1+m+1) R h:=by
 intro d c p0 p1 p2 hd hd2
 obtain⟨a,b,e,ho⟩:=ho
 obtain⟨a2,b2,e2,hs⟩:=hs
 have I:=H d c p0 p1 p2 hd hd2
 unfold nY at I
 unfold vB
 rw [show i+(1+m+1)=i+1+m+1 from by omega]
 refine U.eq (fun n=>aU n l i d c p0 p1 p2 0) (U.H6 (S5 (d:=d) (c:=c) (p0:=p0) (p1:=p1) (p2:=p2) ho) ?_)
 (intro _ ds h0;cases h0;refine⟨rfl,U.I0 rfl ?_⟩)
 refine U.no rfl (U.H6 (N6 (d:=d) (c:=c) (p0:=p0) (p1:=p1) (p2:=p2) (w:=[40]) hl ho rfl) ?_)
 (intro _ ds h0;cases h0;refine⟨rfl,U.I0 rfl ?_⟩)
 refine U.I0 rfl (U.H6 I ?_)
 (rintro _ ds ⟨y,hy,h0⟩;cases h0;obtain⟨v0,v1,v2,v3,vt,vs,rfl⟩:=hR y hy;refine⟨rfl,U.I0 rfl ?_⟩)
 refine U.H6 (O7 (d:=d) (c:=c) (p0:=p0) (p1:=p1) (p2:=p2) hl [[41]] (by decide) (P5 hs rfl)) ?_
 (intro _ ds h0;cases h0;refine⟨rfl,U.I0 rfl ?_⟩)
 exact U.ret ⟨_,hy,rfl⟩
theorem one_num {i:Nat}{t:G1}(hx:∃ a b e,l[i]? = some (tk 2 t a b e)):Ph vB l i 1 (fun y=>∃ a b e,y=PE 1 a b e t []) 0:=by
 intro d c p0 p1 p2 hd hd2
 obtain⟨a,b,e,hx⟩:=hx
 have hil:=HG hx
 unfold vB
 refine U.eq (fun n=>aU n l i d c p0 p1 p2 0) (U.H6 (S5 (d:=d) (c:=c) (p0:=p0) (p1:=p1) (p2:=p2) hx) ?_)
 (intro _ ds h0;cases h0;refine⟨rfl,U.I0 rfl ?_⟩)
 refine U.I0 rfl (U.ret ⟨_,⟨a,b,e,rfl⟩,?_⟩)
 rw [← P0 (by omega)];rfl
theorem Mx {i:Nat}{t:G1}(hg:Ie t=true)(hx:∃ a b e,l[i]? = some (tk 1 t a b e)){p:G1→Bool}(hn:Nx l (i+1) p)(hp:∀ t,p t=true→(t==[91])=false∧(t==[40])=false):Ph vB l i 1 (fun y=>∃ a b e,y=PE 2 a b e t []) 0:=by
 intro d c p0 p1 p2 hd hd2
 obtain⟨a,b,e,hx⟩:=hx
 obtain⟨t2,a2,b2,e2,h2,hq⟩:=hn
 refine (Vs (d:=d) (c:=c) (p0:=p0) (p1:=p1) (p2:=p2) hl hx hg h2 (hp t2 hq).1 (hp t2 hq).2).mono fun r hr=>?_
 exact⟨_,⟨a,b,e,rfl⟩,hr⟩
def Xk (l:List D)(h:Nat):Nat→List (Nat×(D→Prop))→Nat→Prop
 |i,[],e=>i=e
 |i,p::r,e=>(∃ a b c,l[i]? = some (tk 3 [44] a b c))∧Ph nY l (i+1) p.1 p.2 h∧(∀ y,p.2 y→MR y)∧Xk l h (i+1+p.1) r e
theorem Lb {h:Nat}{e:Nat}(hn:∃ t a b c,l[e]? = some (tk 3 t a b c)∧(t==[44])=false):∀ (es:List (Nat×(D→Prop))) (i:Nat) (acc:List D),Xk l h i es e→acc.length+es.length≤1000→∀ d c p0 p1 p2:Int,0≤d→d+h≤40→
  U (fun n=>W5 n (.Z 5 l) (i:Int) d c p0 p1 p2 (0:Int) (.Z 6 acc)) fun r=>∃ ys,F2 (fun p y=>p.2 y) es ys∧r=(false,[.Z 5 l,.int .i64 (e:Int),.int .i64 d,.int .i64 c,.int .i64 p0,.int .i64 p1,.int .i64 p2,.int .i64 0,.Z 6 (acc++ys)])
 |[],i,acc,h0,_,d,c,p0,p1,p2,hd,hd2=>by
  obtain⟨t,a,b,e',ht,hne⟩:=hn
  have h0:i=e:=h0
  subst h0
  refine U.eq (fun n=>mY n l i d c p0 p1 p2 0 acc) (U.H6 (J7 (d:=d) (c:=c) (p0:=p0) (p1:=p1) (p2:=p2) (w:=[44]) ht (by rw [hne];rfl)) ?_)
  (intro _ ds h0;cases h0;refine⟨rfl,U.I0 rfl ?_⟩)
  exact U.no rfl (U.ret ⟨[],.nil,by rw [D5];rfl⟩)
 |(m,R)::es,i,acc,h0,hb,d,c,p0,p1,p2,hd,hd2=>by
  obtain⟨⟨a,b,e',hc⟩,H,hR,hr⟩:=h0
  have I:=H d c p0 p1 p2 hd hd2
  unfold nY at I
  refine U.eq (fun n=>mY n l i d c p0 p1 p2 0 acc) (U.H6 (N6 (d:=d) (c:=c) (p0:=p0) (p1:=p1) (p2:=p2) (w:=[44]) hl hc rfl) ?_)
  (intro _ ds h0;cases h0;refine⟨rfl,U.I0 rfl ?_⟩)
  refine U.I0 rfl (U.H6 I ?_)
  (rintro _ ds ⟨y,hy,h0⟩;cases h0;obtain⟨v0,v1,v2,v3,vt,vs,rfl⟩:=hR y hy;refine⟨rfl,U.I0 rfl ?_⟩)
  have K:=Lb hn es (i+1+m) (acc++[.agg [.int .i64 v0,.int .i64 v1,.int .i64 v2,.int .i64 v3,.str vt,.Z 6 vs]]) hr (by simp only [G0] at hb ⊢;omega) d c p0 p1 p2 hd hd2
  refine U.I0 (B2 (by simp only [A0] at hb;simp only [L7];omega)) (K.mono fun r hr=>?_)
  obtain⟨ys,h1,h2⟩:=hr
  exact⟨_::ys,.cons hy h1,by rw [h2,C1];rfl⟩
def Ox (l:List D)(i m:Nat)(R:List D→Prop)(h:Nat):Prop:=
 ∀ d c p0 p1 p2:Int,0≤d→d+h≤40→U (fun n=>P2 n (.Z 5 l) (i:Int) d c p0 p1 p2 (0:Int)) fun r=>∃ ys,R ys∧r=(true,[.Z 5 l,.int .i64 ((i+m:Nat):Int),.int .i64 d,.int .i64 c,.int .i64 p0,.int .i64 p1,.int .i64 p2,.int .i64 0,.Z 6 ys])
theorem YP {i m e:Nat}{R:D→Prop}{h:Nat}{es:List (Nat×(D→Prop))}(hR:∀ y,R y→MR y)(H:Ph nY l i m R h)(hE:Xk l h (i+m) es e)(hel:es.length≤900)(hn:∃ t a b c,l[e]? = some (tk 3 t a b c)∧(t==[44])=false){q:Nat}(hq:e=i+q) :
  Ox l i q (fun ys=>∃ y r,ys=y::r∧R y∧F2 (fun p y=>p.2 y) es r) h:=by
 intro d c p0 p1 p2 hd hd2
 have I:=H d c p0 p1 p2 hd hd2
 unfold nY at I
 refine U.eq (fun n=>yL n l i d c p0 p1 p2 0) (U.H6 I ?_)
 (rintro _ ds ⟨y,hy,h0⟩;cases h0;obtain⟨v0,v1,v2,v3,vt,vs,rfl⟩:=hR y hy;refine⟨rfl,U.I0 rfl ?_⟩)
 have K:=Lb hl hn es (i+m) [.agg [.int .i64 v0,.int .i64 v1,.int .i64 v2,.int .i64 v3,.str vt,.Z 6 vs]] hE (by simp only [A0,A8];omega) d c p0 p1 p2 hd hd2
 refine U.L3 K (fun ds h=>by obtain⟨_,_,h⟩:=h;cases h) fun ds h=>?_
 obtain⟨ys,h1,h2⟩:=h
 cases h2
 subst hq
 exact U.I0 rfl (U.ret ⟨_,⟨_,ys,rfl,hy,h1⟩,rfl⟩)
theorem Qz {i m:Nat}{R:List D→Prop}{h:Nat}(ho:∃ a b e,l[i]? = some (tk 3 [123] a b e))(H:Ox l (i+1) m R h)(hs:∃ a b e,l[i+1+m]? = some (tk 3 [125] a b e)):Ph vB l i (1+m+1) (fun y=>∃ a b e ys,y=PE 6 a b e [] ys∧R ys) h:=by
 intro d c p0 p1 p2 hd hd2
 obtain⟨a,b,e,ho⟩:=ho
 obtain⟨a2,b2,e2,hs⟩:=hs
 have I:=H d c p0 p1 p2 hd hd2
 unfold vB
 rw [show i+(1+m+1)=i+1+m+1 from by omega]
 have J:∀ ys,R ys→U (fun n=>dE n ys 6 l ((i+1+m:Nat):Int) d c p0 p1 p2 0 a b e) fun r=>∃ y,(∃ a b e ys,y=PE 6 a b e [] ys∧R ys)∧r=(true,[y,.Z 5 l,.int .i64 ((i+1+m+1:Nat):Int),.int .i64 d,.int .i64 c,.int .i64 p0,.int .i64 p1,.int .i64 p2,.int .i64 0]):=by
  intro ys hys
  refine O6 (fun n=>dE.eq_1 n _ _ _ _ _ _ _ _ _ _ _ _ _) (U.H6 (O7 (d:=d) (c:=c) (p0:=p0) (p1:=p1) (p2:=p2) hl [[125]] (by decide) (P5 hs rfl)) ?_)
  (intro _ ds h0;cases h0;refine⟨rfl,U.I0 rfl ?_⟩)
  exact U.ret ⟨_,⟨a,b,e,ys,rfl,hys⟩,rfl⟩
 have B:U (fun n=>aT n (.agg [.int .i64 a,.int .i64 b,.int .i64 e]) (.Z 5 l) ((i+1:Nat):Int) d c p0 p1 p2 (0:Int)) fun r=>∃ y,(∃ a b e ys,y=PE 6 a b e [] ys∧R ys)∧r=(true,[y,.Z 5 l,.int .i64 ((i+1+m+1:Nat):Int),.int .i64 d,.int .i64 c,.int .i64 p0,.int .i64 p1,.int .i64 p2,.int .i64 0]):=by
  refine U.eq (fun n=>oX n a b e l _ d c p0 p1 p2 0) (U.H6 I ?_)
  rintro _ ds ⟨ys,hys,h0⟩
  cases h0
  refine⟨rfl,U.I0 rfl (U.N9 (fun _=>?_) fun _=>?_)⟩
  ·refine U.H6 (J7 (d:=d) (c:=c) (p0:=p0) (p1:=p1) (p2:=p2) (w:=[123]) hs rfl) ?_
   (intro _ ds h0;cases h0;refine⟨rfl,U.I0 rfl ?_⟩)
   exact O6 (fun n=>dD.eq_1 n _ _ _ _ _ _ _ _ _ _ _ _ _) (U.no rfl (J ys hys))
  ·exact O6 (fun n=>dD.eq_1 n _ _ _ _ _ _ _ _ _ _ _ _ _) (U.no rfl (J ys hys))
 refine U.eq (fun n=>aU n l i d c p0 p1 p2 0) (U.H6 (S5 (d:=d) (c:=c) (p0:=p0) (p1:=p1) (p2:=p2) ho) ?_)
 (intro _ ds h0;cases h0;refine⟨rfl,U.I0 rfl ?_⟩)
 refine U.no rfl (U.H6 (J7 (d:=d) (c:=c) (p0:=p0) (p1:=p1) (p2:=p2) (w:=[40]) ho rfl) ?_)
 (intro _ ds h0;cases h0;refine⟨rfl,U.I0 rfl ?_⟩)
 refine U.no rfl (U.H6 (N6 (d:=d) (c:=c) (p0:=p0) (p1:=p1) (p2:=p2) (w:=[123]) hl ho rfl) ?_)
 (intro _ ds h0;cases h0;refine⟨rfl,U.I0 rfl ?_⟩)
 refine U.I0 rfl (U.H6 B ?_)
 rintro _ ds ⟨y,⟨a,b,e,ys,rfl,hys⟩,h0⟩
 cases h0
 exact⟨rfl,U.I0 rfl (U.ret ⟨_,⟨a,b,e,ys,rfl,hys⟩,rfl⟩)⟩
theorem Ra {i m1 m2:Nat}{R1:D→Prop}{R2:List D→Prop}{h:Nat}(hR1:∀ y,R1 y→MR y)(hR2:∀ ys,R2 ys→ys.length≤1000)(ho:∃ a b e,l[i]? = some (tk 3 [123] a b e))(H1:Ph nY l (i+1) m1 R1 h)(hb:∃ a b e,l[i+1+m1]? = some (tk 3 [123] a b e))
  (H2:Ox l (i+1+m1+1) m2 R2 h) (hs:∃ a b e,l[i+1+m1+1+m2]? = some (tk 3 [125] a b e)) (hs2:∃ a b e,l[i+1+m1+1+m2+1]? = some (tk 3 [125] a b e)) :
  Ph vB l i (1+m1+1+m2+2) (fun y=>∃ a b e u ys,y=PE 7 a b e [] (u::ys)∧R1 u∧R2 ys) h:=by
 have hE:Ox l (i+1) m1 (fun ys=>∃ y r,ys=y::r∧R1 y∧F2 (fun (p:Nat×(D→Prop)) y=>p.2 y) [] r) h:=by
  obtain⟨a,b,e,hb⟩:=hb
  exact YP hl hR1 H1 (es:=[]) (e:=i+1+m1) rfl (by decide) ⟨_,a,b,e,hb,rfl⟩ rfl
 intro d c p0 p1 p2 hd hd2
 obtain⟨a,b,e,ho⟩:=ho
 obtain⟨a1,b1,e1,hb⟩:=hb
 obtain⟨a2,b2,e2,hs⟩:=hs
 obtain⟨a3,b3,e3,hs2⟩:=hs2
 have I1:=hE d c p0 p1 p2 hd hd2
 have I2:=H2 d c p0 p1 p2 hd hd2
 unfold vB
 rw [show i+(1+m1+1+m2+2)=i+1+m1+1+m2+1+1 from by omega]
 have B:U (fun n=>aT n (.agg [.int .i64 a,.int .i64 b,.int .i64 e]) (.Z 5 l) ((i+1:Nat):Int) d c p0 p1 p2 (0:Int)) fun r=>∃ y,(∃ a b e u ys,y=PE 7 a b e [] (u::ys)∧R1 u∧R2 ys)∧r=(true,[y,.Z 5 l,.int .i64 ((i+1+m1+1+m2+1+1:Nat):Int),.int .i64 d,.int .i64 c,.int .i64 p0,.int .i64 p1,.int .i64 p2,.int .i64 0]):=by
  refine U.eq (fun n=>oX n a b e l _ d c p0 p1 p2 0) (U.H6 I1 ?_)
  rintro _ ds ⟨_,⟨u,r,rfl,hu,hr⟩,h0⟩
  cases h0
  cases hr
  refine⟨rfl,U.I0 rfl (U.I0 rfl (U.H6 (N6 (d:=d) (c:=c) (p0:=p0) (p1:=p1) (p2:=p2) (w:=[123]) hl hb rfl) ?_))⟩
  (intro _ ds h0;cases h0;refine⟨rfl,U.I0 rfl ?_⟩)
  refine O6 (fun n=>dD.eq_1 n _ _ _ _ _ _ _ _ _ _ _ _ _) (U.I0 rfl (U.H6 I2 ?_))
  rintro _ ds ⟨ys,hys,h0⟩
  cases h0
  have hb:=hR2 ys hys
  refine⟨rfl,U.I0 rfl (U.I0 (B2 (by show ([u]:List D).length+ys.length≤L7;simp only [A0,A8,L7];omega)) (U.H6 (O7 (d:=d) (c:=c) (p0:=p0) (p1:=p1) (p2:=p2) hl [[125]] (by decide) (P5 hs rfl)) ?_))⟩
  (intro _ ds h0;cases h0;refine⟨rfl,U.I0 rfl ?_⟩)
  refine O6 (fun n=>dE.eq_1 n _ _ _ _ _ _ _ _ _ _ _ _ _) (U.H6 (O7 (d:=d) (c:=c) (p0:=p0) (p1:=p1) (p2:=p2) hl [[125]] (by decide) (P5 hs2 rfl)) ?_)
  (intro _ ds h0;cases h0;refine⟨rfl,U.I0 rfl ?_⟩)
  exact U.ret ⟨_,⟨a,b,e,u,ys,rfl,hu,hys⟩,rfl⟩
 refine U.eq (fun n=>aU n l i d c p0 p1 p2 0) (U.H6 (S5 (d:=d) (c:=c) (p0:=p0) (p1:=p1) (p2:=p2) ho) ?_)
 (intro _ ds h0;cases h0;refine⟨rfl,U.I0 rfl ?_⟩)
 refine U.no rfl (U.H6 (J7 (d:=d) (c:=c) (p0:=p0) (p1:=p1) (p2:=p2) (w:=[40]) ho rfl) ?_)
 (intro _ ds h0;cases h0;refine⟨rfl,U.I0 rfl ?_⟩)
 refine U.no rfl (U.H6 (N6 (d:=d) (c:=c) (p0:=p0) (p1:=p1) (p2:=p2) (w:=[123]) hl ho rfl) ?_)
 (intro _ ds h0;cases h0;refine⟨rfl,U.I0 rfl ?_⟩)
 refine U.I0 rfl (U.H6 B ?_)
 rintro _ ds ⟨y,⟨a,b,e,u,ys,rfl,hu,hys⟩,h0⟩
 cases h0
 exact⟨rfl,U.I0 rfl (U.ret ⟨_,⟨a,b,e,u,ys,rfl,hu,hys⟩,rfl⟩)⟩
theorem OR {i m:Nat}{R:D→Prop}{h:Nat}(hR:∀ y,R y→MR y){t:G1}(hg:qQ t=true)(hx:∃ a b e,l[i]? = some (tk 1 t a b e))(ho:∃ a b e,l[i+1]? = some (tk 3 [91] a b e))(H:Ph nY l (i+2) m R h)(hs:∃ a b e,l[i+2+m]? = some (tk 3 [93] a b e)) :
  Ph (fun n=>P8 n) l i (2+m+1) (fun y=>∃ a b e u,y=PE 8 a b e t [u]∧R u) h:=by
 intro d c p0 p1 p2 hd hd2
 obtain⟨a,b,e,hx⟩:=hx
 obtain⟨a2,b2,e2,ho⟩:=ho
 obtain⟨a3,b3,e3,hs⟩:=hs
 have I:=H d c p0 p1 p2 hd hd2
 unfold nY at I
 rw [show i+(2+m+1)=i+2+m+1 from by omega]
 refine U.eq (fun n=>lQ n l i d c p0 p1 p2 0) (U.H6 (S5 (d:=d) (c:=c) (p0:=p0) (p1:=p1) (p2:=p2) hx) ?_)
 (intro _ ds h0;cases h0;refine⟨rfl,U.I0 rfl ?_⟩)
 refine U.H6 (kB (d:=d) (c:=c) (p0:=p0) (p1:=p1) (p2:=p2) hl hx hg) ?_
 (intro _ ds h0;cases h0;refine⟨rfl,U.I0 rfl ?_⟩)
 refine U.H6 (N6 (d:=d) (c:=c) (p0:=p0) (p1:=p1) (p2:=p2) (w:=[91]) hl ho rfl) ?_
 (intro _ ds h0;cases h0;refine⟨rfl,U.I0 rfl ?_⟩)
 refine U.no rfl (U.H6 I ?_)
 (rintro _ ds ⟨y,hy,h0⟩;cases h0;obtain⟨v0,v1,v2,v3,vt,vs,rfl⟩:=hR y hy;refine⟨rfl,U.I0 rfl ?_⟩)
 refine U.H6 (J7 (d:=d) (c:=c) (p0:=p0) (p1:=p1) (p2:=p2) (w:=[58]) hs rfl) ?_
 (intro _ ds h0;cases h0;refine⟨rfl,U.I0 rfl ?_⟩)
 refine U.no rfl (O6 (fun n=>iH.eq_1 n _ _ _ _ _ _ _ _ _ _ _ _) (U.H6 (O7 (d:=d) (c:=c) (p0:=p0) (p1:=p1) (p2:=p2) hl [[93]] (by decide) (P5 hs rfl)) ?_))
 (intro _ ds h0;cases h0;refine⟨rfl,U.I0 rfl ?_⟩)
 exact U.ret ⟨_,⟨a,b,e,_,rfl,hy⟩,rfl⟩
theorem OT {i m1 m2:Nat}{R1 R2:D→Prop}{h:Nat}(hR1:∀ y,R1 y→MR y)(hR2:∀ y,R2 y→MR y){t:G1}(hg:qQ t=true)(hx:∃ a b e,l[i]? = some (tk 1 t a b e))(ho:∃ a b e,l[i+1]? = some (tk 3 [91] a b e))(H1:Ph nY l (i+2) m1 R1 h)
  (hc:∃ a b e,l[i+2+m1]? = some (tk 3 [58] a b e)) (H2:Ph nY l (i+2+m1+1) m2 R2 h) (hs:∃ a b e,l[i+2+m1+1+m2]? = some (tk 3 [93] a b e)) :
  Ph (fun n=>P8 n) l i (2+m1+1+m2+1) (fun y=>∃ a b e u v,y=PE 9 a b e t [u,v]∧R1 u∧R2 v) h:=by
 intro d c p0 p1 p2 hd hd2
 obtain⟨a,b,e,hx⟩:=hx
 obtain⟨a2,b2,e2,ho⟩:=ho
 obtain⟨a3,b3,e3,hc⟩:=hc
 obtain⟨a4,b4,e4,hs⟩:=hs
 have I1:=H1 d c p0 p1 p2 hd hd2
 have I2:=H2 d c p0 p1 p2 hd hd2
 unfold nY at I1 I2
 rw [show i+(2+m1+1+m2+1)=i+2+m1+1+m2+1 from by omega]
 refine U.eq (fun n=>lQ n l i d c p0 p1 p2 0) (U.H6 (S5 (d:=d) (c:=c) (p0:=p0) (p1:=p1) (p2:=p2) hx) ?_)
 (intro _ ds h0;cases h0;refine⟨rfl,U.I0 rfl ?_⟩)
 refine U.H6 (kB (d:=d) (c:=c) (p0:=p0) (p1:=p1) (p2:=p2) hl hx hg) ?_
 (intro _ ds h0;cases h0;refine⟨rfl,U.I0 rfl ?_⟩)
 refine U.H6 (N6 (d:=d) (c:=c) (p0:=p0) (p1:=p1) (p2:=p2) (w:=[91]) hl ho rfl) ?_
 (intro _ ds h0;cases h0;refine⟨rfl,U.I0 rfl ?_⟩)
 refine U.no rfl (U.H6 I1 ?_)
 (rintro _ ds ⟨y1,hy1,h0⟩;cases h0;obtain⟨v0,v1,v2,v3,vt,vs,rfl⟩:=hR1 y1 hy1;refine⟨rfl,U.I0 rfl ?_⟩)
 refine U.H6 (N6 (d:=d) (c:=c) (p0:=p0) (p1:=p1) (p2:=p2) (w:=[58]) hl hc rfl) ?_
 (intro _ ds h0;cases h0;refine⟨rfl,U.I0 rfl ?_⟩)
 refine U.I0 rfl (U.H6 I2 ?_)
 (rintro _ ds ⟨y2,hy2,h0⟩;cases h0;obtain⟨v0,v1,v2,v3,vt,vs,rfl⟩:=hR2 y2 hy2;refine⟨rfl,U.I0 rfl ?_⟩)
 refine O6 (fun n=>iH.eq_1 n _ _ _ _ _ _ _ _ _ _ _ _) (U.H6 (O7 (d:=d) (c:=c) (p0:=p0) (p1:=p1) (p2:=p2) hl [[93]] (by decide) (P5 hs rfl)) ?_)
 (intro _ ds h0;cases h0;refine⟨rfl,U.I0 rfl ?_⟩)
 exact U.ret ⟨_,⟨a,b,e,_,_,rfl,hy1,hy2⟩,rfl⟩
theorem ZY {i m:Nat}{R:D→Prop}{h:Nat}{t:G1}(hg:Ie t=true)(hx:∃ a b e,l[i]? = some (tk 1 t a b e))(hR:∀ y,R y→∃ k a b e t ar,y=PE k a b e t ar∧k≠2)(H:Ph (fun n=>P8 n) l i m R h):Ph vB l i m R h:=by
 have _:=hl
 intro d c p0 p1 p2 hd hd2
 obtain⟨a,b,e,hx⟩:=hx
 have I:=H d c p0 p1 p2 hd hd2
 simp only [Ie,A9,D8] at hg
 obtain⟨⟨⟨⟨g1,g2⟩,g3⟩,g4⟩,g5⟩:=hg
 unfold vB
 refine U.eq (fun n=>aU n l i d c p0 p1 p2 0) (U.H6 (S5 (d:=d) (c:=c) (p0:=p0) (p1:=p1) (p2:=p2) hx) ?_)
 (intro _ ds h0;cases h0;refine⟨rfl,U.I0 rfl ?_⟩)
 refine U.no rfl (U.H6 (J7 (d:=d) (c:=c) (p0:=p0) (p1:=p1) (p2:=p2) hx (by rw [g2];rfl)) ?_)
 (intro _ ds h0;cases h0;refine⟨rfl,U.I0 rfl ?_⟩)
 refine U.no rfl (U.H6 (J7 (d:=d) (c:=c) (p0:=p0) (p1:=p1) (p2:=p2) hx (by rw [g3];rfl)) ?_)
 (intro _ ds h0;cases h0;refine⟨rfl,U.I0 rfl ?_⟩)
 refine U.no rfl (U.H6 (gM (d:=d) (c:=c) (p0:=p0) (p1:=p1) (p2:=p2) _ hx) ?_)
 (intro _ ds h0;cases h0;refine⟨rfl,U.I0 rfl ?_⟩)
 refine U.no (by show (_&&_)=false;rw [g4];rfl) (U.H6 (gM (d:=d) (c:=c) (p0:=p0) (p1:=p1) (p2:=p2) _ hx) ?_)
 (intro _ ds h0;cases h0;refine⟨rfl,U.I0 rfl ?_⟩)
 refine U.no (by show (_&&_)=false;rw [g5];rfl) (U.H6 I ?_)
 rintro _ ds ⟨y,hy,h0⟩
 cases h0
 obtain⟨k,a,b,e,t,ar,rfl,hk⟩:=hR y hy
 refine⟨rfl,U.I0 rfl (U.no (F4.2 hk) ?_)⟩
 exact O6 (fun n=>fM.eq_1 n _ _ _ _ _ _ _ _ _ _ _) (U.no rfl (U.ret ⟨_,hy,rfl⟩))
theorem Eg {i m:Nat}{R:List D→Prop}{h:Nat}(k a b e:Int)(t:G1)(ho:∃ a b e,l[i]? = some (tk 3 [40] a b e))(H:Ox l (i+1) m R h)(hs:∃ a b e,l[i+1+m]? = some (tk 3 [41] a b e)) :
  Ph (fun n=>X7 n (tk k t a b e)) l i (1+m+1) (fun y=>∃ ys,y=PE 10 a b e t ys∧R ys) h:=by
 intro d c p0 p1 p2 hd hd2
 obtain⟨a2,b2,e2,ho⟩:=ho
 obtain⟨a3,b3,e3,hs⟩:=hs
 have I:=H d c p0 p1 p2 hd hd2
 rw [show i+(1+m+1)=i+1+m+1 from by omega]
 refine U.eq (fun n=>AW n k t a b e l i d c p0 p1 p2 0) (U.H6 (O7 (d:=d) (c:=c) (p0:=p0) (p1:=p1) (p2:=p2) hl [[40]] (by decide) (P5 ho rfl)) ?_)
 (intro _ ds h0;cases h0;refine⟨rfl,U.I0 rfl ?_⟩)
 refine U.H6 I ?_
 rintro _ ds ⟨ys,hys,h0⟩
 cases h0
 refine⟨rfl,U.I0 rfl (U.H6 (O7 (d:=d) (c:=c) (p0:=p0) (p1:=p1) (p2:=p2) hl [[41]] (by decide) (P5 hs rfl)) ?_)⟩
 (intro _ ds h0;cases h0;refine⟨rfl,U.I0 rfl ?_⟩)
 exact U.ret ⟨_,⟨ys,rfl,hys⟩,rfl⟩
theorem ZX {i m:Nat}{R:List D→Prop}{h:Nat}{t:G1}(hg:Ie t=true)(hx:∃ a b e,l[i]? = some (tk 1 t a b e))(ho:∃ a b e,l[i+1]? = some (tk 3 [40] a b e))(H:Ox l (i+2) m R h)(hs:∃ a b e,l[i+2+m]? = some (tk 3 [41] a b e)) :
  Ph vB l i (2+m+1) (fun y=>∃ a b e ys,y=PE 10 a b e t ys∧R ys) h:=by
 intro d c p0 p1 p2 hd hd2
 obtain⟨a,b,e,hx⟩:=hx
 have C:=Eg hl 1 a b e t (i:=i+1) ho H hs d c p0 p1 p2 hd hd2
 obtain⟨a2,b2,e2,ho⟩:=ho
 have hg0:=hg
 simp only [Ie,A9,D8] at hg
 obtain⟨⟨⟨⟨g1,g2⟩,g3⟩,g4⟩,g5⟩:=hg
 unfold vB
 rw [show i+(2+m+1)=i+1+(1+m+1) from by omega]
 refine U.eq (fun n=>aU n l i d c p0 p1 p2 0) (U.H6 (S5 (d:=d) (c:=c) (p0:=p0) (p1:=p1) (p2:=p2) hx) ?_)
 (intro _ ds h0;cases h0;refine⟨rfl,U.I0 rfl ?_⟩)
 refine U.no rfl (U.H6 (J7 (d:=d) (c:=c) (p0:=p0) (p1:=p1) (p2:=p2) hx (by rw [g2];rfl)) ?_)
 (intro _ ds h0;cases h0;refine⟨rfl,U.I0 rfl ?_⟩)
 refine U.no rfl (U.H6 (J7 (d:=d) (c:=c) (p0:=p0) (p1:=p1) (p2:=p2) hx (by rw [g3];rfl)) ?_)
 (intro _ ds h0;cases h0;refine⟨rfl,U.I0 rfl ?_⟩)
 refine U.no rfl (U.H6 (gM (d:=d) (c:=c) (p0:=p0) (p1:=p1) (p2:=p2) _ hx) ?_)
 (intro _ ds h0;cases h0;refine⟨rfl,U.I0 rfl ?_⟩)
 refine U.no (by show (_&&_)=false;rw [g4];rfl) (U.H6 (gM (d:=d) (c:=c) (p0:=p0) (p1:=p1) (p2:=p2) _ hx) ?_)
 (intro _ ds h0;cases h0;refine⟨rfl,U.I0 rfl ?_⟩)
 refine U.no (by show (_&&_)=false;rw [g5];rfl) (U.H6 (MI (d:=d) (c:=c) (p0:=p0) (p1:=p1) (p2:=p2) hl hx g1 ho rfl) ?_)
 (intro _ ds h0;cases h0;refine⟨rfl,U.I0 rfl ?_⟩)
 refine U.I0 rfl (U.H6 (gM (d:=d) (c:=c) (p0:=p0) (p1:=p1) (p2:=p2) [40] ho) ?_)
 (intro _ ds h0;cases h0;refine⟨rfl,U.I0 rfl ?_⟩)
 refine O6 (fun n=>fM.eq_1 n _ _ _ _ _ _ _ _ _ _ _) (U.I0 rfl (U.H6 C ?_))
 rintro _ ds ⟨y,⟨ys,rfl,hys⟩,h0⟩
 cases h0
 exact⟨rfl,U.I0 rfl (U.ret ⟨_,⟨a,b,e,ys,rfl,hys⟩,rfl⟩)⟩
theorem Fk {i m:Nat}{R:List D→Prop}{h:Nat}{t:G1}(ht:t=[36,115,105,103,110,101,100]∨t=[36,117,110,115,105,103,110,101,100])(hx:∃ a b e,l[i]? = some (tk 1 t a b e))(ho:∃ a b e,l[i+1]? = some (tk 3 [40] a b e))(H:Ox l (i+2) m R h)(hs:∃ a b e,l[i+2+m]? = some (tk 3 [41] a b e)) :
  Ph vB l i (2+m+1) (fun y=>∃ a b e ys,y=PE 10 a b e t ys∧R ys) h:=by
 intro d c p0 p1 p2 hd hd2
 obtain⟨a,b,e,hx⟩:=hx
 have hil:=HG hx
 have C:=Eg hl 1 a b e t (i:=i+1) ho H hs d c p0 p1 p2 hd hd2
 unfold vB
 rw [show i+(2+m+1)=i+1+(1+m+1) from by omega]
 rw [← P0 (j:=i) (by omega)] at C
 refine U.eq (fun n=>aU n l i d c p0 p1 p2 0) (U.H6 (S5 (d:=d) (c:=c) (p0:=p0) (p1:=p1) (p2:=p2) hx) ?_)
 rcases ht with rfl|rfl
 ·(intro _ ds h0;cases h0;refine⟨rfl,U.I0 rfl ?_⟩)
  refine U.no rfl (U.H6 (J7 (d:=d) (c:=c) (p0:=p0) (p1:=p1) (p2:=p2) hx rfl) ?_)
  (intro _ ds h0;cases h0;refine⟨rfl,U.I0 rfl ?_⟩)
  refine U.no rfl (U.H6 (J7 (d:=d) (c:=c) (p0:=p0) (p1:=p1) (p2:=p2) hx rfl) ?_)
  (intro _ ds h0;cases h0;refine⟨rfl,U.I0 rfl ?_⟩)
  refine U.no rfl (U.H6 (gM (d:=d) (c:=c) (p0:=p0) (p1:=p1) (p2:=p2) _ hx) ?_)
  (intro _ ds h0;cases h0;refine⟨rfl,U.I0 rfl ?_⟩)
  refine U.I0 rfl (U.H6 C ?_)
  rintro _ ds ⟨y,⟨ys,rfl,hys⟩,h0⟩
  cases h0
  exact⟨rfl,U.I0 rfl (U.ret ⟨_,⟨a,b,e,ys,rfl,hys⟩,rfl⟩)⟩
 ·(intro _ ds h0;cases h0;refine⟨rfl,U.I0 rfl ?_⟩)
  refine U.no rfl (U.H6 (J7 (d:=d) (c:=c) (p0:=p0) (p1:=p1) (p2:=p2) hx rfl) ?_)
  (intro _ ds h0;cases h0;refine⟨rfl,U.I0 rfl ?_⟩)
  refine U.no rfl (U.H6 (J7 (d:=d) (c:=c) (p0:=p0) (p1:=p1) (p2:=p2) hx rfl) ?_)
  (intro _ ds h0;cases h0;refine⟨rfl,U.I0 rfl ?_⟩)
  refine U.no rfl (U.H6 (gM (d:=d) (c:=c) (p0:=p0) (p1:=p1) (p2:=p2) _ hx) ?_)
  (intro _ ds h0;cases h0;refine⟨rfl,U.I0 rfl ?_⟩)
  refine U.no rfl (U.H6 (gM (d:=d) (c:=c) (p0:=p0) (p1:=p1) (p2:=p2) _ hx) ?_)
  (intro _ ds h0;cases h0;refine⟨rfl,U.I0 rfl ?_⟩)
  refine U.I0 rfl (U.H6 C ?_)
  rintro _ ds ⟨y,⟨ys,rfl,hys⟩,h0⟩
  cases h0
  exact⟨rfl,U.I0 rfl (U.ret ⟨_,⟨a,b,e,ys,rfl,hys⟩,rfl⟩)⟩
end
end
section
theorem Ph.cast {F:PF}{l:List D}{i m m':Nat}{R:D→Prop}{h:Nat}(H:Ph F l i m R h)(e:m=m'):Ph F l i m' R h:=e▸H
theorem Vm:(cN.all Ie)=true:=by kernel_rfl
theorem uJ {t:G1}(h:t∈cN):Ie t=true:=B6.1 Vm t h
theorem pT {t:G1}(h:Ie t=true):qQ t=true:=by
 simp only [Ie,A9] at h
 exact h.1.1.1.1
theorem Lg:(([[102],[103]]:List G1).all Ie)=true:=by kernel_rfl
theorem Vu:(Rc.all fun o=>AR.contains o)=true:=by kernel_rfl
theorem ZZ {o:G1}(h:o∈Rc):o∈AR:=by have:=B6.1 Vu o h;simpa using this
theorem Un:((Ul++AR++[[63]]).all fun t=>!(t==[91])&&!(t==[40]))=true:=by kernel_rfl
theorem Px (t:G1)(h:cu t=true):(t==[91])=false∧(t==[40])=false:=by
 have hm:t∈Ul++AR++[[63]]:=by
  simp only [cu,Bool.or_eq_true,List.contains_iff_mem,beq_iff_eq] at h
  simp only [D3,C3]
  exact h
 have:=B6.1 Un t hm
 simpa using this
theorem Ys {o:G1}(h:o∈AR):cu o=true:=by simp [cu,h]
def HX:Nat→Nat
 |0=>0
 |n+1=>HX n+2
section
variable {l:List D} (hl:l.length≤1000000)
def Xj (l:List D)(e:Nat):Prop:=∃ t a b c,l[e]? = some (tk 3 t a b c)∧cl t=true∧(t==[44])=false
theorem Xj.nx {e:Nat}(h:Xj l e):Nx l e cl:=by
 obtain⟨t,a,b,c,h1,h2,_⟩:=h
 exact⟨t,a,b,c,h1,h2⟩
theorem Lc {w:D→List Tk}{R:D→D→Prop}{h:Nat}(hR:∀ x y,R x y→MR y){e:Nat}(he:Xj l e):∀ (r:List D) (y:D) (j:Nat),(∀ x∈y::r,∀ i,K0 l i (w x)→Nx l (i+(w x).length) cl→Ph nY l i (w x).length (R x) h)→
  K0 l j ((3,[44])::lW w (y::r))→e=j+1+(lW w (y::r)).length→Xk l h j ((y::r).map fun x=>((w x).length,R x)) e
 |[],y,j,hP,ht,hj=>by
  have ht:(∃ a b e,l[j]? = some (tk 3 [44] a b e))∧K0 l (j+1) (w y):=ht
  have hj:e=j+1+(w y).length:=hj
  subst hj
  exact⟨ht.1,hP y (B8 ..) (j+1) ht.2 he.nx,hR y,rfl⟩
 |z::r,y,j,hP,ht,hj=>by
  have ht:(∃ a b e,l[j]? = some (tk 3 [44] a b e))∧K0 l (j+1) (w y++((3,[44])::lW w (z::r))):=ht
  have hj:e=j+1+(w y++((3,[44])::lW w (z::r))).length:=hj
  obtain⟨h1,h2⟩:=ht
  obtain⟨h3,h4⟩:=K4.1 h2
  obtain⟨a,b,c,hc⟩:=h4.1
  refine⟨h1,hP y (B8 ..) (j+1) h3 ⟨[44],a,b,c,hc,rfl⟩,hR y,?_⟩
  refine Lc hR he r z (j+1+(w y).length) (fun x hx=>hP x (C0 _ hx)) h4 ?_
  rw [hj,A7,A0];omega
theorem Jn {R:D→D→Prop}{w:D→List Tk}:∀ {xs ys:List D},F2 (fun (p:Nat×(D→Prop)) y=>p.2 y) (xs.map fun x=>((w x).length,R x)) ys→F2 R xs ys
 |[],_,h=>by cases h;exact .nil
 |x::xs,_,h=>by cases h with|cons h1 h2=>exact .cons h1 (Jn h2)
include hl
theorem Qp {w:D→List Tk}{R:D→D→Prop}{h:Nat}(hR:∀ x y,R x y→MR y){x:D}{r:List D}{i:Nat}(hr:r.length≤900)(hP:∀ x'∈x::r,∀ i,K0 l i (w x')→Nx l (i+(w x').length) cl→Ph nY l i (w x').length (R x') h)
  (ht:K0 l i (lW w (x::r))) (he:Xj l (i+(lW w (x::r)).length)):Ox l i (lW w (x::r)).length (fun ys=>F2 R (x::r) ys) h:=by
 have fin:∀ {es},Xk l h (i+(w x).length) es (i+(lW w (x::r)).length)→es=r.map (fun x=>((w x).length,R x))→Ph nY l i (w x).length (R x) h→Ox l i (lW w (x::r)).length (fun ys=>F2 R (x::r) ys) h:=by
  intro es hE hes H
  have he2:=he
  obtain⟨t,a,b,c,h1,_,h3⟩:=he2
  have:=YP hl (hR x) H hE (by rw [hes,List.length_map];exact hr) ⟨t,a,b,c,h1,h3⟩ rfl
  intro d c p0 p1 p2 hd hd2
  refine (this d c p0 p1 p2 hd hd2).mono fun r' hr'=>?_
  obtain⟨_,⟨y,ys,rfl,hy,hf⟩,e⟩:=hr'
  subst hes
  exact⟨_,.cons hy (Jn hf),e⟩
 cases r with
 |nil=>
  have ht:K0 l i (w x):=ht
  exact fin (es:=[]) rfl rfl (hP x (B8 ..) i ht he.nx)
 |cons z r=>
  have ht:K0 l i (w x++((3,[44])::lW w (z::r))):=ht
  obtain⟨h1,h2⟩:=K4.1 ht
  obtain⟨a,b,c,hc⟩:=h2.1
  refine fin (Lc hR he r z (i+(w x).length) (fun x' hx=>hP x' (C0 _ hx)) h2 ?_) rfl (hP x (B8 ..) i h1 ⟨[44],a,b,c,hc,rfl⟩)
  show i+(w x++((3,[44])::lW w (z::r))).length=_
  rw [A7,A0];omega
omit hl in
theorem IV:∀ (n:Nat) (x:D),fD n x→∀ i,K0 l i (wE n x)→∃ k t a b e,l[i]? = some (tk k t a b e)∧(QL x=false→k≠3∨t=[40]∨t=[123])
 |0,_,h,_,_=>h.elim
 |n+1,x,h,i,ht=>by
  obtain⟨k,t,ar,rfl,hs,ha⟩:=h
  rw [HZ] at ht
  have one:∀ (k':Int) (t':G1) (ws:List Tk),K0 l i ((k',t')::ws)→(QL (E k t ar)=false→k'≠3∨t'=[40]∨t'=[123])→∃ k1 t1 a b e,l[i]? = some (tk k1 t1 a b e)∧(QL (E k t ar)=false→k1≠3∨t1=[40]∨t1=[123]):=by
   intro k' t' ws h1 h2
   obtain⟨⟨a,b,e,h3⟩,_⟩:=h1
   exact⟨_,_,a,b,e,h3,h2⟩
  have arg:∀ (x:D) (ws:List Tk),fD n x→QL (E k t ar)=true→K0 l i (aW (wE n) x++ws)→∃ k1 t1 a b e,l[i]? = some (tk k1 t1 a b e)∧(QL (E k t ar)=false→k1≠3∨t1=[40]∨t1=[123]):=by
   intro x ws hx ho h1
   have h1:=(K4.1 h1).1
   unfold aW at h1
   cases hop:QL x with
   |true=>
    rw [hop] at h1
    obtain⟨⟨a,b,e,h3⟩,_⟩:=h1
    exact⟨_,_,a,b,e,h3,fun h=>by rw [ho] at h;cases h⟩
   |false=>
    rw [hop] at h1
    obtain⟨k1,t1,a,b,e,h2,_⟩:=IV n x hx i h1
    exact⟨k1,t1,a,b,e,h2,fun h=>by rw [ho] at h;cases h⟩
  rcases hs with ⟨rfl,_,hm⟩|⟨rfl,_,hm⟩|⟨rfl,_,hm⟩|⟨rfl,_,hm⟩|⟨rfl,_,hm⟩|⟨rfl,_,hm,hm2⟩|⟨rfl,_,hm,hm2⟩|⟨rfl,_,hm⟩|⟨rfl,_,hm⟩|⟨rfl,_,hm,hm2⟩
  ·exact one 2 t [] ht fun _=> .inl (by decide)
  ·exact one 1 t [] ht fun _=> .inl (by decide)
  ·exact one 3 t _ ht fun h=>by cases h
  ·match ar,hm,ha,arg,ht with
   |[x,y],_,ha,arg,ht=>exact arg x _ (ha x (by simp)) rfl ht
  ·match ar,hm,ha,arg,ht with
   |[x,y,z],_,ha,arg,ht=>exact arg x _ (ha x (by simp)) rfl ht
  ·exact one 3 [123] _ ht fun _=> .inr (.inr rfl)
  ·exact one 3 [123] _ ht fun _=> .inr (.inr rfl)
  ·exact one 1 t _ ht fun _=> .inl (by decide)
  ·exact one 1 t _ ht fun _=> .inl (by decide)
  ·exact one 1 t _ ht fun _=> .inl (by decide)
omit hl in
theorem SK {n:Nat}{x:D}(h:fD n x){i:Nat}(ht:K0 l i (aW (wE n) x)):∃ k t a b e,l[i]? = some (tk k t a b e)∧(k≠3∨t=[40]∨t=[123]):=by
 unfold aW at ht
 cases hop:QL x with
 |true=>
  rw [hop] at ht
  obtain⟨⟨a,b,e,h3⟩,_⟩:=ht
  exact⟨_,_,a,b,e,h3,.inr (.inl rfl)⟩
 |false=>
  rw [hop] at ht
  obtain⟨k1,t1,a,b,e,h2,h3⟩:=IV n x h i ht
  exact⟨k1,t1,a,b,e,h2,h3 hop⟩
def Core (l:List D)(n:Nat)(x:D):Prop:=∀ i,K0 l i (wE n x)→
 (QL x=false→Nx l (i+(wE n x).length) cu→Ph vB l i (wE n x).length (Sm n x) (HX n-1))∧(Nx l (i+(wE n x).length) cl→Ph nY l i (wE n x).length (Sm n x) (HX n))
theorem Pm {n:Nat}{x:D}(hx:fD n x)(H:Core l n x){i:Nat}(ht:K0 l i (aW (wE n) x))(hn:Nx l (i+(aW (wE n) x).length) cu):Ph Dm l i (aW (wE n) x).length (Sm n x) (HX n):=by
 have hf:=SK hx ht
 refine HY (fun y=>eG) hf ?_
 unfold aW at ht hn ⊢
 cases hop:QL x with
 |true=>
  rw [hop] at ht hn
  have ht:(∃ a b e,l[i]? = some (tk 3 [40] a b e))∧K0 l (i+1) (wE n x++[(3,[41])]):=ht
  obtain⟨h1,h2⟩:=ht
  obtain⟨h3,h4⟩:=K4.1 h2
  obtain⟨h5,_⟩:=h4
  have hc:=h5
  obtain⟨a,b,e,h6⟩:=h5
  exact (Ig hl (fun y=>eG) h1 ((H (i+1) h3).2 ⟨[41],a,b,e,h6,rfl⟩) hc).cast (by show 1+(wE n x).length+1=([(3,[40])]++(wE n x++[(3,[41])])).length;simp only [G0];omega)
 |false=>
  rw [hop] at ht hn
  exact ((H i ht).1 hop hn).mono (fun _ h=>h) (by omega)
omit hl in
theorem wD {i m:Nat}{R:D→Prop}{h:Nat}(hl:l.length≤1000000)(hR:∀ y,R y→MR y)(hx:∃ k t a b e,l[i]? = some (tk k t a b e))(hn:Nx l (i+m) cl)(H:Ph Dm l i m R h):Ph nY l i m R (h+1):=
 El hl hR hx hn (uX hR hn hx 10 0 (by decide) (fun t ht=>FW ht _) (tS hR H))
end
end
section
section
variable {l:List D} (hl:l.length≤1000000)
theorem CU {n:Nat}{k:Int}{t:G1}{ar ar':List D}(a b e:Int)(h:F2 (Sm n) ar ar'):Sm (n+1) (E k t ar) (PE k a b e t ar'):=⟨k,t,ar,a,b,e,ar',rfl,rfl,h⟩
theorem Eh {i:Nat}(h:Nx l i cl):Nx l i cu:=h.mono Xv
theorem HJ {i:Nat}{t:G1}{p:G1→Bool}(h:∃ a b e,l[i]? = some (tk 3 t a b e))(hp:p t=true):Nx l i p:=by
 obtain⟨a,b,e,h⟩:=h
 exact⟨t,a,b,e,h,hp⟩
theorem Uf {i:Nat}{k:Int}{t:G1}(h:∃ a b e,l[i]? = some (tk k t a b e)):∃ k t a b e,l[i]? = some (tk k t a b e):=by
 obtain⟨a,b,e,h⟩:=h
 exact⟨k,t,a,b,e,h⟩
theorem Ea {i:Nat}{p:Int→G1→Prop}(h:∃ k t a b e,l[i]? = some (tk k t a b e)∧p k t):∃ k t a b e,l[i]? = some (tk k t a b e):=by
 obtain⟨k,t,a,b,e,h,_⟩:=h
 exact⟨k,t,a,b,e,h⟩
include hl
theorem sO {n i m:Nat}{x:D}(hf:∃ k t a b e,l[i]? = some (tk k t a b e)∧(k≠3∨t=[40]∨t=[123]))(O:Nx l (i+m) cu→Ph vB l i m (Sm (n+1) x) (HX n)) :
  (QL x=false→Nx l (i+m) cu→Ph vB l i m (Sm (n+1) x) (HX (n+1)-1))∧(Nx l (i+m) cl→Ph nY l i m (Sm (n+1) x) (HX (n+1))):=by
 refine⟨fun _ hn=>(O hn).mono (fun _ h=>h) (by simp only [HX];omega),fun hn=>?_⟩
 exact (wD hl (fun y=>eG) (Ea hf) hn (HY (fun y=>eG) hf (O (Eh hn)))).mono (fun _ h=>h) (by simp only [HX];omega)
theorem Wy {n i h:Nat}{t:G1}{x:D}(ht:t∈Oj)(hx:∃ a b e,l[i]? = some (tk 3 t a b e)){m:Nat}(Uq:Ph Dm l (i+1) m (Sm n x) h):Ph Dm l i (1+m) (Sm (n+1) (E 3 t [x])) (h+1):=by
 have hne:(t==[43])=false:=by
  have:=B6.1 Wz t ht
  simpa using this
 refine (Dn hl (fun y=>eG) (C0 _ ht) hx Uq).mono (fun y hy=>?_) (B9 _)
 rw [hne] at hy
 obtain⟨a,b,e,u,rfl,hu⟩:=hy
 exact CU a b e (.cons hu .nil)
theorem Pp {n i m1 m2 h:Nat}{o:G1}{x y:D}(ho:o∈Rc)(hx:∃ k t a b e,l[i]? = some (tk k t a b e))(U1:Ph Dm l i m1 (Sm n x) h)(hop:∃ a b e,l[i+m1]? = some (tk 3 o a b e))(hx2:∃ k t a b e,l[i+m1+1]? = some (tk k t a b e))
  (U2:Ph Dm l (i+m1+1) m2 (Sm n y) h) (hn:Nx l (i+(m1+1+m2)) cl):Ph nY l i (m1+1+m2) (Sm (n+1) (E 4 o [x,y])) (h+1):=by
 have L:=Hn hl (ZZ ho) (fun y=>eG) (fun y=>eG) hx U1 hop hx2 U2 (by rw [show i+m1+1+m2=i+(m1+1+m2) from by omega];exact hn)
 have L2:Ph (Ci 0) l i (m1+1+m2) (Sm (n+1) (E 4 o [x,y])) h:=L.mono (fun z ⟨a,b,e,u,v,hz,hu,hv⟩=>by subst hz;exact CU a b e (.cons hu (.cons hv .nil))) (B9 _)
 exact El hl (fun y=>eG) hx hn L2
theorem Kw {n i m1 m2 m3 h:Nat}{x y z:D}(hx:∃ k t a b e,l[i]? = some (tk k t a b e))(U1:Ph Dm l i m1 (Sm n x) h)(hq:∃ a b e,l[i+m1]? = some (tk 3 [63] a b e))(hx2:∃ k t a b e,l[i+m1+1]? = some (tk k t a b e))
  (U2:Ph Dm l (i+m1+1) m2 (Sm n y) h) (hc:∃ a b e,l[i+m1+1+m2]? = some (tk 3 [58] a b e)) (hx3:∃ k t a b e,l[i+m1+1+m2+1]? = some (tk k t a b e)) (U3:Ph Dm l (i+m1+1+m2+1) m3 (Sm n z) h) (hn:Nx l (i+(m1+1+m2+1+m3)) cl) :
  Ph nY l i (m1+1+m2+1+m3) (Sm (n+1) (E 5 [] [x,y,z])) (h+2):=by
 have L1:Ph (Ci 0) l i m1 (Sm n x) h:=uX (fun y=>eG) (p:=fun t=>t==[63]) (HJ hq rfl) hx 10 0 (by decide) (fun t ht=>by rw [eq_of_beq ht];exact Ru _) (tS (fun y=>eG) U1)
 have E2:=wD hl (fun y=>eG) hx2 (HJ hc rfl) U2
 have E3:=wD hl (fun y=>eG) hx3 (by rw [show i+m1+1+m2+1+m3=i+(m1+1+m2+1+m3) from by omega];exact hn) U3
 refine (Hc hl (fun y=>eG) (fun y=>eG) (fun y=>eG) hx (L1.mono (fun _ h=>h) (Nat.le_succ h)) hq E2 hc E3).mono (fun w hw=>?_) (B9 _)
 obtain⟨a,b,e,u,v,w,rfl,hu,hv,hw⟩:=hw
 exact CU a b e (.cons hu (.cons hv (.cons hw .nil)))
omit hl in
theorem sV {n:Nat}{x:D}(h:fD n x){i:Nat}(ht:K0 l i (aW (wE n) x)):∃ k t a b e,l[i]? = some (tk k t a b e):=Ea (SK h ht)
omit hl in
theorem Tx {R:D→D→Prop}{xs ys:List D}(h:F2 R xs ys){m:Nat}(hm:xs.length≤m):ys.length≤m:=h.length▸hm
theorem Eu {n:Nat}(ih:∀ x,fD n x→Core l n x){ar:List D}(h1:1≤ar.length)(h2:ar.length≤900)(ha:∀ a∈ar,fD n a){i:Nat}(ht:K0 l i (lW (wE n) ar))(he:Xj l (i+(lW (wE n) ar).length)):Ox l i (lW (wE n) ar).length (fun ys=>F2 (Sm n) ar ys) (HX n):=by
 match ar,h1 with
 |x::r,_=>exact Qp hl (fun x y=>eG) (by simp only [A0] at h2;omega) (fun x' hx' j h1 h2=>(ih x' (ha x' hx') j h1).2 h2) ht he
theorem Hb {n:Nat}(ih:∀ x,fD n x→Core l n x):∀ x,fD (n+1) x→Core l (n+1) x:=by
 intro x hx i ht
 have hf:=IV (n+1) x hx i ht
 obtain⟨k,t,ar,rfl,hs,ha⟩:=hx
 rw [HZ] at ht ⊢
 have argU:∀ x∈ar,∀ {i},K0 l i (aW (wE n) x)→Nx l (i+(aW (wE n) x).length) cu→Ph Dm l i (aW (wE n) x).length (Sm n x) (HX n):=fun x hx i h1 h2=>Pm hl (ha x hx) (ih x (ha x hx)) h1 h2
 rcases hs with ⟨rfl,_,hm⟩|⟨rfl,hn,hm⟩|⟨rfl,ho,hm⟩|⟨rfl,ho,hm⟩|⟨rfl,h0,hm⟩|⟨rfl,h0,hm,hm2⟩|⟨rfl,h0,hm,hm2⟩|⟨rfl,hn,hm⟩|⟨rfl,hn,hm⟩|⟨rfl,hn,hm,hm2⟩
 ·match ar,hm,ht with
  |[],_,ht=>
   have ht:(∃ a b e,l[i]? = some (tk 2 t a b e))∧True:=ht
   obtain⟨a,b,e,h1⟩:=ht.1
   exact sO hl (m:=1) ⟨_,_,a,b,e,h1,.inl (by decide)⟩ fun _=>(one_num hl ht.1).mono (fun y ⟨a,b,e,hy⟩=>by subst hy;exact CU a b e .nil) (C4 _)
 ·match ar,hm,ht with
  |[],_,ht=>
   have ht:(∃ a b e,l[i]? = some (tk 1 t a b e))∧True:=ht
   obtain⟨a,b,e,h1⟩:=ht.1
   exact sO hl (m:=1) ⟨_,_,a,b,e,h1,.inl (by decide)⟩ fun hx=>(Mx hl (uJ hn) ht.1 hx Px).mono (fun y ⟨a,b,e,hy⟩=>by subst hy;exact CU a b e .nil) (C4 _)
 ·match ar,hm,ht,ha,argU with
  |[x],_,ht,ha,argU=>
   have ht:(∃ a b e,l[i]? = some (tk 3 t a b e))∧K0 l (i+1) (aW (wE n) x):=ht
   refine⟨fun h=>(by cases h),fun hx=>?_⟩
   have hx:Nx l (i+([(3,t)]++aW (wE n) x).length) cl:=hx
   have e:([((3:Int),t)]++aW (wE n) x).length=1+(aW (wE n) x).length:=by simp only [G0]
   show Ph nY l i ([((3:Int),t)]++aW (wE n) x).length _ _
   rw [e] at hx ⊢
   have Uq:=argU x (B8 ..) ht.2 (Eh (by rw [show i+1+(aW (wE n) x).length=i+(1+(aW (wE n) x).length) from by omega];exact hx))
   exact wD hl (fun y=>eG) (Uf ht.1) hx (Wy hl ho ht.1 Uq)
 ·match ar,hm,ht,ha,argU with
  |[x,y],_,ht,ha,argU=>
   refine⟨fun h=>(by cases h),fun hx=>?_⟩
   have ht:K0 l i (aW (wE n) x++([(3,t)]++aW (wE n) y)):=ht
   have hx:Nx l (i+(aW (wE n) x++([(3,t)]++aW (wE n) y)).length) cl:=hx
   have e:(aW (wE n) x++([((3:Int),t)]++aW (wE n) y)).length=(aW (wE n) x).length+1+(aW (wE n) y).length:=by simp only [G0];omega
   show Ph nY l i (aW (wE n) x++([((3:Int),t)]++aW (wE n) y)).length _ _
   rw [e] at hx ⊢
   obtain⟨h1,h2⟩:=K4.1 ht
   have h2:(∃ a b e,l[i+(aW (wE n) x).length]? = some (tk 3 t a b e))∧K0 l (i+(aW (wE n) x).length+1) (aW (wE n) y):=h2
   have U1:=argU x (by simp) h1 (HJ h2.1 (Ys (ZZ ho)))
   have U2:=argU y (by simp) h2.2 (Eh (by rw [show i+(aW (wE n) x).length+1+(aW (wE n) y).length=i+((aW (wE n) x).length+1+(aW (wE n) y).length) from by omega];exact hx))
   exact (Pp hl ho (sV (ha x (by simp)) h1) U1 h2.1 (sV (ha y (by simp)) h2.2) U2 hx).mono (fun _ h=>h) (by simp only [HX];omega)
 ·match ar,hm,ht,ha,argU with
  |[x,y,z],_,ht,ha,argU=>
   subst h0
   refine⟨fun h=>(by cases h),fun hx=>?_⟩
   have ht:K0 l i (aW (wE n) x++([(3,[63])]++(aW (wE n) y++([(3,[58])]++aW (wE n) z)))):=ht
   have hx:Nx l (i+(aW (wE n) x++([(3,[63])]++(aW (wE n) y++([(3,[58])]++aW (wE n) z)))).length) cl:=hx
   have e:(aW (wE n) x++([((3:Int),([63]:G1))]++(aW (wE n) y++([((3:Int),([58]:G1))]++aW (wE n) z)))).length=(aW (wE n) x).length+1+(aW (wE n) y).length+1+(aW (wE n) z).length:=by simp only [G0];omega
   show Ph nY l i (aW (wE n) x++([((3:Int),([63]:G1))]++(aW (wE n) y++([((3:Int),([58]:G1))]++aW (wE n) z)))).length _ _
   rw [e] at hx ⊢
   obtain⟨h1,h2⟩:=K4.1 ht
   have h2:(∃ a b e,l[i+(aW (wE n) x).length]? = some (tk 3 [63] a b e))∧K0 l (i+(aW (wE n) x).length+1) (aW (wE n) y++([(3,[58])]++aW (wE n) z)):=h2
   obtain⟨h3,h4⟩:=K4.1 h2.2
   have h4:(∃ a b e,l[i+(aW (wE n) x).length+1+(aW (wE n) y).length]? = some (tk 3 [58] a b e))∧K0 l (i+(aW (wE n) x).length+1+(aW (wE n) y).length+1) (aW (wE n) z):=h4
   have U1:=argU x (by simp) h1 (HJ h2.1 rfl)
   have U2:=argU y (by simp) h3 (HJ h4.1 rfl)
   have U3:=argU z (by simp) h4.2 (Eh (by rw [show i+(aW (wE n) x).length+1+(aW (wE n) y).length+1+(aW (wE n) z).length=i+((aW (wE n) x).length+1+(aW (wE n) y).length+1+(aW (wE n) z).length) from by omega];exact hx))
   exact Kw hl (sV (ha x (by simp)) h1) U1 h2.1 (sV (ha y (by simp)) h3) U2 h4.1 (sV (ha z (by simp)) h4.2) U3 hx
 ·subst h0
  have ht:(∃ a b e,l[i]? = some (tk 3 [123] a b e))∧K0 l (i+1) (lW (wE n) ar++[(3,[125])]):=ht
  obtain⟨h1,h2⟩:=ht
  obtain⟨h3,h4⟩:=K4.1 h2
  have h4:=h4.1
  obtain⟨a,b,e,g1⟩:=h1
  obtain⟨a4,b4,e4,g4⟩:=h4
  have L:=Eu hl ih hm (by omega) ha h3 ⟨[125],a4,b4,e4,g4,rfl,rfl⟩
  have O:=(Qz hl ⟨a,b,e,g1⟩ L ⟨a4,b4,e4,g4⟩).mono (R':=Sm (n+1) (E 6 [] ar)) (fun y ⟨a,b,e,ys,hy,hys⟩=>by subst hy;exact CU a b e hys) (B9 _)
  have e:1+(lW (wE n) ar).length+1=([((3:Int),([123]:G1))]++(lW (wE n) ar++[(3,[125])])).length:=by simp only [G0];omega
  exact sO hl (m:=([((3:Int),([123]:G1))]++(lW (wE n) ar++[(3,[125])])).length) ⟨_,_,a,b,_,g1,.inr (.inr rfl)⟩ fun _=>O.cast e
 ·subst h0
  match ar,hm,hm2,ht,ha with
  |x::r,hm,hm2,ht,ha=>
   have ht:(∃ a b e,l[i]? = some (tk 3 [123] a b e))∧K0 l (i+1) (wE n x++([(3,[123])]++(lW (wE n) r++[(3,[125]),(3,[125])]))):=ht
   obtain⟨h1,h2⟩:=ht
   obtain⟨h3,h4⟩:=K4.1 h2
   have h4:(∃ a b e,l[i+1+(wE n x).length]? = some (tk 3 [123] a b e))∧K0 l (i+1+(wE n x).length+1) (lW (wE n) r++[(3,[125]),(3,[125])]):=h4
   obtain⟨h5,h6⟩:=K4.1 h4.2
   have h7:=h6.1
   have h8:=h6.2.1
   obtain⟨a,b,e,g1⟩:=h1
   obtain⟨a4,b4,e4,g4⟩:=h7
   have L:=Eu hl ih (ar:=r) (by simp only [A0] at hm;omega) (by simp only [A0] at hm2;omega) (fun a h=>ha a (C0 _ h)) h5 ⟨[125],a4,b4,e4,g4,rfl,rfl⟩
   have H1:=(ih x (ha x (B8 ..)) (i+1) h3).2 (HJ h4.1 rfl)
   have O:=(Ra hl (fun y=>eG) (fun ys h=>Tx h (by simp only [A0] at hm2;omega)) ⟨a,b,e,g1⟩ H1 h4.1 L ⟨a4,b4,e4,g4⟩ h8).mono (R':=Sm (n+1) (E 7 [] (x::r))) (fun y ⟨a,b,e,u,ys,hy,hu,hys⟩=>by subst hy;exact CU a b e (.cons hu hys)) (B9 _)
   have e:1+(wE n x).length+1+(lW (wE n) r).length+2=([((3:Int),([123]:G1))]++(wE n x++([(3,[123])]++(lW (wE n) r++[(3,[125]),(3,[125])])))).length:=by simp only [G0];omega
   exact sO hl (m:=([((3:Int),([123]:G1))]++(wE n x++([(3,[123])]++(lW (wE n) r++[(3,[125]),(3,[125])])))).length) ⟨_,_,a,b,_,g1,.inr (.inr rfl)⟩ fun _=>O.cast e
 ·match ar,hm,ht,ha with
  |[x],_,ht,ha=>
   have ht:(∃ a b e,l[i]? = some (tk 1 t a b e))∧(∃ a b e,l[i+1]? = some (tk 3 [91] a b e))∧K0 l (i+2) (wE n x++[(3,[93])]):=ht
   obtain⟨h1,h2,h3⟩:=ht
   obtain⟨h4,h5⟩:=K4.1 h3
   obtain⟨a,b,e,g1⟩:=h1
   have H1:=(ih x (ha x (B8 ..)) (i+2) h4).2 (HJ h5.1 rfl)
   have O:=(ZY hl (uJ hn) ⟨a,b,e,g1⟩ (fun y ⟨a,b,e,u,hy,_⟩=>⟨_,_,_,_,_,_,hy,by decide⟩) (OR hl (fun y=>eG) (pT (uJ hn)) ⟨a,b,e,g1⟩ h2 H1 h5.1)).mono (R':=Sm (n+1) (E 8 t [x])) (fun y ⟨a,b,e,u,hy,hu⟩=>by subst hy;exact CU a b e (.cons hu .nil)) (B9 _)
   have e:2+(wE n x).length+1=([((1:Int),t),(3,[91])]++(wE n x++[(3,[93])])).length:=by simp only [G0];omega
   exact sO hl (m:=([((1:Int),t),(3,[91])]++(wE n x++[(3,[93])])).length) ⟨_,_,a,b,_,g1,.inl (by decide)⟩ fun _=>O.cast e
 ·match ar,hm,ht,ha with
  |[x,y],_,ht,ha=>
   have ht:(∃ a b e,l[i]? = some (tk 1 t a b e))∧(∃ a b e,l[i+1]? = some (tk 3 [91] a b e))∧K0 l (i+2) (wE n x++([(3,[58])]++(wE n y++[(3,[93])]))):=ht
   obtain⟨h1,h2,h3⟩:=ht
   obtain⟨h4,h5⟩:=K4.1 h3
   have h5:(∃ a b e,l[i+2+(wE n x).length]? = some (tk 3 [58] a b e))∧K0 l (i+2+(wE n x).length+1) (wE n y++[(3,[93])]):=h5
   obtain⟨h6,h7⟩:=K4.1 h5.2
   obtain⟨a,b,e,g1⟩:=h1
   have H1:=(ih x (ha x (by simp)) (i+2) h4).2 (HJ h5.1 rfl)
   have H2:=(ih y (ha y (by simp)) _ h6).2 (HJ h7.1 rfl)
   have O:=(ZY hl (uJ hn) ⟨a,b,e,g1⟩ (fun y ⟨a,b,e,u,v,hy,_⟩=>⟨_,_,_,_,_,_,hy,by decide⟩) (OT hl (fun y=>eG) (fun y=>eG) (pT (uJ hn)) ⟨a,b,e,g1⟩ h2 H1 h5.1 H2 h7.1)).mono (R':=Sm (n+1) (E 9 t [x,y])) (fun z ⟨a,b,e,u,v,hz,hu,hv⟩=>by subst hz;exact CU a b e (.cons hu (.cons hv .nil))) (B9 _)
   have e:2+(wE n x).length+1+(wE n y).length+1=([((1:Int),t),(3,[91])]++(wE n x++([(3,[58])]++(wE n y++[(3,[93])])))).length:=by simp only [G0];omega
   exact sO hl (m:=([((1:Int),t),(3,[91])]++(wE n x++([(3,[58])]++(wE n y++[(3,[93])])))).length) ⟨_,_,a,b,_,g1,.inl (by decide)⟩ fun _=>O.cast e
 ·have ht:(∃ a b e,l[i]? = some (tk 1 t a b e))∧(∃ a b e,l[i+1]? = some (tk 3 [40] a b e))∧K0 l (i+2) (lW (wE n) ar++[(3,[41])]):=ht
  obtain⟨h1,h2,h3⟩:=ht
  obtain⟨h4,h5⟩:=K4.1 h3
  obtain⟨a,b,e,g1⟩:=h1
  have h5:=h5.1
  obtain⟨a4,b4,e4,g4⟩:=h5
  have L:=Eu hl ih hm (by omega) ha h4 ⟨[41],a4,b4,e4,g4,rfl,rfl⟩
  have O:Ph vB l i (2+(lW (wE n) ar).length+1) (fun y=>∃ a b e ys,y=PE 10 a b e t ys∧F2 (Sm n) ar ys) (HX n):=by
   simp only [JZ,B7,List.not_mem_nil,or_false] at hn
   rcases hn with hn|hn|hn|hn
   ·exact ZX hl (B6.1 Lg t (by rw [hn];simp)) ⟨a,b,e,g1⟩ h2 L ⟨a4,b4,e4,g4⟩
   ·exact ZX hl (B6.1 Lg t (by rw [hn];simp)) ⟨a,b,e,g1⟩ h2 L ⟨a4,b4,e4,g4⟩
   ·exact Fk hl (.inl hn) ⟨a,b,e,g1⟩ h2 L ⟨a4,b4,e4,g4⟩
   ·exact Fk hl (.inr hn) ⟨a,b,e,g1⟩ h2 L ⟨a4,b4,e4,g4⟩
  have O2:=O.mono (R':=Sm (n+1) (E 10 t ar)) (fun y ⟨a,b,e,ys,hy,hys⟩=>by subst hy;exact CU a b e hys) (B9 _)
  have e:2+(lW (wE n) ar).length+1=([((1:Int),t),(3,[40])]++(lW (wE n) ar++[(3,[41])])).length:=by simp only [G0];omega
  exact sO hl (m:=([((1:Int),t),(3,[40])]++(lW (wE n) ar++[(3,[41])])).length) ⟨_,_,a,b,_,g1,.inl (by decide)⟩ fun _=>O2.cast e
theorem core:∀ (n:Nat) (x:D),fD n x→Core l n x
 |0,_,h=>h.elim
 |n+1,x,h=>Hb hl (core n) x h
end
end
section
def SH (n:Nat):Nat:=n+10
abbrev PW:=Nat→D→D→D→D→D→D→D→D→Out
def Pq (F:PW)(l:List D)(i m q:Nat)(R:D→Prop)(h:Nat):Prop:=
 ∀ d c p0 p1 p2:Int,0≤d→d+h≤40→0≤c→c+q≤4000→U (fun n=>F n (.Z 5 l) (i:Int) d c p0 p1 p2 (0:Int)) fun r=>∃ y,R y∧r=(true,[y,.Z 5 l,.int .i64 ((i+m:Nat):Int),.int .i64 d,.int .i64 (c+(q:Int)),.int .i64 p0,.int .i64 p1,.int .i64 p2,.int .i64 0])
def Js (l:List D)(j:Nat):Prop:=∃ k t a b e,l[j]? = some (tk k t a b e)∧(t==dR)=false
theorem J8 {l:List D}{i:Nat}{k:Int}{t:G1}{ws:List Tk}(h:K0 l i ((k,t)::ws)):∃ a b e,l[i]? = some (tk k t a b e):=h.1
theorem K7 {l:List D}{i:Nat}{k:Int}{t:G1}{ws:List Tk}(h:K0 l i ((k,t)::ws)):K0 l (i+1) ws:=h.2
theorem eI {l:List D}{i:Nat}{w:Tk}{ws:List Tk}(h:K0 l i ([w]++ws)):K0 l i (w::ws):=h
theorem Pg {l:List D}{i j:Nat}{ws:List Tk}(h:K0 l i ws)(e:i=j):K0 l j ws:=e▸h
theorem QP {l:List D}{i j:Nat}{x:D}(h:l[i]? = some x)(e:i=j):l[j]? = some x:=e▸h
section
variable {l:List D} (hl:l.length≤1000000)
theorem Xy (hl:l.length≤1000000){x:D}(hx:fD 4 x){i:Nat}(ht:K0 l i (wE 4 x)){k:Int}{t:G1}{a b e:Int}(hn:l[i+(wE 4 x).length]? = some (tk 3 t a b e))(hc:cl t=true):Ph nY l i (wE 4 x).length (fun y=>OE 4 x y) 8:=
 (((core hl 4 x hx) i ht).2 ⟨t,a,b,e,hn,hc⟩).mono (fun _ h=>RS hx h) (B9 _)
theorem Jt {n:Nat}{x y:D}(h:OE n x y):MR y:=by
 obtain⟨k,t,ar,a,b,e,ar',_,rfl⟩:=cD h;exact⟨_,_,_,_,_,_,rfl⟩
theorem aC1 {n:Nat}{x y:D}(h:OE n x y):J6 I5 y=y:=by
 obtain⟨k,t,ar,a,b,e,ar',_,rfl⟩:=cD h;rfl
theorem zT (hl:l.length≤1000000){x:D}(hx:fD 4 x){i:Nat}(ht:K0 l i (wE 4 x)){t:G1}{a b e:Int}(hn:l[i+(wE 4 x).length]? = some (tk 3 t a b e))(hc:cl t=true)(d c p0 p1 p2:Int)(hd:0≤d)(hd2:d≤32) :
  U (fun n=>I7 n (.Z 5 l) (i:Int) d c p0 p1 p2 (0:Int)) fun r=>∃ y,OE 4 x y∧r=(true,[y,.Z 5 l,.int .i64 ((i+(wE 4 x).length:Nat):Int),.int .i64 d,.int .i64 c,.int .i64 p0,.int .i64 p1,.int .i64 p2,.int .i64 0]):=
 Xy hl hx ht (k:=3) hn hc d c p0 p1 p2 hd (by omega)
theorem vC (hl:l.length≤1000000){x:D}(hx:fD 4 x){i:Nat}(ht:K0 l i (pW x))(d c p0 p1 p2:Int)(hd:0≤d)(hd2:d≤32) :
  U (fun n=>R6 n (.Z 5 l) (i:Int) d c p0 p1 p2 (0:Int)) fun r=>∃ y,OE 4 x y∧r=(true,[y,.Z 5 l,.int .i64 ((i+(pW x).length:Nat):Int),.int .i64 d,.int .i64 c,.int .i64 p0,.int .i64 p1,.int .i64 p2,.int .i64 0]):=by
 have ht:K0 l i ((3,[40])::(wE 4 x++[(3,[41])])):=ht
 obtain⟨a,b,e,h1⟩:=J8 ht
 obtain⟨h2,h3⟩:=K4.1 (K7 ht)
 obtain⟨a3,b3,e3,h3⟩:=J8 h3
 have X:=zT hl hx h2 h3 rfl d c p0 p1 p2 hd hd2
 refine U.eq (fun n=>yP n l i d c p0 p1 p2 0) (U.H6 (O7 (d:=d) (c:=c) (p0:=p0) (p1:=p1) (p2:=p2) hl [[40]] (by decide) (P5 h1 rfl)) ?_)
 (intro _ ds h0;cases h0;refine⟨rfl,U.I0 rfl ?_⟩)
 refine U.H6 X ?_
 rintro _ ds ⟨y,hy,h0⟩;cases h0
 obtain⟨k,t,ar,a4,b4,e4,ar',_,rfl⟩:=cD hy
 refine⟨rfl,U.I0 rfl (U.H6 (O7 (d:=d) (c:=c) (p0:=p0) (p1:=p1) (p2:=p2) hl [[41]] (by decide) (P5 h3 rfl)) ?_)⟩
 (intro _ ds h0;cases h0;refine⟨rfl,U.I0 rfl ?_⟩)
 refine U.ret ⟨_,hy,?_⟩
 rw [show i+(pW x).length=i+1+(wE 4 x).length+1 from by simp only [pW,G0];omega]
 rfl
theorem Fw (hl:l.length≤1000000){x:D}(hx:isLeft x){i:Nat}(ht:K0 l i (wE 4 x)){k:Int}{t:G1}{a b e:Int}(hn:l[i+(wE 4 x).length]? = some (tk k t a b e))(hc:(t==[91])=false)(d c p0 p1 p2:Int)(hd:0≤d)(hd2:d≤32) :
  U (fun n=>P8 n (.Z 5 l) (i:Int) d c p0 p1 p2 (0:Int)) fun r=>∃ y,OE 4 x y∧r=(true,[y,.Z 5 l,.int .i64 ((i+(wE 4 x).length:Nat):Int),.int .i64 d,.int .i64 c,.int .i64 p0,.int .i64 p1,.int .i64 p2,.int .i64 0]):=by
 obtain⟨k0,t0,ar,rfl,hn0,hk,ha⟩:=hx
 have ha4:∀ z∈ar,fD 3 z:=fun z hz=>fZ (by decide) (ha z hz)
 have hg:=pT (uJ hn0)
 rcases hk with ⟨rfl,hm⟩|⟨rfl,hm⟩|⟨rfl,hm⟩
 ·have:ar=[]:=E5.1 hm
  subst this
  have ht:K0 l i [(1,t0)]:=ht
  obtain⟨a1,b1,e1,h1⟩:=J8 ht
  have hn:l[i+1]? = some (tk k t a b e):=hn
  refine (MI (d:=d) (c:=c) (p0:=p0) (p1:=p1) (p2:=p2) hl h1 hg hn hc).mono fun r hr=>⟨_,?_,hr⟩
  exact⟨2,t0,[],a1,b1,e1,[],rfl,rfl,.inr (.inl ⟨rfl,hn0,rfl⟩),rfl,fun i h=>absurd h (by simp)⟩
 ·match ar,hm,ha4,ht,hn with
  |[z],_,ha4,ht,hn=>
   have hz:=ha4 z (by simp)
   have ht:K0 l i ((1,t0)::(3,[91])::(wE 3 z++[(3,[93])])):=ht
   obtain⟨a1,b1,e1,h1⟩:=J8 ht
   obtain⟨a2,b2,e2,h2⟩:=J8 (K7 ht)
   obtain⟨h3,h4⟩:=K4.1 (K7 (K7 ht))
   obtain⟨a4,b4,e4,h4⟩:=J8 h4
   have X:=(((core hl 3 z hz) _ h3).2 ⟨_,_,_,_,h4,rfl⟩).mono (R':=fun y=>OE 3 z y) (fun _ h=>RS hz h) (B9 _)
   have L:=OR hl (fun y h=>Jt h) hg ⟨_,_,_,h1⟩ ⟨_,_,_,h2⟩ X ⟨_,_,_,h4⟩ d c p0 p1 p2 hd (by show d+6≤40;omega)
   refine L.mono fun r ⟨y,⟨a5,b5,e5,u,hy,hu⟩,hr⟩=>⟨y,?_,?_⟩
   ·exact⟨8,t0,[z],a5,b5,e5,[u],rfl,hy,.inr (.inr (.inr (.inr (.inr (.inr (.inr (.inl ⟨rfl,hn0,rfl⟩))))))),rfl,fun i h h'=>by
     have:i=0:=by simpa using h
     subst this;exact hu⟩
   ·rw [hr,show i+(wE 4 (E 8 t0 [z])).length=i+(2+(wE 3 z).length+1) from by
     show i+([(1,t0),(3,[91])]++(wE 3 z++[(3,[93])]):List Tk).length=_
     simp only [G0];omega]
 ·match ar,hm,ha4,ht,hn with
  |[z,w],_,ha4,ht,hn=>
   have hz:=ha4 z (by simp)
   have hw:=ha4 w (by simp)
   have ht:K0 l i ((1,t0)::(3,[91])::(wE 3 z++((3,[58])::(wE 3 w++[(3,[93])])))):=ht
   obtain⟨a1,b1,e1,h1⟩:=J8 ht
   obtain⟨a2,b2,e2,h2⟩:=J8 (K7 ht)
   obtain⟨h3,h4⟩:=K4.1 (K7 (K7 ht))
   obtain⟨a4,b4,e4,g4⟩:=J8 h4
   obtain⟨h5,h6⟩:=K4.1 (K7 h4)
   obtain⟨a6,b6,e6,g6⟩:=J8 h6
   have X1:=(((core hl 3 z hz) _ h3).2 ⟨_,_,_,_,g4,rfl⟩).mono (R':=fun y=>OE 3 z y) (fun _ h=>RS hz h) (B9 _)
   have X2:=(((core hl 3 w hw) _ h5).2 ⟨_,_,_,_,g6,rfl⟩).mono (R':=fun y=>OE 3 w y) (fun _ h=>RS hw h) (B9 _)
   have L:=OT hl (fun y h=>Jt h) (fun y h=>Jt h) hg ⟨_,_,_,h1⟩ ⟨_,_,_,h2⟩ X1 ⟨_,_,_,g4⟩ X2 ⟨_,_,_,g6⟩ d c p0 p1 p2 hd (by show d+6≤40;omega)
   refine L.mono fun r ⟨y,⟨a5,b5,e5,u,v,hy,hu,hv⟩,hr⟩=>⟨y,?_,?_⟩
   ·exact⟨9,t0,[z,w],a5,b5,e5,[u,v],rfl,hy,.inr (.inr (.inr (.inr (.inr (.inr (.inr (.inr (.inl ⟨rfl,hn0,rfl⟩)))))))),rfl,fun i h h'=>by
     have:i=0∨i=1:=by simp at h;omega
     rcases this with rfl|rfl
     ·exact hu
     ·exact hv⟩
   ·rw [hr,show i+(wE 4 (E 9 t0 [z,w])).length=i+(2+(wE 3 z).length+1+(wE 3 w).length+1) from by
     show i+([(1,t0),(3,[91])]++(wE 3 z++([(3,[58])]++(wE 3 w++[(3,[93])]))):List Tk).length=_
     simp only [G0];omega]
theorem YY {x:D}(hx:isLeft x){i:Nat}(ht:K0 l i (wE 4 x)):∃ t a b e,l[i]? = some (tk 1 t a b e)∧t∈cN:=by
 obtain⟨k0,t0,ar,rfl,hn0,hk,ha⟩:=hx
 rcases hk with ⟨rfl,hm⟩|⟨rfl,hm⟩|⟨rfl,hm⟩
 ·have ht:K0 l i [(1,t0)]:=ht
  obtain⟨a,b,e,h⟩:=J8 ht
  exact⟨t0,a,b,e,h,hn0⟩
 ·have ht:K0 l i ((1,t0)::_):=ht
  obtain⟨a,b,e,h⟩:=J8 ht
  exact⟨t0,a,b,e,h,hn0⟩
 ·have ht:K0 l i ((1,t0)::_):=ht
  obtain⟨a,b,e,h⟩:=J8 ht
  exact⟨t0,a,b,e,h,hn0⟩
theorem Uq (hl:l.length≤1000000){xs:List D}(h1:1≤xs.length)(h2:xs.length≤10)(hx:∀ x∈xs,fD 4 x){i:Nat}(ht:K0 l i (lW (wE 4) xs)){t:G1}{a b e:Int}(hn:l[i+(lW (wE 4) xs).length]? = some (tk 3 t a b e))(hc:cl t=true)(hc2:(t==[44])=false)(d c p0 p1 p2:Int)(hd:0≤d)(hd2:d≤32) :
  U (fun n=>P2 n (.Z 5 l) (i:Int) d c p0 p1 p2 (0:Int)) fun r=>∃ ys,jI xs ys∧r=(true,[.Z 5 l,.int .i64 ((i+(lW (wE 4) xs).length:Nat):Int),.int .i64 d,.int .i64 c,.int .i64 p0,.int .i64 p1,.int .i64 p2,.int .i64 0,.Z 6 ys]):=by
 have L:=Eu hl (fun x hx=>core hl 4 x hx) h1 (by omega) hx ht ⟨t,a,b,e,hn,hc,hc2⟩ d c p0 p1 p2 hd (by show d+8≤40;omega)
 refine L.mono fun r ⟨ys,hy,hr⟩=>⟨ys,⟨⟨h2,hx⟩,(Jm hy).mono fun x hx' y h=>RS (hx x hx') h⟩,hr⟩
theorem Fa (hl:l.length≤1000000){t:G1}(hg:qQ t=true){es:List D}(h3:es.length=3)(hx:∀ x∈es,fD 4 x){i:Nat}(ht:K0 l i (bR t es))(d c p0 p1 p2:Int)(hd:0≤d)(hd2:d≤32) :
  U (fun n=>bB n (.Z 5 l) ((i+1:Nat):Int) d c p0 p1 p2 (0:Int)) fun r=>∃ ys,jI es ys∧r=(true,[.str t,.Z 5 l,.int .i64 ((i+(bR t es).length:Nat):Int),.int .i64 d,.int .i64 c,.int .i64 p0,.int .i64 p1,.int .i64 p2,.int .i64 0,.Z 6 ys]):=by
 match es,h3,hx,ht with
 |[x,y,z],_,hx,ht=>
  have wx:=hx x (by simp)
  have wy:=hx y (by simp)
  have wz:=hx z (by simp)
  have ht:K0 l i ((1,yF)::(3,[40])::(1,t)::(3,[61])::(wE 4 x++((3,[59])::(wE 4 y++((3,[59])::(1,t)::(3,[61])::(wE 4 z++[(3,[41])])))))):=ht
  have ht:=K7 ht
  obtain⟨a1,b1,e1,h1⟩:=J8 ht
  have ht:=K7 ht
  obtain⟨a2,b2,e2,h2⟩:=J8 ht
  have ht:=K7 ht
  obtain⟨a3,b3,e3,h3⟩:=J8 ht
  obtain⟨hX,ht⟩:=K4.1 (K7 ht)
  obtain⟨a4,b4,e4,h4⟩:=J8 ht
  obtain⟨hY,ht⟩:=K4.1 (K7 ht)
  obtain⟨a5,b5,e5,h5⟩:=J8 ht
  have ht:=K7 ht
  obtain⟨a6,b6,e6,h6⟩:=J8 ht
  have ht:=K7 ht
  obtain⟨a7,b7,e7,h7⟩:=J8 ht
  obtain⟨hZ,ht⟩:=K4.1 (K7 ht)
  obtain⟨a8,b8,e8,h8⟩:=J8 ht
  have eL:(bR t [x,y,z]).length=4+(wE 4 x).length+1+(wE 4 y).length+3+(wE 4 z).length+1:=by
   show ([(1,yF),(3,[40]),(1,t),(3,[61])]++(wE 4 x++([(3,[59])]++(wE 4 y++([(3,[59]),(1,t),(3,[61])]++(wE 4 z++[(3,[41])]))))):List Tk).length=_
   simp only [G0];omega
  have X:=zT hl wx hX h4 rfl d c p0 p1 p2 hd hd2
  have Yq:=zT hl wy hY h5 rfl d c p0 p1 p2 hd hd2
  have Zq:=zT hl wz hZ h8 rfl d c p0 p1 p2 hd hd2
  refine U.eq (fun n=>AY n l _ d c p0 p1 p2 0) (U.H6 (O7 (d:=d) (c:=c) (p0:=p0) (p1:=p1) (p2:=p2) hl [[40]] (by decide) (P5 h1 rfl)) ?_)
  (intro _ ds h0;cases h0;refine⟨rfl,U.I0 rfl ?_⟩)
  refine U.H6 (kB (d:=d) (c:=c) (p0:=p0) (p1:=p1) (p2:=p2) hl h2 hg) ?_
  (intro _ ds h0;cases h0;refine⟨rfl,U.I0 rfl ?_⟩)
  refine U.H6 (O7 (d:=d) (c:=c) (p0:=p0) (p1:=p1) (p2:=p2) hl [[61]] (by decide) (P5 h3 rfl)) ?_
  (intro _ ds h0;cases h0;refine⟨rfl,U.I0 rfl ?_⟩)
  refine U.H6 X ?_
  rintro _ ds ⟨x',hx',h0⟩;cases h0
  obtain⟨k1,t1,r1,q1,q2,q3,s1,_,rfl⟩:=cD hx'
  refine⟨rfl,U.I0 rfl (U.H6 (O7 (d:=d) (c:=c) (p0:=p0) (p1:=p1) (p2:=p2) hl [[59]] (by decide) (P5 h4 rfl)) ?_)⟩
  (intro _ ds h0;cases h0;refine⟨rfl,U.I0 rfl ?_⟩)
  refine U.H6 Yq ?_
  rintro _ ds ⟨y',hy',h0⟩;cases h0
  obtain⟨k2,t2,r2,q4,q5,q6,s2,_,rfl⟩:=cD hy'
  have hw:FM l (i+1+1+1+1+(wE 4 x).length+1+(wE 4 y).length) [[59],t,[61]]:=by
   intro j hj
   have:j=0∨j=1∨j=2:=by simp at hj;omega
   rcases this with rfl|rfl|rfl
   ·exact⟨3,_,_,_,h5,rfl⟩
   ·exact⟨1,_,_,_,h6,rfl⟩
   ·exact⟨3,_,_,_,h7,rfl⟩
  refine⟨rfl,U.I0 rfl (U.H6 (O7 (d:=d) (c:=c) (p0:=p0) (p1:=p1) (p2:=p2) hl [[59],t,[61]] (by simp) hw) ?_)⟩
  (intro _ ds h0;cases h0;refine⟨rfl,U.I0 rfl ?_⟩)
  refine U.H6 Zq ?_
  rintro _ ds ⟨z',hz',h0⟩;cases h0
  obtain⟨k3,t3,r3,q7,q8,q9,s3,_,rfl⟩:=cD hz'
  refine⟨rfl,U.I0 rfl (U.H6 (O7 (d:=d) (c:=c) (p0:=p0) (p1:=p1) (p2:=p2) hl [[41]] (by decide) (P5 h8 rfl)) ?_)⟩
  (intro _ ds h0;cases h0;refine⟨rfl,U.I0 rfl ?_⟩)
  refine U.ret ⟨[PE k1 q1 q2 q3 t1 s1,PE k2 q4 q5 q6 t2 s2,PE k3 q7 q8 q9 t3 s3],⟨⟨by simp,hx⟩,rfl,fun j hj hj'=>?_⟩,?_⟩
  ·have:j=0∨j=1∨j=2:=by simp at hj;omega
   rcases this with rfl|rfl|rfl
   ·exact hx'
   ·exact hy'
   ·exact hz'
  ·rw [eL,show i+(4+(wE 4 x).length+1+(wE 4 y).length+3+(wE 4 z).length+1)=i+1+1+1+1+(wE 4 x).length+1+(wE 4 y).length+1+1+1+(wE 4 z).length+1 from by omega]
   rfl
end
end
section
theorem Vb:(cN.all fun t=>([[59],V9,uI,pB,yF,pK]:List G1).all fun w=>!(t==w))=true:=by kernel_rfl
theorem TB {t w:G1}(h:t∈cN)(hw:([[59],V9,uI,pB,yF,pK]:List G1).contains w=true):(t==w&&(1:Int) !=2)=false:=by
 have:=B6.1 (B6.1 Vb t h) w (List.contains_iff_mem.1 hw)
 rw [D8] at this
 rw [this];rfl
theorem PA {t w:G1}{k:Int}(h:(t==w)=false):(t==w&&k !=2)=false:=by rw [h];rfl
theorem rQ {n:Nat}{x y:D}(h:OS n x y):∃ k i j l t es bs zs es' bs' zs',x=S k t es bs zs∧y=AT k i j l t es' bs' zs':=by
 cases n with
 |zero=>exact h.elim
 |succ n=>obtain⟨k,i,j,l,t,es,bs,zs,es',bs',zs',h1,h2,_⟩:=h;exact⟨k,i,j,l,t,es,bs,zs,es',bs',zs',h1,h2⟩
theorem Rl.snoc {R:D→D→Prop}{xs ys:List D}{x y:D}(h:Rl R xs ys)(hx:R x y):Rl R (xs++[x]) (ys++[y]):=by
 refine⟨by simp [h.1],fun i hi hi'=>?_⟩
 by_cases hl:i<xs.length
 ·rw [F6 hl,F6 (by rw [← h.1];exact hl)]
  exact h.2 i hl (by rw [← h.1];exact hl)
 ·have:i=xs.length:=by rw [A7,C9] at hi;omega
  subst this
  rw [List.getElem_append_right (by omega),List.getElem_append_right (by rw [h.1];exact B9 _)]
  simpa [h.1] using hx
theorem Rl.app {R:D→D→Prop}{xs ys us vs:List D}(h:Rl R xs ys)(h':Rl R us vs):Rl R (xs++us) (ys++vs):=by
 refine⟨by simp [h.1,h'.1],fun i hi hi'=>?_⟩
 by_cases hl:i<xs.length
 ·rw [F6 hl,F6 (by rw [← h.1];exact hl)]
  exact h.2 i hl (by rw [← h.1];exact hl)
 ·rw [List.getElem_append_right (by omega),List.getElem_append_right (by rw [← h.1];omega)]
  have e:=h.1
  rw [A7] at hi
  have:=h'.2 (i-xs.length) (by omega) (by rw [← h'.1];omega)
  simpa only [e] using this
theorem Rl.nil {R:D→D→Prop}:Rl R [] []:=⟨rfl,fun i h=>absurd h (by simp)⟩
theorem Rl.one {R:D→D→Prop}{x y:D}(h:R x y):Rl R [x] [y]:=⟨rfl,fun i hi _=>by
 have:i=0:=by simpa using hi
 subst this;exact h⟩
theorem jI.one {x y:D}(hx:fD 4 x)(h:OE 4 x y):jI [x] [y]:=⟨⟨by simp,fun e he=>by rw [C3.1 he];exact hx⟩,Rl.one h⟩
theorem jI.two {x y x' y':D}(hx:fD 4 x)(hx':fD 4 x')(h:OE 4 x y)(h':OE 4 x' y'):jI [x,x'] [y,y']:=
 ⟨⟨by simp,fun e he=>by
  rcases B7.1 he with rfl|he
  ·exact hx
  ·rw [C3.1 he];exact hx'⟩,Rl.snoc (Rl.one h) h'⟩
theorem jI.nil:jI [] []:=⟨⟨by simp,fun e he=>(by cases he)⟩,Rl.nil⟩
theorem Al {a:List D}{z y:D}:(a++[z]).set (a.length:Int).toNat y=a++[y]:=by
 rw [E1,List.set_append_right _ _ (B9 _),Nat.sub_self];rfl
def aA9 (l:List D)(n:Nat):Prop:=∀ x,sE n x→∀ i,K0 l i (wS n x)→(nT n x=true→Js l (i+(wS n x).length))→Pq (fun m=>L4 m) l i (wS n x).length (qS n x) (OS n x) (SH n)
def sT:List G1:=cN++[V9,uI,pB,yF,pK,[59],[112,49]]
def Ti:List G1:=[fF,dR,dW,QK,lC,iS]
theorem Wm:(sT.all fun t=>Ti.all fun w=>!(t==w))=true:=by kernel_rfl
theorem TJ {t w:G1}(h:t∈sT)(hw:w∈Ti):(t==w)=false:=by
 have:=B6.1 (B6.1 Wm t h) w hw
 rwa [D8] at this
theorem Od {l:List D}:∀ {n:Nat} {x:D},sE n x→∀ {i:Nat},K0 l i (wS n x)→∃ k t a b e,l[i]? = some (tk k t a b e)∧t∈sT
 |0,_,h,_,_=>h.elim
 |n+1,x,h,i,ht=>by
  obtain⟨k,t,es,bs,zs,rfl,he,hb,hz,hs⟩:=h
  rw [Zq] at ht
  have one:∀ (k':Int) (t':G1) (ws:List Tk),K0 l i ((k',t')::ws)→t'∈sT→∃ k t a b e,l[i]? = some (tk k t a b e)∧t∈sT:=by
   intro k' t' ws h1 h2
   obtain⟨a,b,e,h3⟩:=J8 h1
   exact⟨k',t',a,b,e,h3,h2⟩
  rcases hs with ⟨rfl,rfl,rfl,hl,rfl⟩|⟨hk,rfl,⟨l0,e,rfl,hlf⟩,rfl,rfl⟩|⟨rfl,rfl,hl,⟨b,c,rfl,hop⟩,rfl⟩|⟨rfl,rfl,hl,rfl,hz1,hz2⟩|⟨rfl,rfl,hl,hl2,rfl⟩|⟨rfl,ht',hl,rfl,rfl⟩|⟨rfl,rfl,rfl,rfl,rfl⟩
  ·exact one _ _ _ ht (by simp [sT])
  ·have hT:K0 l i (wE 4 l0):=by
    rcases hk with rfl|rfl
    ·exact (K4.1 (show K0 l i (wE 4 l0++_) from ht)).1
    ·exact (K4.1 (show K0 l i (wE 4 l0++_) from ht)).1
   obtain⟨t,a,b,e,h1,h2⟩:=YY hlf hT
   exact⟨1,t,a,b,e,h1,B5 _ h2⟩
  ·exact one _ _ _ ht (by simp [sT])
  ·exact one _ _ _ ht (by simp [sT])
  ·match es,hl,ht with
   |[a,b,c],_,ht=>exact one _ _ _ ht (by simp [sT])
  ·rcases ht' with rfl|rfl
   ·exact one _ _ _ ht (by simp [sT])
   ·exact one _ _ _ ht (by simp [sT])
  ·exact one _ _ _ ht (by simp [sT])
theorem Ws {l:List D}{n:Nat}{x:D}(h:sE n x){i:Nat}(ht:K0 l i (wS n x)):∃ k t a b e,l[i]? = some (tk k t a b e)∧(t==fF&&k !=2)=false:=by
 obtain⟨k,t,a,b,e,h1,h2⟩:=Od h ht
 exact⟨k,t,a,b,e,h1,by rw [TJ h2 (by simp [Ti])];rfl⟩
theorem Wq {l:List D}{n:Nat}{x:D}(h:sE n x){i:Nat}(ht:K0 l i (wS n x)):Js l i:=by
 obtain⟨k,t,a,b,e,h1,h2⟩:=Od h ht
 exact⟨k,t,a,b,e,h1,TJ h2 (by simp [Ti])⟩
def fT:List G1:=ZV++cN++JZ++Oj++[[40],[123]]
def Xi:List G1:=[dR,dW,wA,fF,[41],[91],[58],[59],[44]]
theorem Ur:(fT.all fun t=>Xi.all fun w=>!(t==w))=true:=by kernel_rfl
theorem Em {t w:G1}(h:t∈fT)(hw:w∈Xi):(t==w)=false:=by
 have:=B6.1 (B6.1 Ur t h) w hw
 rwa [D8] at this
theorem wG {t:G1}(h:t∈ZV∨t∈cN∨t∈JZ∨t∈Oj∨t=[40]∨t=[123]):t∈fT:=by
 simp only [fT,D3,B7,List.not_mem_nil,or_false]
 rcases h with h|h|h|h|h|h
 ·exact .inl (.inl (.inl (.inl h)))
 ·exact .inl (.inl (.inl (.inr h)))
 ·exact .inl (.inl (.inr h))
 ·exact .inl (.inr h)
 ·exact .inr (.inl h)
 ·exact .inr (.inr h)
theorem GN {l:List D}:∀ (n:Nat) (x:D),fD n x→∀ i,K0 l i (wE n x)→∃ k t a b e,l[i]? = some (tk k t a b e)∧t∈fT
 |0,_,h,_,_=>h.elim
 |n+1,x,h,i,ht=>by
  obtain⟨k,t,ar,rfl,hs,ha⟩:=h
  rw [HZ] at ht
  have one:∀ (k':Int) (t':G1) (ws:List Tk),K0 l i ((k',t')::ws)→t'∈fT→∃ k1 t1 a b e,l[i]? = some (tk k1 t1 a b e)∧t1∈fT:=by
   intro k' t' ws h1 h2
   obtain⟨a,b,e,h3⟩:=J8 h1
   exact⟨_,_,a,b,e,h3,h2⟩
  have arg:∀ (x:D) (ws:List Tk),fD n x→K0 l i (aW (wE n) x++ws)→∃ k1 t1 a b e,l[i]? = some (tk k1 t1 a b e)∧t1∈fT:=by
   intro x ws hx h1
   have h1:=(K4.1 h1).1
   unfold aW at h1
   cases hop:QL x with
   |true=>
    rw [hop] at h1
    exact one 3 [40] _ h1 (wG (.inr (.inr (.inr (.inr (.inl rfl))))))
   |false=>
    rw [hop] at h1
    exact GN n x hx i h1
  rcases hs with ⟨rfl,hn,hm⟩|⟨rfl,hn,hm⟩|⟨rfl,hn,hm⟩|⟨rfl,_,hm⟩|⟨rfl,_,hm⟩|⟨rfl,_,hm,hm2⟩|⟨rfl,_,hm,hm2⟩|⟨rfl,hn,hm⟩|⟨rfl,hn,hm⟩|⟨rfl,hn,hm,hm2⟩
  ·exact one 2 t [] ht (wG (.inl hn))
  ·exact one 1 t [] ht (wG (.inr (.inl hn)))
  ·exact one 3 t _ ht (wG (.inr (.inr (.inr (.inl hn)))))
  ·match ar,hm,ha,ht with
   |[x,y],_,ha,ht=>exact arg x _ (ha x (by simp)) ht
  ·match ar,hm,ha,ht with
   |[x,y,z],_,ha,ht=>exact arg x _ (ha x (by simp)) ht
  ·exact one 3 [123] _ ht (wG (.inr (.inr (.inr (.inr (.inr rfl))))))
  ·exact one 3 [123] _ ht (wG (.inr (.inr (.inr (.inr (.inr rfl))))))
  ·exact one 1 t _ ht (wG (.inr (.inl hn)))
  ·exact one 1 t _ ht (wG (.inr (.inl hn)))
  ·exact one 1 t _ ht (wG (.inr (.inr (.inl hn))))
theorem ZD {l:List D}{xs:List D}(h1:1≤xs.length)(hx:∀ x∈xs,fD 4 x){i:Nat}(ht:K0 l i (lW (wE 4) xs)):∃ k t a b e,l[i]? = some (tk k t a b e)∧(t==wA&&k !=2)=false∧(t==dR)=false∧(t==dW&&k !=2)=false:=by
 have:∃ k t a b e,l[i]? = some (tk k t a b e)∧t∈fT:=by
  match xs,h1,hx,ht with
  |[x],_,hx,ht=>exact GN 4 x (hx x (by simp)) i ht
  |x::y::r,_,hx,ht=>exact GN 4 x (hx x (by simp)) i (K4.1 (show K0 l i (wE 4 x++_) from ht)).1
 obtain⟨k,t,a,b,e,g1,g2⟩:=this
 refine⟨k,t,a,b,e,g1,?_,Em g2 (by simp [Xi]),?_⟩
 ·rw [Em g2 (by simp [Xi])];rfl
 ·rw [Em g2 (by simp [Xi])];rfl
theorem Ec {l:List D}{n:Nat}{z:D}(h:Xb n z){i:Nat}(ht:K0 l i (iM (wS n) z)):∃ k t a b e,l[i]? = some (tk k t a b e)∧(t==dR)=false∧(t==dW&&k !=2)=false:=by
 obtain⟨es,s0,rfl,hle,he,hs⟩:=h
 have ht:K0 l i ((bif (arm es s0 |>.at_ 0).l.isEmpty then [(1,wA)] else [])++(lW (wE 4) (arm es s0 |>.at_ 0).l++([(3,[58])]++wS n (CF (arm es s0))))):=ht
 rw [Xq] at ht
 cases es with
 |nil=>
  obtain⟨a,b,e,h⟩:=J8 (show K0 l i ((1,wA)::_) from ht)
  exact⟨1,wA,a,b,e,h,rfl,rfl⟩
 |cons e0 er=>
  obtain⟨k,t,a,b,e,g1,_,g2,g3⟩:=ZD (xs:=e0::er) (by simp) he (K4.1 (show K0 l i (lW (wE 4) (e0::er)++_) from ht)).1
  exact⟨k,t,a,b,e,g1,g2,g3⟩
section
variable {l:List D} (hl:l.length≤1000000)
include hl
theorem RZ {e:D}(he:fD 4 e){i:Nat}(ht:K0 l i ([(1,pK)]++(pW e++[(3,[59])])))(k0 k1 k2 k3:Int)(t:G1)(es bs zs:List D)(d c p0 p1 p2:Int)(hd:0≤d)(hd2:d≤32) :
  U (fun n=>Z4 n (.Z 5 l) (i:Int) d c p0 p1 p2 (0:Int) k0 k1 k2 k3 (.str t) (.Z 6 es) (.Z 8 bs) (.Z 9 zs)) fun r=>∃ y,OE 4 e y∧r=(true,[.Z 5 l,.int .i64 ((i+((pW e).length+2):Nat):Int),.int .i64 d,.int .i64 c,.int .i64 p0,.int .i64 p1,.int .i64 p2,.int .i64 0,.int .i64 7,.int .i64 k1,.int .i64 k2,.int .i64 k3,.str t,.Z 6 [y],.Z 8 bs,.Z 9 zs]):=by
 have ht:=eI ht
 obtain⟨a1,b1,e1,h1⟩:=J8 ht
 obtain⟨h2,h3⟩:=K4.1 (K7 ht)
 obtain⟨a3,b3,e3,h3⟩:=J8 h3
 refine U.eq (fun n=>wX n l i d c p0 p1 p2 0 k0 k1 k2 k3 t es bs zs) (U.H6 (O7 (d:=d) (c:=c) (p0:=p0) (p1:=p1) (p2:=p2) hl [pK] (by decide) (P5 h1 rfl)) ?_)
 (intro _ ds h0;cases h0;refine⟨rfl,U.I0 rfl ?_⟩)
 refine U.H6 (vC hl he h2 d c p0 p1 p2 hd hd2) ?_
 rintro _ ds ⟨y,hy,h0⟩;cases h0
 have hy0:=hy
 obtain⟨k4,t4,r4,a4,b4,e4,s4,_,rfl⟩:=cD hy
 refine⟨rfl,U.I0 rfl (U.H6 (O7 (d:=d) (c:=c) (p0:=p0) (p1:=p1) (p2:=p2) hl [[59]] (by decide) (P5 h3 rfl)) ?_)⟩
 (intro _ ds h0;cases h0;refine⟨rfl,U.I0 rfl ?_⟩)
 refine U.ret ⟨_,hy0,?_⟩
 rw [show i+((pW e).length+2)=i+1+(pW e).length+1 from by omega]
 rfl
theorem Wn {k:Int}(hk:k=2∨k=3){x e:D}(hx:isLeft x)(he:fD 4 e){i:Nat}(ht:K0 l i (wE 4 x++([(3,bif k==2 then [61] else [60,61])]++(wE 4 e++[(3,[59])]))))(k1 k2 k3:Int)(d c p0 p1 p2:Int)(hd:0≤d)(hd2:d≤32) :
  U (fun n=>aV n (.Z 5 l) (i:Int) d c p0 p1 p2 (0:Int) (8:Int) k1 k2 k3 (.str []) (.Z 6 []) (.Z 8 []) (.Z 9 [])) fun r=>∃ y z,OE 4 x y∧OE 4 e z∧r=(true,[.Z 5 l,.int .i64 ((i+((wE 4 x).length+(wE 4 e).length+2):Nat):Int),.int .i64 d,.int .i64 c,.int .i64 p0,.int .i64 p1,.int .i64 p2,.int .i64 0,.int .i64 k,.int .i64 k1,.int .i64 k2,.int .i64 k3,.str [],.Z 6 [y,z],.Z 8 [],.Z 9 []]):=by
 obtain⟨h1,ht⟩:=K4.1 ht
 have ht:=eI ht
 obtain⟨a1,b1,e1,h2⟩:=J8 ht
 obtain⟨h3,h4⟩:=K4.1 (K7 ht)
 obtain⟨a4,b4,e4,h4⟩:=J8 h4
 have L:=Fw hl hx h1 h2 (by rcases hk with rfl|rfl<;>rfl) d c p0 p1 p2 hd hd2
 have X:=zT hl he h3 h4 rfl d c p0 p1 p2 hd hd2
 have hlen:i+((wE 4 x).length+(wE 4 e).length+2)=i+(wE 4 x).length+1+(wE 4 e).length+1:=by omega
 have J2:∀ (r1:List D) (y:D),r1=[y,.Z 5 l,.int .i64 ((i+(wE 4 x).length:Nat):Int),.int .i64 d,.int .i64 c,.int .i64 p0,.int .i64 p1,.int .i64 p2,.int .i64 0]→OE 4 x y→U (fun n=>fX n l ((i+(wE 4 x).length+1:Nat):Int) d c p0 p1 p2 0 k k1 k2 k3 [] r1 [] []) fun r=>∃ y z,OE 4 x y∧OE 4 e z∧r=(true,[.Z 5 l,.int .i64 ((i+((wE 4 x).length+(wE 4 e).length+2):Nat):Int),.int .i64 d,.int .i64 c,.int .i64 p0,.int .i64 p1,.int .i64 p2,.int .i64 0,.int .i64 k,.int .i64 k1,.int .i64 k2,.int .i64 k3,.str [],.Z 6 [y,z],.Z 8 [],.Z 9 []]):=by
  intro r1 y hr1 hy
  refine O6 (fun n=>fX.eq_1 n _ _ _ _ _ _ _ _ _ _ _ _ _ _ _ _) (U.H6 X ?_)
  rintro _ ds ⟨z,hz,h0⟩;cases h0
  have hz0:=hz
  obtain⟨k5,t5,r5,a5,b5,e5,s5,_,rfl⟩:=cD hz
  refine⟨rfl,U.I0 rfl (U.H6 (O7 (d:=d) (c:=c) (p0:=p0) (p1:=p1) (p2:=p2) hl [[59]] (by decide) (P5 h4 rfl)) ?_)⟩
  (intro _ ds h0;cases h0;refine⟨rfl,U.I0 rfl ?_⟩)
  refine U.ret ⟨y,_,hy,hz0,?_⟩
  subst hr1
  rw [hlen,show J6 I5 (Y [y,.Z 5 l,.int .i64 ((i+(wE 4 x).length:Nat):Int),.int .i64 d,.int .i64 c,.int .i64 p0,.int .i64 p1,.int .i64 p2,.int .i64 0] 0)=y from aC1 hy]
  rfl
 have J1:∀ (r1:List D) (y:D),r1=[y,.Z 5 l,.int .i64 ((i+(wE 4 x).length:Nat):Int),.int .i64 d,.int .i64 c,.int .i64 p0,.int .i64 p1,.int .i64 p2,.int .i64 0]→OE 4 x y→U (fun n=>dK n false l ((i+(wE 4 x).length:Nat):Int) d c p0 p1 p2 0 8 k1 k2 k3 r1 [] [] [] []) fun r=>∃ y z,OE 4 x y∧OE 4 e z∧r=(true,[.Z 5 l,.int .i64 ((i+((wE 4 x).length+(wE 4 e).length+2):Nat):Int),.int .i64 d,.int .i64 c,.int .i64 p0,.int .i64 p1,.int .i64 p2,.int .i64 0,.int .i64 k,.int .i64 k1,.int .i64 k2,.int .i64 k3,.str [],.Z 6 [y,z],.Z 8 [],.Z 9 []]):=by
  intro r1 y hr1 hy
  refine O6 (fun n=>dK.eq_1 n _ _ _ _ _ _ _ _ _ _ _ _ _ _ _ _ _ _) (U.no rfl ?_)
  rcases hk with rfl|rfl
  ·refine U.H6 (J7 (d:=d) (c:=c) (p0:=p0) (p1:=p1) (p2:=p2) h2 rfl) ?_
   (intro _ ds h0;cases h0;refine⟨rfl,U.I0 rfl ?_⟩)
   refine U.no rfl (U.H6 (O7 (d:=d) (c:=c) (p0:=p0) (p1:=p1) (p2:=p2) hl [[61]] (by decide) (P5 h2 rfl)) ?_)
   (intro _ ds h0;cases h0;refine⟨rfl,U.I0 rfl ?_⟩)
   exact J2 r1 y hr1 hy
  ·refine U.H6 (N6 (d:=d) (c:=c) (p0:=p0) (p1:=p1) (p2:=p2) hl h2 rfl) ?_
   (intro _ ds h0;cases h0;refine⟨rfl,U.I0 rfl ?_⟩)
   refine U.I0 rfl ?_
   exact J2 r1 y hr1 hy
 refine U.eq (fun n=>oY n l i d c p0 p1 p2 0 8 k1 k2 k3 [] [] [] []) (U.H6 L ?_)
 rintro _ ds ⟨y,hy,h0⟩;cases h0
 have hy0:=hy
 obtain⟨k5,t5,r5,a5,b5,e5,s5,hx5,rfl⟩:=cD hy
 refine⟨rfl,U.I0 rfl (U.N9 (fun _=>?_) fun _=>J1 _ _ rfl hy0)⟩
 refine U.H6 (J7 (d:=d) (c:=c) (p0:=p0) (p1:=p1) (p2:=p2) h2 (by rcases hk with rfl|rfl<;>rfl)) ?_
 (intro _ ds h0;cases h0;refine⟨rfl,U.I0 rfl ?_⟩)
 exact J1 _ _ rfl hy0
theorem Mn {e:D}(he:fD 4 e){i:Nat}(ht:K0 l i ([(1,[112,49]),(3,[58])]++([(1,pK)]++(pW e++[(3,[59])]))))(k1 k2 k3:Int)(d c p0 p1 p2:Int)(hd:0≤d)(hd2:d≤32) :
  U (fun n=>aV n (.Z 5 l) (i:Int) d c p0 p1 p2 (0:Int) (8:Int) k1 k2 k3 (.str []) (.Z 6 []) (.Z 8 []) (.Z 9 [])) fun r=>∃ y,OE 4 e y∧r=(true,[.Z 5 l,.int .i64 ((i+((pW e).length+4):Nat):Int),.int .i64 d,.int .i64 c,.int .i64 p0,.int .i64 p1,.int .i64 p2,.int .i64 0,.int .i64 7,.int .i64 k1,.int .i64 k2,.int .i64 k3,.str [112,49],.Z 6 [y],.Z 8 [],.Z 9 []]):=by
 obtain⟨a1,b1,e1,h1⟩:=J8 ht
 obtain⟨a2,b2,e2,h2⟩:=J8 (K7 ht)
 have h3:K0 l (i+1+1) ([(1,pK)]++(pW e++[(3,[59])])):=K7 (K7 ht)
 refine U.eq (fun n=>oY n l i d c p0 p1 p2 0 8 k1 k2 k3 [] [] [] []) (U.H6 (MI (d:=d) (c:=c) (p0:=p0) (p1:=p1) (p2:=p2) hl h1 (by kernel_rfl) h2 rfl) ?_)
 (intro _ ds h0;cases h0;refine⟨rfl,U.I0 rfl ?_⟩)
 refine U.I0 rfl (U.H6 (N6 (d:=d) (c:=c) (p0:=p0) (p1:=p1) (p2:=p2) hl h2 rfl) ?_)
 (intro _ ds h0;cases h0;refine⟨rfl,U.I0 rfl ?_⟩)
 refine O6 (fun n=>dK.eq_1 n _ _ _ _ _ _ _ _ _ _ _ _ _ _ _ _ _ _) (U.I0 rfl (U.H6 (RZ hl he h3 8 k1 k2 k3 [112,49] [] [] [] d c p0 p1 p2 hd hd2) ?_))
 rintro _ ds ⟨y,hy,h0⟩;cases h0
 refine⟨rfl,U.I0 rfl (U.ret ⟨y,hy,?_⟩)⟩
 rw [show i+((pW e).length+4)=i+1+1+((pW e).length+2) from by omega]
 rfl
end
section
variable {l:List D} (hl:l.length≤1000000) {n:Nat} (ih:aA9 l n)
include hl ih
theorem Ee (k1 k2 k3 d p0 p1 p2:Int)(hd:0≤d)(hd2:d+SH n≤40):∀ (bs:List D) (i:Nat) (c:Int) (acc xs:List D),(∀ b∈bs,sE n b)→K0 l i (bs.flatMap (wS n)++[(1,fF)])→bs.length+acc.length≤100→0≤c→c+sQ (qS n) bs≤4000→Rl (OS n) xs acc→
  U (fun m=>X9 m (.Z 5 l) (i:Int) d c p0 p1 p2 (0:Int) (0:Int) (0:Int) (0:Int) (0:Int) (.str []) (1:Int) k1 k2 k3 (.str []) (.Z 6 []) (.Z 8 []) (.Z 9 []) (.Z 6 []) (.Z 8 acc) (.Z 9 [])) fun r=>
   ∃ ys,Rl (OS n) (xs++bs) ys∧r=(false,[.Z 5 l,.int .i64 ((i+((bs.flatMap (wS n)).length+1):Nat):Int),.int .i64 d,.int .i64 (c+(sQ (qS n) bs:Nat)),.int .i64 p0,.int .i64 p1,.int .i64 p2,.int .i64 0,.int .i64 0,.int .i64 0,.int .i64 0,.int .i64 0,.str [],.int .i64 1,.int .i64 k1,.int .i64 k2,.int .i64 k3,.str [],.Z 6 [],.Z 8 [],.Z 9 [],.Z 6 [],.Z 8 ys,.Z 9 []])
 |[],i,c,acc,xs,_,ht,_,hc,hq,hr=>by
  obtain⟨a,b,e,h1⟩:=J8 (show K0 l i [(1,fF)] from ht)
  refine U.eq (fun m=>nU m _ _ _ _ _ _ _ _ _ _ _ _ _ _ _ _ _ _ _ _ _ _ _ _) (U.I0 rfl (U.H6 (N6 (d:=d) (c:=c) (p0:=p0) (p1:=p1) (p2:=p2) hl h1 rfl) ?_))
  (intro _ ds h0;cases h0;refine⟨rfl,U.I0 rfl ?_⟩)
  refine U.no rfl (U.ret ⟨acc,by rw [D5];exact hr,?_⟩)
  show (_:Bool×List D)=(false,[.Z 5 l,.int .i64 ((i+(0+1):Nat):Int),.int .i64 d,.int .i64 (c+((0:Nat):Int)),.int .i64 p0,.int .i64 p1,.int .i64 p2,.int .i64 0,_,_,_,_,_,_,_,_,_,_,_,_,_,_,_,_])
  rw [show c+((0:Nat):Int)=c from by omega]
  rfl
 |b::bs,i,c,acc,xs,hb,ht,hn,hc,hq,hr=>by
  have hq:c+((qS n b+sQ (qS n) bs:Nat):Int)≤4000:=hq
  rw [D9,C1] at ht
  obtain⟨h1,h2⟩:=K4.1 ht
  have hwb:=hb b (B8 ..)
  obtain⟨k,t,a0,b0,e0,h0,hne⟩:=Ws hwb h1
  have hNel:Js l (i+(wS n b).length):=by
   cases bs with
   |nil=>
    obtain⟨a,b,e,h3⟩:=J8 (show K0 l _ [(1,fF)] from h2)
    exact⟨1,fF,a,b,e,h3,rfl⟩
   |cons b2 bs=>
    rw [D9,C1] at h2
    have hw2:=hb b2 (by simp)
    exact Wq hw2 (K4.1 h2).1
  have I:=ih b hwb i h1 (fun _=>hNel) d c p0 p1 p2 hd hd2 hc (by omega)
  refine U.eq (fun m=>nU m _ _ _ _ _ _ _ _ _ _ _ _ _ _ _ _ _ _ _ _ _ _ _ _) (U.I0 rfl (U.H6 (J7 (d:=d) (c:=c) (p0:=p0) (p1:=p1) (p2:=p2) h0 hne) ?_))
  (intro _ ds h0;cases h0;refine⟨rfl,U.I0 rfl ?_⟩)
  refine U.I0 rfl (U.H6 I ?_)
  rintro _ ds ⟨y,hy,h3⟩;cases h3
  obtain⟨k4,i4,j4,l4,t4,es4,bs4,zs4,es5,bs5,zs5,_,rfl⟩:=rQ hy
  simp only [A0] at hn
  refine⟨rfl,U.I0 rfl (U.I0 (B2 (by simp only [L7];omega)) (U.I0 (by rw [E6 (by omega),E6 (by rw [A7,C9];omega)];rfl) ?_))⟩
  rw [Al]
  have K:=Ee k1 k2 k3 d p0 p1 p2 hd hd2 bs (i+(wS n b).length) (c+(qS n b:Int)) (acc++[AT k4 i4 j4 l4 t4 es5 bs5 zs5]) (xs++[b]) (fun x hx=>hb x (C0 _ hx)) h2 (by rw [A7,C9];omega) (by omega) (by omega) (hr.snoc hy)
  refine K.mono fun r ⟨ys,g1,g2⟩=>⟨ys,by rw [C1] at g1;exact g1,?_⟩
  rw [g2,D9,A7,show i+(wS n b).length+((bs.flatMap (wS n)).length+1)=i+((wS n b).length+(bs.flatMap (wS n)).length+1) from by omega]
  show (_:Bool×List D)=(false,[.Z 5 l,.int .i64 ((i+((wS n b).length+(bs.flatMap (wS n)).length+1):Nat):Int),.int .i64 d,.int .i64 (c+((qS n b+sQ (qS n) bs:Nat):Int)),.int .i64 p0,.int .i64 p1,.int .i64 p2,.int .i64 0,_,_,_,_,_,_,_,_,_,_,_,_,_,_,_,_])
  rw [show c+(qS n b:Int)+(sQ (qS n) bs:Int)=c+((qS n b+sQ (qS n) bs:Nat):Int) from by omega]
end
end
end Go.Proofs.YtalibicpmfbieaaGreatDoor
