import Derived.Test.YtalibicpmfbieaaGreatDoorM2
import Derived.Test.YtalibicpmfbieaaGreatDoorM7
import Derived.Test.YtalibicpmfbieaaGreatDoorPaW
namespace Go.Proofs.YtalibicpmfbieaaGreatDoor
open Go.AE
set_option linter.all false
theorem tD {R:D→D→Prop}{k:Nat}{T:Ty}{F:Nat→D→D→Out}{L:Nat→D→D→D→D→Out}{same:Nat→D→D→Out}{sk B2:Sk}
  (hF:∀ n a0 a1,F (n+1) (.Z k a0) (.Z k a1)=(bif ((a0.length:Int) !=(a1.length:Int)) then (some (true,[(.bool false)])) else (AE.D4 (L n (.Z k a1) (.Z k a0) (.int .i64 (a0.length:Int)) (.int .i64 (0:Int))) fun r1=>bif B7 sk r1 then (some (true,[(.bool true)])) else none)))
  (hL:∀ n a0 a1 a2 a3,L (n+1) (.Z k a0) (.Z k a1) (.int .i64 a2) (.int .i64 a3)=(bif (decide (a3<a2)) then (bif (decide (0≤a3)&&decide (a3<(a1.length:Int))) then (bif D7 T&&J3 T (a1[a3.toNat]?.getD D.top) then (bif (decide (0≤a3)&&decide (a3<(a0.length:Int))) then (bif D7 T&&J3 T (a0[a3.toNat]?.getD D.top) then
   (AE.A0 (same n (C0 T (a1[a3.toNat]?.getD D.top)) (C0 T (a0[a3.toNat]?.getD D.top))) fun r1=>bif B7 B2 r1 then (bif (!(Y r1 0).b) then (some (true,[(.bool false)])) else (L n (.Z k a0) (.Z k a1) (.int .i64 a2) (.int .i64 (IntKind.i64.wrap (a3+1))))) else none) else none) else none) else none) else none) else (some (false,[(.Z k a0),(.Z k a1),(.int .i64 a2),(.int .i64 a3)]))))
  (hT:D7 T=true) (hsk:∀ a0 a1 i j,B7 sk [.Z k a0,.Z k a1,.int .i64 i,.int .i64 j]=true) (hosk:∀ b,B7 B2 [.bool b]=true)
  (ht:∀ x y,R x y→C0 T y=y∧J3 T y=true)
  (hs:∀ x y u v,R x y→R u v→U (fun n=>same n y v) fun r=>∃ b,r=(true,[.bool b])∧(b=true↔x=u))
  {xs ys us vs:List D} (h1:Rl R xs ys) (h2:Rl R us vs) (hl:xs.length≤1000) :
  U (fun n=>F n (.Z k ys) (.Z k vs)) fun r=>∃ b,r=(true,[.bool b])∧(b=true↔xs=us):=by
 refine U.eq (fun n=>hF n ys vs) (U.Xv (fun hne=>U.ret ⟨false,rfl,fun h=>(by cases h),fun h=>?_⟩) fun he=>?_)
 ·subst h
  have e:ys.length=vs.length:=by rw [← h1.1,← h2.1]
  rw [e] at hne
  simp at hne
 ·have he:ys.length=vs.length:=by simp at he;omega
  have hu:xs.length=us.length:=by rw [h1.1,he,h2.1]
  have aux:∀ (m j:Nat),xs.length-j=m→j≤xs.length→U (fun n=>L n (.Z k vs) (.Z k ys) (.int .i64 (ys.length:Int)) (.int .i64 (j:Int))) fun r=>
    (r=(true,[.bool false])∧xs.drop j≠us.drop j)∨(∃ q,r=(false,[.Z k vs,.Z k ys,.int .i64 (ys.length:Int),.int .i64 q])∧xs.drop j=us.drop j):=by
   intro m
   induction m with
   |zero=>
    intro j hm hj
    have hy:=h1.1
    refine U.eq (fun n=>hL n _ _ _ _) (U.no (Zk (by omega)) (U.ret (.inr ⟨_,rfl,?_⟩)))
    rw [Yz (by omega),Yz (by omega)]
   |succ m ih=>
    intro j hm hj
    have hy:=h1.1
    have hv:=h2.1
    have j1:j<xs.length:=by omega
    have j2:j<ys.length:=by omega
    have j3:j<us.length:=by omega
    have j4:j<vs.length:=by omega
    have r1:=h1.2 j j1 j2
    have r2:=h2.2 j j3 j4
    refine U.eq (fun n=>hL n _ _ _ _) (U.Xu (Zi (by omega)) (U.Xu (G9 j2) ?_))
    rw [X7 j2,X7 j4,(ht _ _ r1).1,(ht _ _ r2).1]
    refine U.Xu (C6 hT (ht _ _ r1).2) (U.Xu (G9 j4) (U.Xu (C6 hT (ht _ _ r2).2) (U.A0 (hs _ _ _ _ r1 r2) ?_)))
    rintro b ds ⟨c,h,hc⟩
    cases h
    refine⟨rfl,U.Xu (hosk c) (U.Xv (fun hn=>U.ret (.inl ⟨rfl,?_⟩)) fun hn=>?_)⟩
    ·have hn:(!c)=true:=hn
     rw [drop_cons j1,drop_cons j3]
     intro e
     have:=hc.2 (List.cons.inj e).1
     rw [this] at hn;cases hn
    ·have hn:(!c)=false:=hn
     have hc':=hc.1 (by simpa using hn)
     have K:=ih (j+1) (by omega) (by omega)
     rw [← H7 (by omega)] at K
     refine K.mono fun r hr=>?_
     rcases hr with ⟨e1,e2⟩|⟨q,e1,e2⟩
     ·exact .inl ⟨e1,fun e=>e2 (by rw [drop_cons j1,drop_cons j3] at e;exact (List.cons.inj e).2)⟩
     ·exact .inr ⟨q,e1,by rw [drop_cons j1,drop_cons j3,hc',e2]⟩
  refine U.D4 (aux xs.length 0 rfl (Yo _)) (fun ds h=>?_) fun ds h=>?_
  ·rcases h with ⟨h,hn⟩|⟨q,h,_⟩
   ·exact⟨false,h,fun h=>(by cases h),fun h=>absurd h (by simpa using hn)⟩
   ·cases h
  ·rcases h with ⟨h,hn⟩|⟨q,h,hn⟩
   ·cases h
   ·cases h
    exact U.Xu (hsk _ _ _ _) (U.ret ⟨true,rfl,fun _=>by simpa using hn,fun _=>rfl⟩)
theorem not_iff {p:Prop}(h:¬ p):(false=true)↔p:=⟨fun h=>(by cases h),fun x=>absurd x h⟩
theorem pF {α:Type}[BEq α][LawfulBEq α]{a b:α}(h:(a==b)=false):a≠b:=fun e=>by subst e;simp at h
theorem Fz {k k':Int}{t t':Zt}{xs xs':List D}:E k t xs=E k' t' xs'↔k=k'∧t=t'∧xs=xs':=by simp [E]
theorem Gi {d:Nat}{x y:D}(h:OE d x y):C0 B1 y=y∧J3 B1 y=true:=by
 obtain⟨k,t,ar,a,b,e,ar',_,rfl⟩:=Y7 h;exact⟨rfl,rfl⟩
theorem Dk:∀ (d:Nat) (x y u v:D),OE d x y→OE d u v→U (fun n=>fZ n y v) fun r=>∃ b,r=(true,[.bool b])∧(b=true↔x=u):=by
 intro d
 induction d with
 |zero=>intro x y u v h;exact h.elim
 |succ d ih=>
  rintro x y u v ⟨k,t,xs,a,b,c,ys,rfl,rfl,hs,ha⟩ ⟨k',t',us,a',b',c',vs,rfl,rfl,hs',ha'⟩
  have hl:=QK hs
  refine U.eq (fun n=>II n k a b c t ys k' a' b' c' t' vs) ?_
  refine U.Xv (fun e1=>U.Xv (fun e2=>?_) fun e2=>U.ret ⟨false,rfl,not_iff fun e=>pF e2 (Fz.1 e).2.1⟩) fun e1=>U.ret ⟨false,rfl,not_iff fun e=>pF e1 (Fz.1 e).1⟩
  refine U.A0 (tD (R:=OE d) kD iC rfl (fun _ _ _ _=>rfl) (fun _=>rfl) (fun x y h=>Gi h) ih ha ha' (by omega)) ?_
  rintro _ _ ⟨b,h,hb⟩;cases h
  exact⟨rfl,U.Xu rfl (U.ret ⟨b,rfl,by rw [hb,Fz];exact⟨fun h=>⟨eq_of_beq e1,eq_of_beq e2,h⟩,fun h=>h.2.2⟩⟩)⟩
theorem pT {xs ys us vs:List D}(h1:fL xs ys)(h2:fL us vs):U (fun n=>E5 n (.Z 6 ys) (.Z 6 vs)) fun r=>∃ b,r=(true,[.bool b])∧(b=true↔xs=us):=
 tD (R:=OE 4) kD iC rfl (fun _ _ _ _=>rfl) (fun _=>rfl) (fun x y h=>Gi h) (Dk 4) h1.2 h2.2 (by have:=h1.1.1;omega)
theorem UB {k k':Int}{t t':Zt}{es es' bs bs' zs zs':List D}:S k t es bs zs=S k' t' es' bs' zs'↔k=k'∧t=t'∧es=es'∧bs=bs'∧zs=zs':=by simp [S]
theorem An {es es':List D}{k k':Int}{t t':Zt}{fs fs' bs bs' zs zs':List D}:arm es (S k t fs bs zs)=arm es' (S k' t' fs' bs' zs')↔es=es'∧S k t fs bs zs=S k' t' fs' bs' zs':=by simp [arm,S,D.cells]
theorem Gl {d:Nat}{x y:D}(h:OS d x y):C0 B9 y=y∧J3 B9 y=true:=by
 cases d with
 |zero=>exact h.elim
 |succ d=>obtain⟨k,i,j,l,t,es,bs,zs,es',bs',zs',_,rfl,_⟩:=h;exact⟨rfl,rfl⟩
theorem Ey:∀ (d:Nat) (x y u v:D),OS d x y→OS d u v→U (fun n=>cI n y v) fun r=>∃ b,r=(true,[.bool b])∧(b=true↔x=u):=by
 intro d
 induction d with
 |zero=>intro x y u v h;exact h.elim
 |succ d ih=>
  rintro x y u v ⟨k,i,j,l,t,es,bs,zs,es1,bs1,zs1,rfl,rfl,he,lb,lz,hb,hz⟩ ⟨k',i',j',l',t',es',bs',zs',es1',bs1',zs1',rfl,rfl,he',lb',lz',hb',hz'⟩
  refine U.eq (fun n=>IK n k i j l t es1 bs1 zs1 k' i' j' l' t' es1' bs1' zs1') ?_
  refine U.Xv (fun e1=>U.Xv (fun e2=>?_) fun e2=>U.ret ⟨false,rfl,not_iff fun e=>pF e2 (UB.1 e).2.1⟩) fun e1=>U.ret ⟨false,rfl,not_iff fun e=>pF e1 (UB.1 e).1⟩
  refine U.A0 (pT he he') ?_
  rintro _ _ ⟨b,h,h3⟩;cases h
  refine⟨rfl,U.Xu rfl (U.Xv (fun e3=>?_) fun e3=>U.ret ⟨false,rfl,not_iff fun e=>by have:=h3.2 (UB.1 e).2.2.1;subst this;cases e3⟩)⟩
  have e3:=h3.1 e3
  refine U.A0 (tD (R:=OS d) kF iE rfl (fun _ _ _ _=>rfl) (fun _=>rfl) (fun x y h=>Gl h) ih hb hb' (by omega)) ?_
  rintro _ _ ⟨b,h,h4⟩;cases h
  refine⟨rfl,U.Xu rfl (U.Xv (fun e4=>?_) fun e4=>U.ret ⟨false,rfl,not_iff fun e=>by have:=h4.2 (UB.1 e).2.2.2.1;subst this;cases e4⟩)⟩
  have e4:=h4.1 e4
  refine U.A0 (tD (R:=OA (OS d)) sO qF rfl (fun _ _ _ _=>rfl) (fun _=>rfl) (fun x y h=>?_) (fun x y u v h h'=>?_) hz hz' (by omega)) ?_
  ·obtain⟨es,es',k,i,j,l,t,fs,bs,zs,fs',bs',zs',rfl,rfl,_⟩:=h;exact⟨rfl,rfl⟩
  ·obtain⟨es,es1,k,i,j,l,t,fs,bs,zs,fs1,bs1,zs1,rfl,rfl,he,h⟩:=h
   obtain⟨es',es1',k',i',j',l',t',fs',bs',zs',fs1',bs1',zs1',rfl,rfl,he',h'⟩:=h'
   refine U.eq (fun n=>JT n es1 k i j l t fs1 bs1 zs1 es1' k' i' j' l' t' fs1' bs1' zs1') ?_
   refine U.A0 (pT he he') ?_
   rintro _ _ ⟨b,h0,h3⟩;cases h0
   refine⟨rfl,U.Xu rfl (U.Xv (fun e3=>?_) fun e3=>U.ret ⟨false,rfl,not_iff fun e=>by have:=h3.2 (An.1 e).1;subst this;cases e3⟩)⟩
   have e3:=h3.1 e3
   refine U.A0 (ih _ _ _ _ h h') ?_
   rintro _ _ ⟨b,h0,h5⟩;cases h0
   exact⟨rfl,U.Xu rfl (U.ret ⟨b,rfl,by rw [h5,An];exact⟨fun h=>⟨e3,h⟩,fun h=>h.2⟩⟩)⟩
  ·rintro _ _ ⟨b,h,h5⟩;cases h
   exact⟨rfl,U.Xu rfl (U.ret ⟨b,rfl,by rw [h5,UB];exact⟨fun h=>⟨eq_of_beq e1,eq_of_beq e2,e3,e4,h⟩,fun h=>h.2.2.2.2⟩⟩)⟩
theorem ZS {d:Nat}{xs ys us vs:List D}(h1:Rl (OS d) xs ys)(h2:Rl (OS d) us vs)(hl:xs.length≤10):U (fun n=>L5 n (.Z 8 ys) (.Z 8 vs)) fun r=>∃ b,r=(true,[.bool b])∧(b=true↔xs=us):=
 tD (R:=OS d) kF iE rfl (fun _ _ _ _=>rfl) (fun _=>rfl) (fun x y h=>Gl h) (Ey d) h1 h2 (by omega)
theorem Ok {nm nm':Zt}{es es':List D}:D.agg [.str nm,.Z 6 es]=D.agg [.str nm',.Z 6 es']↔nm=nm'∧es=es':=by simp
theorem KG {xs ys us vs:List D}(h1:Rl OC xs ys)(h2:Rl OC us vs)(hl:xs.length≤10):U (fun n=>L4 n (.Z 5 ys) (.Z 5 vs)) fun r=>∃ b,r=(true,[.bool b])∧(b=true↔xs=us):=by
 refine tD (R:=OC) rR oZ rfl (fun _ _ _ _=>rfl) (fun _=>rfl) (fun x y h=>?_) (fun x y u v h h'=>?_) h1 h2 (by omega)
 ·obtain⟨nm,i,j,l,es,es1,rfl,rfl,_⟩:=h;exact⟨rfl,rfl⟩
 ·obtain⟨nm,i,j,l,es,es1,rfl,rfl,he⟩:=h
  obtain⟨nm',i',j',l',es',es1',rfl,rfl,he'⟩:=h'
  refine U.eq (fun n=>IG n nm i j l es1 nm' i' j' l' es1') ?_
  refine U.Xv (fun e1=>?_) fun e1=>U.ret ⟨false,rfl,not_iff fun e=>pF e1 (Ok.1 e).1⟩
  refine U.A0 (pT he he') ?_
  rintro _ _ ⟨b,h,hb⟩;cases h
  exact⟨rfl,U.Xu rfl (U.ret ⟨b,rfl,by rw [hb,Ok];exact⟨fun h=>⟨eq_of_beq e1,h⟩,fun h=>h.2⟩⟩)⟩
theorem vK {k k':Int}{nm nm' ty ty':Zt}{sg sg':Bool}{es es' fs fs' bs bs' its its' els els' ps ps' qs qs':List D}:I k nm ty sg es fs bs its els ps qs=I k' nm' ty' sg' es' fs' bs' its' els' ps' qs'↔
  k=k'∧nm=nm'∧ty=ty'∧sg=sg'∧es=es'∧fs=fs'∧bs=bs'∧its=its'∧els=els'∧ps=ps'∧qs=qs':=by simp [I]
theorem Gj {d:Nat}{x y:D}(h:OI d x y):C0 B0 y=y∧J3 B0 y=true:=by
 cases d with
 |zero=>exact h.elim
 |succ d=>obtain⟨k,i,j,l,nm,ty,sg,es,fs,bs,its,els,ps,qs,es',fs',bs',its',els',ps',qs',_,rfl,_⟩:=h;exact⟨rfl,rfl⟩
theorem Dt:∀ (d:Nat) (x y u v:D),OI d x y→OI d u v→U (fun n=>gA n y v) fun r=>∃ b,r=(true,[.bool b])∧(b=true↔x=u):=by
 intro d
 induction d with
 |zero=>intro x y u v h;exact h.elim
 |succ d ih=>
  rintro x y u v ⟨k,i,j,l,nm,ty,sg,es,fs,bs,its,els,ps,qs,es1,fs1,bs1,its1,els1,ps1,qs1,rfl,rfl,he,hf,lb,li,ll,lp,lq,hb,hi,hel,hp,hq⟩ ⟨k',i',j',l',nm',ty',sg',es',fs',bs',its',els',ps',qs',es1',fs1',bs1',its1',els1',ps1',qs1',rfl,rfl,he',hf',lb',li',ll',lp',lq',hb',hi',hel',hp',hq'⟩
  have hits:∀ {xs ys us vs:List D},Rl (OI d) xs ys→Rl (OI d) us vs→xs.length≤10→U (fun n=>E8 n (.Z 14 ys) (.Z 14 vs)) fun r=>∃ b,r=(true,[.bool b])∧(b=true↔xs=us):=
   fun h1 h2 hl=>tD (R:=OI d) kE iD rfl (fun _ _ _ _=>rfl) (fun _=>rfl) (fun x y h=>Gj h) ih h1 h2 (by omega)
  have no:¬ (I k nm ty sg es fs bs its els ps qs=I k' nm' ty' sg' es' fs' bs' its' els' ps' qs')→U (fun n=>Y9 n true fs1 fs1' its1 its1' els1 els1' ps1 ps1' qs1 qs1') fun r=>∃ b,r=(true,[.bool b])∧(b=true↔I k nm ty sg es fs bs its els ps qs=I k' nm' ty' sg' es' fs' bs' its' els' ps' qs'):=
   fun h=>G4 (fun n=>Y9.eq_1 n _ _ _ _ _ _ _ _ _ _ _) (U.Xu rfl (U.ret ⟨false,rfl,not_iff h⟩))
  refine U.eq (fun n=>IJ n k i j l nm ty sg es1 fs1 bs1 its1 els1 ps1 qs1 k' i' j' l' nm' ty' sg' es1' fs1' bs1' its1' els1' ps1' qs1') ?_
  refine U.Xv (fun e1=>no fun e=>?_) fun e1=>U.Xv (fun e2=>no fun e=>?_) fun e2=>U.Xv (fun e3=>no fun e=>?_) fun e3=>U.Xv (fun e4=>no fun e=>?_) fun e4=>?_
  ·rw [(vK.1 e).1] at e1;simp at e1
  ·rw [(vK.1 e).2.1] at e2;simp at e2
  ·rw [(vK.1 e).2.2.1] at e3;simp at e3
  ·rw [(vK.1 e).2.2.2.1] at e4;simp at e4
  have e1:k=k':=by simpa using e1
  have e2:nm=nm':=by simpa using e2
  have e3:ty=ty':=by simpa using e3
  have e4:sg=sg':=by simpa using e4
  refine U.A0 (pT he he') ?_
  rintro _ _ ⟨b,h,h5⟩;cases h
  refine⟨rfl,U.Xu rfl (U.Xv (fun e5=>no fun e=>?_) fun e5=>?_)⟩
  ·have:=h5.2 (vK.1 e).2.2.2.2.1;subst this;cases e5
  have e5:(!b)=false:=e5
  have e5:=h5.1 (by simpa using e5)
  refine U.A0 (ZS hb hb' lb) ?_
  rintro _ _ ⟨b,h,h6⟩;cases h
  refine⟨rfl,U.Xu rfl ?_⟩
  cases b with
  |false=>exact no fun e=>by have:=h6.2 (vK.1 e).2.2.2.2.2.2.1;cases this
  |true=>
   have e6:=h6.1 rfl
   refine G4 (fun n=>Y9.eq_1 n _ _ _ _ _ _ _ _ _ _ _) (U.no rfl ?_)
   refine U.A0 (pT hf hf') ?_
   rintro _ _ ⟨b,h,h7⟩;cases h
   refine⟨rfl,U.Xu rfl (U.Xv (fun e7=>?_) fun e7=>U.ret ⟨false,rfl,not_iff fun e=>by have:=h7.2 (vK.1 e).2.2.2.2.2.1;subst this;cases e7⟩)⟩
   have e7:=h7.1 e7
   refine U.A0 (hits hi hi' li) ?_
   rintro _ _ ⟨b,h,h8⟩;cases h
   refine⟨rfl,U.Xu rfl (U.Xv (fun e8=>?_) fun e8=>U.ret ⟨false,rfl,not_iff fun e=>by have:=h8.2 (vK.1 e).2.2.2.2.2.2.2.1;subst this;cases e8⟩)⟩
   have e8:=h8.1 e8
   refine U.A0 (hits hel hel' ll) ?_
   rintro _ _ ⟨b,h,h9⟩;cases h
   refine⟨rfl,U.Xu rfl (U.Xv (fun e9=>?_) fun e9=>U.ret ⟨false,rfl,not_iff fun e=>by have:=h9.2 (vK.1 e).2.2.2.2.2.2.2.2.1;subst this;cases e9⟩)⟩
   have e9:=h9.1 e9
   refine U.A0 (KG hp hp' lp) ?_
   rintro _ _ ⟨b,h,h10⟩;cases h
   refine⟨rfl,U.Xu rfl (U.Xv (fun e10=>?_) fun e10=>U.ret ⟨false,rfl,not_iff fun e=>by have:=h10.2 (vK.1 e).2.2.2.2.2.2.2.2.2.1;subst this;cases e10⟩)⟩
   have e10:=h10.1 e10
   refine U.A0 (KG hq hq' lq) ?_
   rintro _ _ ⟨b,h,h11⟩;cases h
   exact⟨rfl,U.Xu rfl (U.ret ⟨b,rfl,by rw [h11,vK];exact⟨fun h=>⟨e1,e2,e3,e4,e5,e7,e6,e8,e9,e10,h⟩,fun h=>h.2.2.2.2.2.2.2.2.2.2⟩⟩)⟩
theorem BJ {d:Nat}{xs ys us vs:List D}(h1:Rl (OI d) xs ys)(h2:Rl (OI d) us vs)(hl:xs.length≤10):U (fun n=>E8 n (.Z 14 ys) (.Z 14 vs)) fun r=>∃ b,r=(true,[.bool b])∧(b=true↔xs=us):=
 tD (R:=OI d) kE iD rfl (fun _ _ _ _=>rfl) (fun _=>rfl) (fun x y h=>Gj h) (Dt d) h1 h2 (by omega)
theorem Af {nm nm':Zt}{ps ps' qs qs' its its':List D}:M nm ps qs its=M nm' ps' qs' its'↔nm=nm'∧ps=ps'∧qs=qs'∧its=its':=by simp [M]
theorem Ec {xs ys us vs:List D}(h1:Rl OM xs ys)(h2:Rl OM us vs)(hl:xs.length≤10):U (fun n=>nL n (.Z 7 ys) (.Z 7 vs)) fun r=>∃ b,r=(true,[.bool b])∧(b=true↔xs=us):=by
 refine U.eq (fun n=>UJ n ys vs) (U.A0 (tD (R:=OM) qG oI rfl (fun _ _ _ _=>rfl) (fun _=>rfl) (fun x y h=>?_) (fun x y u v h h'=>?_) h1 h2 (by omega)) ?_)
 ·obtain⟨nm,i,j,l,ps,qs,its,ps',qs',its',rfl,rfl,_⟩:=h;exact⟨rfl,rfl⟩
 ·obtain⟨nm,i,j,l,ps,qs,its,ps1,qs1,its1,rfl,rfl,_,lp,lq,li,hp,hq,hi⟩:=h
  obtain⟨nm',i',j',l',ps',qs',its',ps1',qs1',its1',rfl,rfl,_,lp',lq',li',hp',hq',hi'⟩:=h'
  refine U.eq (fun n=>CM n nm i j l ps1 qs1 its1 nm' i' j' l' ps1' qs1' its1') ?_
  refine U.Xv (fun e1=>?_) fun e1=>U.ret ⟨false,rfl,not_iff fun e=>pF e1 (Af.1 e).1⟩
  refine U.A0 (BJ hp hp' lp) ?_
  rintro _ _ ⟨b,h,h2⟩;cases h
  refine⟨rfl,U.Xu rfl (U.Xv (fun e2=>?_) fun e2=>U.ret ⟨false,rfl,not_iff fun e=>by have:=h2.2 (Af.1 e).2.1;subst this;cases e2⟩)⟩
  have e2:=h2.1 e2
  refine U.A0 (BJ hq hq' lq) ?_
  rintro _ _ ⟨b,h,h3⟩;cases h
  refine⟨rfl,U.Xu rfl (U.Xv (fun e3=>?_) fun e3=>U.ret ⟨false,rfl,not_iff fun e=>by have:=h3.2 (Af.1 e).2.2.1;subst this;cases e3⟩)⟩
  have e3:=h3.1 e3
  refine U.A0 (BJ hi hi' li) ?_
  rintro _ _ ⟨b,h,h4⟩;cases h
  exact⟨rfl,U.Xu rfl (U.ret ⟨b,rfl,by rw [h4,Af];exact⟨fun h=>⟨eq_of_beq e1,e2,e3,h⟩,fun h=>h.2.2.2⟩⟩)⟩
 ·rintro _ _ ⟨b,h,hb⟩;cases h
  exact⟨rfl,U.Xu rfl (U.ret ⟨b,rfl,hb⟩)⟩
def Pe (n:Nat):List Zt:=(List.range n).map fun k=>[109,48+UInt8.ofNat k]
theorem Mv:∀ k:Nat,k≤8→oQ [109,48+UInt8.ofNat k]=true:=by decide +kernel
theorem Ri:∀ j:Nat,j≤8→∀ k:Nat,k≤8→j<k→(([109,48+UInt8.ofNat j]:Zt)==[109,48+UInt8.ofNat k])=false:=by decide +kernel
theorem Mc {its:List Tk}:∀ (_:gL its) (f:Bool),(MN f its).length≤14*its.length:=by
 induction its with
 |nil=>intro _ f;exact Yo _
 |cons p r ih=>
  intro h f
  have hr:gL r:=fun q hq=>h q (Yk _ hq)
  rcases h p (Yi ..) with rfl|hp
  ·have:=ih hr true
   show (10::MN true r).length≤_
   simp only [Xw];omega
  ·have h2:=Yg.1 ZW p hp
   simp only [Xz] at h2
   have h3:=Yd h2.1
   have:=ih hr false
   rw [show MN f (p::r)=(bif f then [] else [32])++(p.2++MN false r) from by rw [MN,Cg hp];rfl]
   have:(bif f then [] else [32]:Zt).length≤1:=by cases f<;>simp
   simp only [Xx,Xw];omega
theorem Bm {nms:List Zt}{ms:List D}(hg:Ti nms ms)(hT:∀ nm∈nms,(1,nm)∈qP):Ly (ms.flatMap yM) (ms.flatMap wM):=by
 refine Ly.flat fun x hx=>?_
 obtain⟨k,hk,rfl⟩:=List.getElem_of_mem hx
 have hk':k<nms.length:=by rw [hg.1];exact hk
 exact Vx (hT _ (Yr hk')) (hg.2.1 k hk hk').1
theorem Ue {ts:List D}(h:Lj ts):ts.all TC=true:=Yg.2 fun y hy=>by
 obtain⟨k,t,a,b,c,rfl⟩:=h y hy
 rfl
theorem Mb {sk:Sk}{e:Int}{ts:List D}{xs:List D}(h:Lj ts):D2 sk [.agg xs,.int .i64 e,.Z 5 ts]=true:=by simp [D2,Ue h]
theorem Ie {nms:List Zt}{ms:List D}(hn:ms.length≤6)(hg:Ti nms ms)(hT:∀ nm∈nms,(1,nm)∈qP)(hw:(ms.flatMap wM).length≤12000)(hq:sQ qM ms≤4000) :
  U (fun n=>kN n (.str (PI (ms.flatMap yM) (true,[])).2)) fun r=>∃ ys ts,Rl OM ms ys∧r=(true,[.Z 7 ys,.Z 5 ts,.agg [.int .i64 0,.int .i64 0,.int .i64 0],.int .i64 0]):=by
 obtain⟨h1,h2,h3⟩:=Bm hg hT
 have hl:(PI (ms.flatMap yM) (true,[])).2.length≤900000:=by
  have:=Mc h3 true
  rw [Ai h3 true [] (fun h=>by cases h)]
  show (MN true (ms.flatMap yM)).length≤900000
  omega
 obtain⟨ts,hm,hL⟩:=Mn h3 (by rw [h1];exact hw) hl
 rw [h1] at hm
 have ht:=Pb hm []
 have hln:=ZB hm
 have hT2:=Bn hm
 have P:=Dp (l:=ts) (by omega) hn hg ht hln.symm hq
 generalize (PI (ms.flatMap yM) (true,[])).2=s at hL
 refine U.eq (fun n=>NO n s) (U.A0 hL ?_)
 intro _ ds h;cases h
 refine⟨rfl,U.Xu (C6 rfl (Mb hT2)) (U.no rfl (U.A0 P ?_))⟩
 rintro _ ds ⟨ys,hy,h⟩;cases h
 exact⟨rfl,U.Xu rfl (U.ret ⟨ys,ts,hy,rfl⟩)⟩
theorem Fs {b:List D}(hb:Bytes b):U (fun n=>iQ n (.Z 1 b)) fun r=>∃ b',r=(true,[.Z 1 b'])∧Bytes b'∧b'.length≤300:=by
 refine U.eq (fun n=>LG n b) (U.Xv (fun h=>?_) fun h=>?_)
 ·have h:=Zj h
  refine U.Xu (by rw [Zi (show (300:Int)≤(b.length:Int) by omega)];rfl) (U.ret ⟨_,rfl,?_,?_⟩)
  ·intro x hx
   exact hb x (List.mem_of_mem_drop (List.mem_of_mem_take hx))
  ·rw [Zc];exact Nat.min_le_left _ _
 ·have h:=Zl h
  exact U.ret ⟨b,rfl,hb,by omega⟩
theorem SJ (n:Nat):(Pe n).length=n:=by simp [Pe]
theorem JH {n k:Nat}(h:k<(Pe n).length):(Pe n)[k]=[109,48+UInt8.ofNat k]:=by simp [Pe]
theorem Mu {n:Nat}(hn:n≤9):∀ nm∈Pe n,(1,nm)∈qP:=fun nm h=>by
 obtain⟨k,hk,rfl⟩:=List.mem_map.1 h
 exact Ug (List.mem_map.2 ⟨k,List.mem_range.2 (by have:=List.mem_range.1 hk;omega),rfl⟩)
theorem Vu {ms:List D}(hn:ms.length≤3)(h:Fw ms):Ti (Pe ms.length) ms:=by
 refine⟨SJ _,fun k hk hk'=>?_,fun j k hj hk hjk=>?_⟩
 ·rw [JH]
  exact⟨h k hk,Mv k (by omega)⟩
 ·rw [JH,JH]
  rw [SJ] at hj hk
  exact Ri j (by omega) k (by omega) hjk
theorem Vt {ms:List D}(hn:ms.length≤3)(h:Fw ms):Xl (Pe ms.length) ms:=by
 refine⟨SJ _,fun k hk hk'=>?_⟩
 rw [JH]
 exact⟨h k hk,Ms k (by omega)⟩
theorem Kx {b:List D}(hb:Bytes b)(hl:b.length≤300):U (fun n=>kM n (.Z 1 b)) fun r=>∃ ms ys,r=(true,[.Z 7 ys])∧ms≠[]∧ms.length≤3∧Fw ms∧(ms.flatMap wM).length≤3963∧Rl OM ms ys:=by
 refine U.eq (fun n=>NN n b) (U.A0 (Ky hb hl) ?_)
 rintro _ _ ⟨ms,h,hne,hn,hx,hs⟩;cases h
 refine⟨rfl,U.Xu rfl (U.A0 (Kv (ms:=ms) (by omega) fun m hm=>?_) ?_)⟩
 ·obtain⟨k,hk,rfl⟩:=List.getElem_of_mem hm
  exact⟨_,by simp,hx k hk⟩
 rintro _ _ ⟨ys,h,hO⟩;cases h
 exact⟨rfl,U.Xu rfl (U.ret ⟨ms,ys,rfl,hne,hn,hx,by rw [uC wM ms];exact hs,hO⟩)⟩
theorem GG {b:List D}(hb:Bytes b):U (fun n=>cX n (.Z 1 b)) fun r=>r=(true,[.bool true]):=by
 refine U.eq (fun n=>zI n b) (U.A0 Lm ?_)
 intro _ _ h;cases h
 refine⟨rfl,U.Xu rfl (U.no rfl (U.A0 (Fs hb) ?_))⟩
 rintro _ _ ⟨b',h,hb',hl⟩;cases h
 refine⟨rfl,U.Xu rfl (U.A0 (Kx hb' hl) ?_)⟩
 rintro _ _ ⟨ms,ys,h,hne,hn,hx,hw,hO⟩;cases h
 have hg:=Vu hn hx
 have hN:=Vt hn hx
 have hT:=Mu (n:=ms.length) (by omega)
 have hQ:=Uw hg
 have hLy:=Bm hg hT
 have hLen:14*(ms.flatMap yM).length≤68000000000:=by have:=hLy.2.1;omega
 have T1:=XA (by omega) hN hO hLen
 have R:=Ie (by omega) hg hT (by omega) (by omega)
 have T2:=fun ys' (h:Rl OM ms ys')=>XA (by omega) hN h hLen
 clear hLy
 generalize (PI (ms.flatMap yM) (true,[])).2=s at T1 R T2
 refine⟨rfl,U.Xu rfl (U.A0 T1 ?_)⟩
 intro _ _ h;cases h
 refine⟨rfl,U.Xu rfl (U.A0 R ?_)⟩
 rintro _ _ ⟨ys',ts,hO',h⟩;cases h
 refine⟨rfl,U.Xu rfl (U.Xu rfl (U.A0 (Ec hO' hO (by omega)) ?_))⟩
 rintro _ _ ⟨b,h,hb⟩;cases h
 have hb:b=true:=hb.2 rfl
 subst hb
 refine⟨rfl,U.Xu rfl (U.Xu rfl (U.A0 (T2 ys' hO') ?_))⟩
 intro _ _ h;cases h
 refine⟨rfl,U.Xu rfl (U.ret ?_)⟩
 show (true,[D.bool (s==s)])=_
 rw [Zm]
end Go.Proofs.YtalibicpmfbieaaGreatDoor
