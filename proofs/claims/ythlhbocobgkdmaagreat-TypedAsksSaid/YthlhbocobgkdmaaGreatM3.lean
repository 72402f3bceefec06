import Derived.Test.YthlhbocobgkdmaaGreatM2
import Derived.Test.YthlhbocobgkdmaaGreatEng
namespace Go.Proofs.YthlhbocobgkdmaaGreat
open Go.AE
set_option linter.all false
theorem ND (x:Nat):∃ z:Int,U (fun n=>Y3 n (.int .u64 (x:Int))) fun r=>r=(true,[.int .i64 z]):=⟨_,U.eq (fun n=>sS n _) (U.ret rfl)⟩
theorem Cs (x:Nat×Nat):∃ ws,vz x = .agg [.int .i64 (x.1:Int),.Z 1 ws]:=by
 rcases dN x with ⟨e1,e⟩|⟨_,e⟩
 ·exact⟨[],by rw [e,e1];rfl⟩
 ·exact⟨_,e⟩
theorem sK {c:Bool}:Wf (1,c.toNat)∧vz (1,c.toNat)=vec 1 c.toNat:=⟨⟨(show 1≤128 by decide),Nat.lt_of_le_of_lt (Bool.toNat_le _) (show 1<2 ^ 1 by decide)⟩,gT (B9 1)⟩
theorem Tx (op:Int){p:Nat×Nat}(hp:Wf p):∃ s,Wf s∧∃ e:Int,U (fun n=>vM n op (vz p)) fun r=>r=(true,[vz s,.int .i64 e]):=by
 by_cases h0:op<0
 ·obtain⟨ws,e1⟩:=Cs p
  refine⟨(0,0),Wf.zero,1,?_⟩
  rw [e1]
  exact U.eq (fun n=>kN n ..) (U.H5 (E4 h0) (U.ret rfl))
 by_cases h5:op>5
 ·obtain⟨ws,e1⟩:=Cs p
  refine⟨(0,0),Wf.zero,1,?_⟩
  rw [e1]
  exact U.eq (fun n=>kN n ..) (U.no (E6 h0) (U.H5 (E4 h5) (U.ret rfl)))
 by_cases hz:p.1=0
 ·obtain⟨ws,e1⟩:=Cs p
  refine⟨(0,0),Wf.zero,2,?_⟩
  rw [e1]
  exact U.eq (fun n=>kN n ..) (U.no (E6 h0) (U.no (E6 h5) (U.H5 (by rw [hz];rfl) (U.ret rfl))))
 obtain⟨w,a⟩:=p
 have h1:1≤w:=by have:¬ w=0:=hz;omega
 have h2:w≤128:=hp.1
 have ha:a<2 ^ w:=hp.2
 have hpw:=Nat.two_pow_pos w
 have hn:2 ^ w-1-a<2 ^ w:=by omega
 rw [gT h1]
 have nt:=NA (w:=w) (a:=a) h1 h2 ha
 obtain⟨c,an⟩:=JT (a:=a) h2
 obtain⟨c2,an2⟩:=JT (a:=2 ^ w-1-a) h2
 have cs:op=0∨op=1∨op=2∨op=3∨op=4∨op=5:=by omega
 rcases cs with rfl|rfl|rfl|rfl|rfl|rfl
 ·refine⟨(w,2 ^ w-1-a),⟨h2,hn⟩,0,?_⟩
  rw [gT h1]
  exact U.eq (fun n=>kN n ..) (U.no rfl (U.no rfl (U.no (lA h1) (U.H5 rfl (H4 nt (U.H5 rfl (U.ret rfl)))))))
 ·refine⟨(w,(2 ^ w-a) % 2 ^ w),⟨h2,Nat.mod_lt _ hpw⟩,0,?_⟩
  rw [gT h1]
  exact U.eq (fun n=>kN n ..) (U.no rfl (U.no rfl (U.no (lA h1) (U.no rfl (U.H5 rfl (H4 (MX h1 h2 ha) (U.H5 rfl (U.ret rfl))))))))
 ·refine⟨(1,(!c2).toNat),sK.1,0,?_⟩
  rw [sK.2]
  exact U.eq (fun n=>kN n ..) (U.no rfl (U.no rfl (U.no (lA h1) (U.no rfl (U.no rfl (U.H5 rfl (H4 nt (U.H5 rfl (H4 an2 (U.H5 rfl (H4 (kT _) (U.H5 rfl (U.ret rfl)))))))))))))
 ·refine⟨(1,c.toNat),sK.1,0,?_⟩
  rw [sK.2]
  exact U.eq (fun n=>kN n ..) (U.no rfl (U.no rfl (U.no (lA h1) (U.no rfl (U.no rfl (U.no rfl (U.H5 rfl (H4 an (U.H5 rfl (H4 (kT _) (U.H5 rfl (U.ret rfl))))))))))))
 ·have par:∃ z:Int,∃ ds,U (fun n=>kM n (0:Int) (.Z 1 (I9 w a)) ((I9 w a).length:Int) (0:Int) (0:Int) (.Z 1 [])) fun r=>r=(false,.int .i64 z::ds)∧I7 kM.sk (.int .i64 z::ds)=true:=by
   by_cases h:w≤64
   ·rw [U3 h]
    obtain⟨z,e⟩:=ND a
    exact⟨_,_,U.eq (fun n=>oP n ..) (U.H5 rfl (U.H5 rfl (U.H5 rfl (H4 e (U.H5 rfl (U.eq (fun n=>oP n ..) (U.no rfl (U.ret ⟨rfl,rfl⟩))))))))⟩
   ·rw [V8 (by omega)]
    obtain⟨z,e⟩:=ND (a % J1)
    obtain⟨z2,e2⟩:=ND (a / J1)
    exact⟨_,_,U.eq (fun n=>oP n ..) (U.H5 rfl (U.H5 rfl (U.H5 rfl (H4 e (U.H5 rfl (U.eq (fun n=>oP n ..) (U.H5 rfl (U.H5 rfl (U.H5 rfl (H4 e2 (U.H5 rfl (U.eq (fun n=>oP n ..) (U.no rfl (U.ret ⟨rfl,rfl⟩))))))))))))))⟩
  obtain⟨z,ds,e⟩:=par
  refine⟨(1,((z.tmod 2)==1).toNat),sK.1,0,?_⟩
  rw [sK.2]
  refine U.eq (fun n=>kN n ..) (U.no rfl (U.no rfl (U.no (lA h1) (U.no rfl (U.no rfl (U.no rfl (U.no rfl (U.no rfl ?_))))))))
  refine U.J2 e (fun ds' h=>by cases h.1) fun ds' h=>?_
  obtain⟨h3,h4⟩:=h
  cases h3
  exact U.H5 h4 (H4 (kT _) (U.H5 rfl (U.ret rfl)))
 ·refine⟨(1,(!c).toNat),sK.1,0,?_⟩
  rw [sK.2]
  exact U.eq (fun n=>kN n ..) (U.no rfl (U.no rfl (U.no (lA h1) (U.no rfl (U.no rfl (U.no rfl (U.no rfl (U.H5 rfl (H4 an (U.H5 rfl (H4 (kT _) (U.H5 rfl (U.ret rfl)))))))))))))
theorem Hx (lo k:Int){p:Nat×Nat}(hp:Wf p):∃ s,Wf s∧∃ e:Int,U (fun n=>kL n (vz p) lo k) fun r=>r=(true,[vz s,.int .i64 e]):=by
 obtain⟨ws,e1⟩:=Cs p
 have bad:∀ {k' lo' w':Int} {ws:List D},U (fun n=>jI n true k' lo' w' ws) fun r=>r=(true,[vz (0,0),.int .i64 3]):=fun {_ _ _ _}=>M1 (fun n=>jI.eq_1 n ..) (U.H5 rfl (U.ret rfl))
 by_cases h0:lo<0
 ·refine⟨(0,0),Wf.zero,3,?_⟩
  rw [e1]
  exact U.eq (fun n=>oO n ..) (U.H5 (E4 h0) bad)
 by_cases hk:k<1
 ·refine⟨(0,0),Wf.zero,3,?_⟩
  rw [e1]
  exact U.eq (fun n=>oO n ..) (U.no (E6 h0) (U.H5 (E4 hk) bad))
 by_cases hw:k>(p.1:Int)
 ·refine⟨(0,0),Wf.zero,3,?_⟩
  rw [e1]
  exact U.eq (fun n=>oO n ..) (U.no (E6 h0) (U.no (E6 hk) (U.H5 (E4 hw) bad)))
 have hp1:=hp.1
 have wr:IntKind.i64.wrap ((p.1:Int)-k)=(p.1:Int)-k:=N8 (by omega) (by omega)
 by_cases hl:lo>(p.1:Int)-k
 ·refine⟨(0,0),Wf.zero,3,?_⟩
  rw [e1]
  refine U.eq (fun n=>oO n ..) (U.no (E6 h0) (U.no (E6 hk) (U.no (E6 hw) ?_)))
  rw [wr,E4 hl]
  exact bad
 obtain⟨w,a⟩:=p
 have h1:1≤w:=by have hw:¬ k>(w:Int):=hw;omega
 have s:=Mp (w:=w) (a:=a) (lo:=lo.toNat) (k:=k.toNat) hp.1 hp.2 (by omega) (by have hl:¬ lo>(w:Int)-k:=hl;omega)
 rw [show ((lo.toNat:Nat):Int)=lo by omega,show ((k.toNat:Nat):Int)=k by omega] at s
 refine⟨(k.toNat,gG (Ou lo.toNat a) k.toNat),⟨by have hw:¬ k>(w:Int):=hw;have:=hp.1;show k.toNat≤128;omega,mJ _ _⟩,0,?_⟩
 rw [gT h1,gT (by omega)]
 exact s
theorem Kj {k:Int}(h:¬ (1≤k∧k≤128)):U (fun n=>dP n k) fun r=>r=(true,[.bool false]):=by
 refine U.eq (fun n=>nJ n _) (U.P7 (fun h1=>U.ret ?_) fun _=>U.ret rfl)
 have h1:=E5 h1
 rw [E6 (by omega)]
theorem Pa (k:Int)(sg:Bool){p:Nat×Nat}(hp:Wf p):∃ s,Wf s∧∃ e:Int,U (fun n=>sQ n (vz p) k (.bool sg)) fun r=>r=(true,[vz s,.int .i64 e]):=by
 have bad:∀ {k' w':Int} {sg':Bool} {ws:List D},U (fun n=>tG n true k' sg' w' ws) fun r=>r=(true,[vz (0,0),.int .i64 2]):=fun {_ _ _ _}=>M1 (fun n=>tG.eq_1 n ..) (U.H5 rfl (U.ret rfl))
 obtain⟨ws,e1⟩:=Cs p
 by_cases hk:1≤k∧k≤128
 ·have g:=uG (w:=k.toNat) (by omega) (by omega)
  rw [show ((k.toNat:Nat):Int)=k by omega] at g
  by_cases hz:p.1=0
  ·refine⟨(0,0),Wf.zero,2,?_⟩
   rw [e1,hz]
   exact U.eq (fun n=>FJ n ..) (H4 g (U.H5 rfl (U.no rfl bad)))
  ·obtain⟨w,a⟩:=p
   have h1:1≤w:=by have:¬ w=0:=hz;omega
   have s:=Sr (w:=w) (a:=a) (k:=k.toNat) h1 hp.1 hp.2 (by omega) (by omega) sg
   rw [show ((k.toNat:Nat):Int)=k by omega] at s
   refine⟨(k.toNat,gG (TG w a sg) k.toNat),⟨by show k.toNat≤128;omega,mJ _ _⟩,0,?_⟩
   rw [gT h1,gT (by omega)]
   exact s
 ·refine⟨(0,0),Wf.zero,2,?_⟩
  rw [e1]
  exact U.eq (fun n=>FJ n ..) (H4 (Kj hk) (U.H5 rfl (U.H5 rfl bad)))
theorem Oi (i:Int){p:Nat×Nat}(hp:Wf p):∃ c:Bool,U (fun n=>L3 n (vz p) i) fun r=>r=(true,[.bool c]):=by
 by_cases hi:i<0
 ·obtain⟨ws,e1⟩:=Cs p
  refine⟨false,?_⟩
  rw [e1]
  exact U.eq (fun n=>kO n _ _ _) (U.no (E6 (by omega)) (U.ret rfl))
 ·rcases dN p with ⟨_,e⟩|⟨h1,e⟩
  ·refine⟨false,?_⟩
   rw [e]
   exact U.eq (fun n=>kO n _ _ _) (U.H5 (E4 (by omega)) (U.no (E6 (by omega)) (U.ret rfl)))
  ·have b:=qL (w:=p.1) (a:=p.2) (i:=i.toNat) hp.1 hp.2
   rw [show ((i.toNat:Nat):Int)=i by omega,← e] at b
   exact⟨_,b⟩
theorem UK {p:Nat×Nat}(hp:Wf p):∃ k:Nat,k≤1099511627776∧U (fun n=>T3 n (vz p) (1099511627776:Int)) fun r=>r=(true,[.int .i64 (k:Int)]):=by
 rcases dN p with ⟨_,e⟩|⟨h1,e⟩
 ·refine⟨0,C4 _,?_⟩
  rw [e]
  exact Pu (by decide)
 ·refine⟨min p.2 1099511627776,Nat.min_le_right _ _,?_⟩
  rw [e]
  exact UJ (m:=1099511627776) h1 hp.1 hp.2 (by decide)
theorem Jk {p:Nat×Nat}(hp:Wf p):∃ l:List Bool,l.length≤128∧U (fun n=>Q2 n (vz p)) fun r=>r=(true,[.Z 1 (l.map bD)]):=by
 rcases dN p with ⟨_,e⟩|⟨h1,e⟩
 ·refine⟨[],C4 _,?_⟩
  rw [e]
  exact U.eq (fun n=>mC n _ _) (U.H5 rfl (fJ (U.eq (fun n=>dO n _ _ _ _ _) (U.no rfl (U.ret rfl))) (U.H5 rfl (U.ret rfl))))
 ·refine⟨bl p.1 p.2,?_,?_⟩
  ·unfold bl;simp;exact hp.1
  ·rw [e,← Om]
   exact SC hp.1 hp.2
theorem SX {l:List Bool}(hl:l.length≤128):∃ c:Bool,U (fun n=>W5 n (.Z 1 (l.map bD)) (.bool true)) fun r=>r=(true,[.bool c]):=by
 have loop:∀ (m j:Nat),l.length-j=m→j≤l.length→∃ r,U (fun n=>S7 n (.Z 1 (l.map bD)) (.bool true) ((l.map bD).length:Int) (j:Int)) (fun q=>q=r)∧((∃ i:Int,r=(true,[.int .i64 i]))∨∃ i:Int,r=(false,[.Z 1 (l.map bD),.bool true,.int .i64 ((l.map bD).length:Int),.int .i64 i])):=by
  intro m
  induction m with
  |zero=>
   intro j hm hj
   refine⟨_,?_,.inr ⟨(j:Int),rfl⟩⟩
   exact U.eq (fun n=>gR n ..) (U.no (E6 (by rw [List.length_map];omega)) (U.ret rfl))
  |succ m ih=>
   intro j hm hj
   have hj2:j<(l.map bD).length:=by rw [List.length_map];omega
   cases hb:l[j]'(by omega) with
   |true=>
    refine⟨_,?_,.inl ⟨(j:Int),rfl⟩⟩
    refine U.eq (fun n=>gR n ..) (U.H5 (E4 (by omega)) (U.H5 (J8 hj2) ?_))
    rw [W7 hj2,List.getElem_map,hb]
    exact U.H5 rfl (U.H5 rfl (U.ret rfl))
   |false=>
    obtain⟨r,e,hr⟩:=ih (j+1) (by omega) (by omega)
    refine⟨r,?_,hr⟩
    refine U.eq (fun n=>gR n ..) (U.H5 (E4 (by omega)) (U.H5 (J8 hj2) ?_))
    rw [W7 hj2,List.getElem_map,hb,J9 (by omega)]
    exact U.H5 rfl (U.no rfl e)
 obtain⟨r,e,hr⟩:=loop l.length 0 rfl (C4 _)
 rcases hr with ⟨i,rfl⟩|⟨i,rfl⟩
 ·exact⟨_,U.eq (fun n=>lV n ..) (H4 (U.eq (fun n=>pF n ..) (U.J2 e (fun ds h=>by cases h;rfl) fun ds h=>by cases h)) (U.H5 rfl (U.ret rfl)))⟩
 ·exact⟨_,U.eq (fun n=>lV n ..) (H4 (U.eq (fun n=>pF n ..) (fJ e (U.H5 rfl (U.ret rfl)))) (U.H5 rfl (U.ret rfl)))⟩
theorem xR (p:Nat×Nat):(I5 I0&&K0 I0 (vz p))=true:=by
 rcases dN p with ⟨_,e⟩|⟨_,e⟩<;>rw [e]<;>rfl
theorem dX (p:Nat×Nat):H7 I0 (vz p)=vz p:=by
 rcases dN p with ⟨_,e⟩|⟨_,e⟩<;>rw [e]<;>rfl
theorem Oq {ps:List (Nat×Nat)}(hp:∀ p∈ps,Wf p)(hl:ps.length≤4611686018427387903):∃ s,Wf s∧∃ e:Int,U (fun n=>mB n (.Z 2 (ps.map vz))) fun r=>r=(true,[vz s,.int .i64 e]):=by
 have hex:∃ qs,YthlhbocobgkdmaaGreatZ.Uk (ps.map vz) qs:=⟨ps,hp,hl,rfl⟩
 obtain⟨qs,hqs⟩:∃ qs,Classical.choose hex=qs:=⟨_,rfl⟩
 have ho:mB.CK mB.sk [.Z 2 (ps.map vz)]=some [(YthlhbocobgkdmaaGreatZ.FL qs.reverse).1,.int .i64 (YthlhbocobgkdmaaGreatZ.FL qs.reverse).2]:=by
  show YthlhbocobgkdmaaGreatZ.GW ⟨[(0,.d (.leaf (.Z 2)))],[]⟩ [.Z 2 (ps.map vz)]=_
  unfold YthlhbocobgkdmaaGreatZ.GW
  simp only []
  rw [dif_pos hex,hqs]
 have form:∃ s,Wf s∧(YthlhbocobgkdmaaGreatZ.FL qs.reverse).1=vz s:=by
  unfold YthlhbocobgkdmaaGreatZ.FL
  split
  ·rename_i l _
   unfold YthlhbocobgkdmaaGreatZ.UM
   split
   ·rename_i h
    refine⟨(l.length,YthlhbocobgkdmaaGreatZ.jE l),⟨h.2,YthlhbocobgkdmaaGreatZ.pY l⟩,?_⟩
    rw [gT h.1];rfl
   ·exact⟨(0,0),Wf.zero,rfl⟩
  ·exact⟨(0,0),Wf.zero,rfl⟩
 obtain⟨s,hs,e⟩:=form
 rw [e] at ho
 exact⟨s,hs,_,U.eq (fun n=>Ah n _ _ ho) (U.ret rfl)⟩
structure Ar (k:Int) (n:Nat):Prop where
 pick:k=4→2≤n
 slice:k=5→1≤n
 un:k=6→1≤n
 bin:k=7→2≤n
 mux:k=8→3≤n
 ext:k=10→1≤n
 few:n≤68719476736
theorem RW (k op wd lo:Int)(sn:Bool){ps:List (Nat×Nat)}(hp:∀ p∈ps,Wf p)(ar:Ar k ps.length):∃ s,Wf s∧∀ (sg vw:Int) (vs A:List D),U (fun n=>eY n (.agg [.int .i64 k,.int .i64 op,.int .i64 wd,.int .i64 sg,.int .i64 lo,.bool sn,.int .i64 vw,.Z 1 vs,.Z 9 A]) (.Z 2 (ps.map vz))) fun r=>r=(true,[vz s]):=by
 by_cases h4:k=4
 ·subst h4
  match ps,ar.pick rfl,hp with
  |p0::p1::r,_,hp=>
   obtain⟨m,hm,em⟩:=UK (hp p1 (by simp))
   obtain⟨c,ec⟩:=Oi (m:Int) (hp p0 (by simp))
   have ho:=Cz (l:=[c]) (B9 1) (show 1≤128 by decide)
   refine⟨(1,jE [c]),⟨(show 1≤128 by decide),pY [c]⟩,fun sg vw vs A=>?_⟩
   rw [gT (B9 1)]
   refine U.eq (fun n=>dM n ..) (U.H5 rfl (U.H5 ?_ (U.H5 (xR p0) (U.H5 ?_ (U.H5 (xR p1) ?_)))))
   ·simp<;>omega
   ·simp<;>omega
   ·show U (fun n=>H3 (T3 n (H7 I0 (vz p1)) _) _) _
    rw [dX]
    refine H4 em (U.H5 rfl ?_)
    show U (fun n=>H3 (L3 n (H7 I0 (vz p0)) _) _) _
    rw [dX]
    exact H4 ec (U.H5 rfl (H4 ho (U.H5 rfl (U.ret rfl))))
 by_cases h5:k=5
 ·subst h5
  match ps,ar.slice rfl,hp with
  |p0::r,_,hp=>
   obtain⟨s,hs,e,es⟩:=Hx lo wd (hp p0 (by simp))
   refine⟨s,hs,fun sg vw vs A=>?_⟩
   refine U.eq (fun n=>dM n ..) (U.no rfl (U.H5 rfl (U.H5 ?_ (U.H5 (xR p0) ?_))))
   ·simp<;>omega
   ·show U (fun n=>H3 (kL n (H7 I0 (vz p0)) _ _) _) _
    rw [dX]
    refine H4 es (U.H5 ?_ (U.ret ?_))
    ·rcases dN s with ⟨_,q⟩|⟨_,q⟩<;>rw [q]<;>rfl
    ·show (true,[H7 I0 (vz s)])=_
     rw [dX]
 by_cases h6:k=6
 ·subst h6
  match ps,ar.un rfl,hp with
  |p0::r,_,hp=>
   obtain⟨s,hs,e,es⟩:=Tx op (hp p0 (by simp))
   refine⟨s,hs,fun sg vw vs A=>?_⟩
   refine U.eq (fun n=>dM n ..) (U.no rfl (U.no rfl (U.H5 rfl (U.H5 ?_ (U.H5 (xR p0) ?_)))))
   ·simp<;>omega
   ·show U (fun n=>H3 (vM n _ (H7 I0 (vz p0))) _) _
    rw [dX]
    refine H4 es (U.H5 ?_ (U.ret ?_))
    ·rcases dN s with ⟨_,q⟩|⟨_,q⟩<;>rw [q]<;>rfl
    ·show (true,[H7 I0 (vz s)])=_
     rw [dX]
 by_cases h7:k=7
 ·subst h7
  match ps,ar.bin rfl,hp with
  |p0::p1::r,_,hp=>
   obtain⟨s,hs,e,es⟩:=Oh op (hp p0 (by simp)) (hp p1 (by simp))
   refine⟨s,hs,fun sg vw vs A=>?_⟩
   refine U.eq (fun n=>dM n ..) (U.no rfl (U.no rfl (U.no rfl (U.H5 rfl (U.H5 ?_ (U.H5 (xR p0) (U.H5 ?_ (U.H5 (xR p1) ?_))))))))
   ·simp<;>omega
   ·simp<;>omega
   ·show U (fun n=>H3 (lD n _ (H7 I0 (vz p0)) (H7 I0 (vz p1))) _) _
    rw [dX,dX]
    refine H4 es (U.H5 ?_ (U.ret ?_))
    ·rcases dN s with ⟨_,q⟩|⟨_,q⟩<;>rw [q]<;>rfl
    ·show (true,[H7 I0 (vz s)])=_
     rw [dX]
 by_cases h8:k=8
 ·subst h8
  match ps,ar.mux rfl,hp with
  |p0::p1::p2::r,_,hp=>
   obtain⟨l,hl,el⟩:=Jk (hp p0 (by simp))
   obtain⟨c,ec⟩:=SX hl
   refine⟨bif c then p1 else p2,by cases c;exact hp p2 (by simp);exact hp p1 (by simp),fun sg vw vs A=>?_⟩
   refine U.eq (fun n=>dM n ..) (U.no rfl (U.no rfl (U.no rfl (U.no rfl (U.H5 rfl (U.H5 ?_ (U.H5 (xR p2) (U.H5 ?_ (U.H5 (xR p0) ?_)))))))))
   ·simp<;>omega
   ·simp<;>omega
   ·show U (fun n=>H3 (Q2 n (H7 I0 (vz p0))) _) _
    rw [dX]
    refine H4 el (U.H5 rfl (H4 ec (U.H5 rfl ?_)))
    cases c with
    |true=>
     refine U.H5 rfl (U.H5 ?_ (U.H5 (xR p1) (U.ret ?_)))
     ·simp<;>omega
     ·show (true,[H7 I0 (vz p1)])=_
      rw [dX];rfl
    |false=>
     refine U.no rfl (U.ret ?_)
     show (true,[H7 I0 (vz p2)])=_
     rw [dX];rfl
 by_cases h9:k=9
 ·subst h9
  obtain⟨s,hs,e,es⟩:=Oq hp (Nat.le_trans ar.few (by decide))
  refine⟨s,hs,fun sg vw vs A=>?_⟩
  refine U.eq (fun n=>dM n ..) (U.no rfl (U.no rfl (U.no rfl (U.no rfl (U.no rfl (U.H5 rfl (H4 es (U.H5 ?_ (U.ret ?_)))))))))
  ·rcases dN s with ⟨_,q⟩|⟨_,q⟩<;>rw [q]<;>rfl
  ·show (true,[H7 I0 (vz s)])=_
   rw [dX]
 by_cases h10:k=10
 ·subst h10
  match ps,ar.ext rfl,hp with
  |p0::r,_,hp=>
   obtain⟨s,hs,e,es⟩:=Pa wd sn (hp p0 (by simp))
   refine⟨s,hs,fun sg vw vs A=>?_⟩
   refine U.eq (fun n=>dM n ..) (U.no rfl (U.no rfl (U.no rfl (U.no rfl (U.no rfl (U.no rfl (U.H5 rfl (U.H5 ?_ (U.H5 (xR p0) ?_)))))))))
   ·simp<;>omega
   ·show U (fun n=>H3 (sQ n (H7 I0 (vz p0)) _ _) _) _
    rw [dX]
    refine H4 es (U.H5 ?_ (U.ret ?_))
    ·rcases dN s with ⟨_,q⟩|⟨_,q⟩<;>rw [q]<;>rfl
    ·show (true,[H7 I0 (vz s)])=_
     rw [dX]
 ·exact⟨(0,0),Wf.zero,fun sg vw vs A=>U.eq (fun n=>dM n ..) (U.no (E9.2 h4) (U.no (E9.2 h5) (U.no (E9.2 h6) (U.no (E9.2 h7) (U.no (E9.2 h8) (U.no (E9.2 h9) (U.no (E9.2 h10) (U.ret rfl))))))))⟩
section
inductive TE where
 |mk (k op wd sg lo:Int) (sn:Bool) (v:Nat×Nat) (ts:List TE)
def wz (v:Nat×Nat):List D:=if v.1=0 then [] else I9 v.1 v.2
theorem Rt (v:Nat×Nat):vz v = .agg [.int .i64 (v.1:Int),.Z 1 (wz v)]:=by
 rcases dN v with ⟨e1,e⟩|⟨e1,e⟩
 ·rw [e];unfold wz;rw [if_pos e1,e1];rfl
 ·rw [e];unfold wz;rw [if_neg (by omega)];rfl
mutual
def enc:TE→D
 | .mk k op wd sg lo sn v ts=> .agg [.int .i64 k,.int .i64 op,.int .i64 wd,.int .i64 sg,.int .i64 lo,.bool sn,.int .i64 (v.1:Int),.Z 1 (wz v),.Z 9 (O7 ts)]
def O7:List TE→List D
 |[]=>[]
 |t::r=>enc t::O7 r
end
mutual
def Good (ns:Nat)(M:Int→Prop):TE→Prop
 | .mk k _ _ sg _ _ v ts=>Wf v∧Ar k ts.length∧(k=3→1≤ts.length)∧((k=2∨k=3)→0≤sg∧sg<(ns:Int))∧(k=2→ts=[])∧(k=3→M sg)∧kC ns M ts
def kC (ns:Nat)(M:Int→Prop):List TE→Prop
 |[]=>True
 |t::r=>Good ns M t∧kC ns M r
end
theorem eI:∀ l:List TE,(O7 l).length=l.length
 |[]=>rfl
 |_::r=>by simp [O7,eI r]
theorem xQ (t:TE):(I5 H2&&K0 H2 (enc t))=true:=by cases t;rfl
theorem M3 (t:TE):H7 H2 (enc t)=enc t:=by cases t;rfl
theorem KX (p:Nat×Nat):I7 U9.H9 [vz p]=true:=by
 rcases dN p with ⟨_,q⟩|⟨_,q⟩<;>rw [q]<;>rfl
open Classical in
noncomputable def Qw (k op wd lo:Int) (sn:Bool) (ps:List (Nat×Nat)):Nat×Nat:=if h:(∀ p∈ps,Wf p)∧Ar k ps.length then Classical.choose (RW k op wd lo sn h.1 h.2) else (0,0)
theorem Qx (k op wd lo:Int)(sn:Bool){ps:List (Nat×Nat)}(hp:∀ p∈ps,Wf p)(ar:Ar k ps.length):Wf (Qw k op wd lo sn ps)∧∀ (sg vw:Int) (vs A:List D),U (fun n=>eY n (.agg [.int .i64 k,.int .i64 op,.int .i64 wd,.int .i64 sg,.int .i64 lo,.bool sn,.int .i64 vw,.Z 1 vs,.Z 9 A]) (.Z 2 (ps.map vz))) fun r=>r=(true,[vz (Qw k op wd lo sn ps)]):=by
 unfold Qw
 rw [dif_pos ⟨hp,ar⟩]
 exact Classical.choose_spec (RW k op wd lo sn hp ar)
open Classical in
noncomputable def Pv (p:Nat×Nat):Nat:=if h:Wf p then Classical.choose (UK h) else 0
theorem Pw {p:Nat×Nat}(hp:Wf p):U (fun n=>T3 n (vz p) (1099511627776:Int)) fun r=>r=(true,[.int .i64 (Pv p:Int)]):=by
 unfold Pv
 rw [dif_pos hp]
 exact (Classical.choose_spec (UK hp)).2
mutual
noncomputable def TD (sv:Int→Nat×Nat) (wv:Int→Nat→Nat×Nat):TE→Nat×Nat
 | .mk k op wd sg lo sn v ts=>if k=1 then v else if k=2 then sv sg else if k=3 then wv sg (Pv ((pR sv wv ts).headD (0,0))) else Qw k op wd lo sn (pR sv wv ts)
noncomputable def pR (sv:Int→Nat×Nat) (wv:Int→Nat→Nat×Nat):List TE→List (Nat×Nat)
 |[]=>[]
 |t::r=>TD sv wv t::pR sv wv r
end
theorem tM (sv:Int→Nat×Nat)(wv:Int→Nat→Nat×Nat):∀ l:List TE,(pR sv wv l).length=l.length
 |[]=>rfl
 |_::r=>by simp [pR,tM sv wv r]
structure Uj (a b c:List D) (sv:Int→Nat×Nat) (wv:Int→Nat→Nat×Nat):Prop where
 ws:∀ i,Wf (sv i)
 ww:∀ i j,Wf (wv i j)
 sig:∀ i:Int,U (fun n=>U4 n (.agg [.Z 2 a,.Z 5 b,.Z 10 c]) i) fun r=>r=(true,[vz (sv i)])
 word:∀ (i:Int) (j:Nat),U (fun n=>Z8 n (.agg [.Z 2 a,.Z 5 b,.Z 10 c]) i (j:Int)) fun r=>r=(true,[vz (wv i j)])
section
variable {a b c:List D} {sv:Int→Nat×Nat} {wv:Int→Nat→Nat×Nat} (S:Uj a b c sv wv) {ns:Nat} {M:Int→Prop}
include S
theorem Ge {k op wd sg lo:Int}{sn:Bool}{v:Nat×Nat}{ts:List TE}(hv:Wf v)(ar:Ar k ts.length)(a3:k=3→1≤ts.length)(hs:∀ i (h:i<ts.length),Wf ((pR sv wv ts)[i]'(by rw [tM];exact h))∧U (fun n=>U9 n (enc ts[i]) (.iface 63 (.agg [.Z 2 a,.Z 5 b,.Z 10 c]))) fun r=>r=(true,[vz ((pR sv wv ts)[i]'(by rw [tM];exact h))])) :
  Wf (TD sv wv (.mk k op wd sg lo sn v ts))∧U (fun n=>U9 n (enc (.mk k op wd sg lo sn v ts)) (.iface 63 (.agg [.Z 2 a,.Z 5 b,.Z 10 c]))) fun r=>r=(true,[vz (TD sv wv (.mk k op wd sg lo sn v ts))]):=by
 have el:=eI ts
 have vl:=tM sv wv ts
 have few:=ar.few
 have hp:∀ p∈pR sv wv ts,Wf p:=fun p hp=>by
  obtain⟨i,hi,rfl⟩:=List.getElem_of_mem hp
  exact (hs i (by rw [← vl];exact hi)).1
 have oD:∀ (l:List TE) (i:Nat) (h:i<l.length),(O7 l)[i]? = some (enc l[i]):=by
  intro l
  induction l with
  |nil=>intro i h;cases h
  |cons t r ih=>
   intro i h
   cases i with
   |zero=>rfl
   |succ i=>exact ih i (by simpa using h)
 have loop:∀ (m i:Nat),ts.length-i=m→i≤ts.length→∀ acc:List D,acc=((pR sv wv ts).take i).map vz++List.replicate (ts.length-i) zv→
   U (fun n=>cV n (.iface 63 (.agg [.Z 2 a,.Z 5 b,.Z 10 c])) (.Z 9 (O7 ts)) ((O7 ts).length:Int) (i:Int) k op wd sg lo (.bool sn) (v.1:Int) (.Z 1 (wz v)) (.Z 9 (O7 ts)) (0:Int) (.Z 2 acc) (.Z 1 [])) fun r=>
    ∃ i':Int,r=(false,[(.iface 63 (.agg [.Z 2 a,.Z 5 b,.Z 10 c])),.Z 9 (O7 ts),.int .i64 ((O7 ts).length:Int),.int .i64 i',.int .i64 k,.int .i64 op,.int .i64 wd,.int .i64 sg,.int .i64 lo,.bool sn,.int .i64 (v.1:Int),.Z 1 (wz v),.Z 9 (O7 ts),.int .i64 0,.Z 2 ((pR sv wv ts).map vz),.Z 1 []]):=by
  intro m
  induction m with
  |zero=>
   intro i hm hi acc hacc
   refine U.eq (fun n=>tS n ..) (U.no (E6 (by rw [el];omega)) (U.ret ⟨(i:Int),?_⟩))
   have:i=ts.length:=by omega
   subst this
   rw [hacc,Nat.sub_self,List.replicate_zero,D5,← vl,List.take_length]
  |succ m ih=>
   intro i hm hi acc hacc
   have hi2:i<ts.length:=by omega
   have hi3:i<(O7 ts).length:=by rw [el];exact hi2
   have hla:acc.length=ts.length:=by
    rw [hacc,A7,List.length_map,D7,List.length_replicate,vl];omega
   obtain⟨hw,he⟩:=hs i hi2
   refine U.eq (fun n=>tS n ..) (U.H5 (E4 (by rw [el];omega)) (U.H5 (J8 hi3) ?_))
   rw [E1,oD ts i hi2]
   show U (fun n=>bif I5 H2&&K0 H2 (enc ts[i]) then H3 (U9 n (H7 H2 (enc ts[i])) _) _ else _) _
   rw [M3]
   refine U.H5 (xQ _) (H4 he (U.H5 (KX _) (U.H5 (J8 (by rw [hla];exact hi2)) ?_)))
   rw [J9 (by omega)]
   refine ih (i+1) (by omega) hi2 _ ?_
   show acc.set i (H7 I0 (vz _))=_
   rw [dX,hacc]
   have hl:(((pR sv wv ts).take i).map vz).length=i:=by rw [List.length_map,D7,vl];omega
   have hr:List.replicate (ts.length-i) zv=zv::List.replicate (ts.length-(i+1)) zv:=by
    rw [show ts.length-i=(ts.length-(i+1))+1 by omega,List.replicate_succ]
   rw [hr,List.set_append_right _ _ (by rw [hl];exact B9 _),hl,Nat.sub_self,List.set_cons_zero,List.take_succ_eq_append_getElem (by rw [vl];exact hi2),List.map_append,C1]
   rfl
 have l:=loop ts.length 0 rfl (C4 _) (List.replicate ts.length zv) (by simp)
 have start:∀ {P:Bool×List D→Prop},(∀ i':Int,U (fun n=>bif (k==1) then (some (true,[vz v])) else bif (k==2) then H3 (U4 n (.agg [.Z 2 a,.Z 5 b,.Z 10 c]) sg) (fun r2=>bif I7 U4.H9 r2 then some (true,[H7 I0 (Y r2 0)]) else none) else bif (k==3) then (bif (true&&decide ((0:Int)<(((pR sv wv ts).map vz).length:Int))) then (bif I5 I0&&K0 I0 (((pR sv wv ts).map vz)[0]?.getD D.top) then H3 (T3 n (H7 I0 (((pR sv wv ts).map vz)[0]?.getD D.top)) (1099511627776:Int)) (fun r2=>bif I7 T3.H9 r2 then H3 (Z8 n (.agg [.Z 2 a,.Z 5 b,.Z 10 c]) sg (.int .i64 (Y r2 0).i)) (fun r3=>bif I7 Z8.H9 r3 then some (true,[H7 I0 (Y r3 0)]) else none) else none) else none) else none) else H3 (eY n (.agg [.int .i64 k,.int .i64 op,.int .i64 wd,.int .i64 sg,.int .i64 lo,.bool sn,.int .i64 (v.1:Int),.Z 1 (wz v),.Z 9 (O7 ts)]) (.Z 2 ((pR sv wv ts).map vz))) (fun r2=>bif I7 eY.H9 r2 then some (true,[H7 I0 (Y r2 0)]) else none)) P)→U (fun n=>U9 n (enc (.mk k op wd sg lo sn v ts)) (.iface 63 (.agg [.Z 2 a,.Z 5 b,.Z 10 c]))) P:=by
  intro P h
  refine U.eq (fun n=>PL n ..) (U.H5 (N7 (N7 (E4 (by omega)) (E4 (Int.le_refl _))) (E4 (by rw [el];show (ts.length:Int)≤68719476736;omega))) ?_)
  have l2:=l
  rw [← el] at l2
  refine U.J2 l2 (fun ds h=>by obtain⟨_,h⟩:=h;cases h) fun ds hd=>?_
  obtain⟨i',hd⟩:=hd
  cases hd
  have h:=h i'
  rw [Rt] at h
  exact U.H5 rfl h
 unfold TD
 by_cases k1:k=1
 ·rw [if_pos k1]
  exact⟨hv,start fun _=>U.H5 (by rw [k1];rfl) (U.ret rfl)⟩
 rw [if_neg k1]
 have n1:(k==1)=false:=E9.2 k1
 by_cases k2:k=2
 ·rw [if_pos k2]
  refine⟨S.ws sg,start fun _=>U.no n1 (U.H5 (by rw [k2];rfl) (H4 (S.sig sg) (U.H5 (KX _) (U.ret ?_))))⟩
  show (true,[H7 I0 (vz (sv sg))])=_
  rw [dX]
 rw [if_neg k2]
 have n2:(k==2)=false:=E9.2 k2
 by_cases k3:k=3
 ·rw [if_pos k3]
  have h1:=a3 k3
  cases hts:pR sv wv ts with
  |nil=>rw [hts] at vl;simp at vl;omega
  |cons p0 pr=>
   have w0:Wf p0:=hp p0 (by rw [hts];simp)
   refine⟨S.ww sg _,start fun _=>U.no n1 (U.no n2 (U.H5 (by rw [k3];rfl) ?_))⟩
   rw [hts]
   refine U.H5 ?_ (U.H5 (xR p0) ?_)
   ·simp<;>omega
   ·show U (fun n=>H3 (T3 n (H7 I0 (vz p0)) _) _) _
    rw [dX]
    refine H4 (Pw w0) (U.H5 rfl (H4 (S.word sg (Pv p0)) (U.H5 (KX _) (U.ret ?_))))
    show (true,[H7 I0 (vz _)])=_
    rw [dX];rfl
 rw [if_neg k3]
 have n3:(k==3)=false:=E9.2 k3
 obtain⟨w0,e0⟩:=Qx k op wd lo sn hp (by rw [vl];exact ar)
 refine⟨w0,start fun _=>U.no n1 (U.no n2 (U.no n3 (H4 (e0 _ _ _ _) (U.H5 (KX _) (U.ret ?_)))))⟩
 show (true,[H7 I0 (vz _)])=_
 rw [dX]
mutual
theorem JQ:∀ t:TE,Good ns M t→Wf (TD sv wv t)∧U (fun n=>U9 n (enc t) (.iface 63 (.agg [.Z 2 a,.Z 5 b,.Z 10 c]))) fun r=>r=(true,[vz (TD sv wv t)])
 | .mk k op wd sg lo sn v ts,h=>by
  obtain⟨hv,ar,h3,_,_,_,hg⟩:=h
  exact Ge S hv ar h3 (VY ts hg)
theorem VY:∀ (ts:List TE),kC ns M ts→∀ i (h:i<ts.length),Wf ((pR sv wv ts)[i]'(by rw [tM];exact h))∧U (fun n=>U9 n (enc ts[i]) (.iface 63 (.agg [.Z 2 a,.Z 5 b,.Z 10 c]))) fun r=>r=(true,[vz ((pR sv wv ts)[i]'(by rw [tM];exact h))])
 |[],_,i,h=>by cases h
 |t::r,hg,0,_=>JQ t hg.1
 |t::r,hg,i+1,h=>VY r hg.2 i (by simpa using h)
end
end
end
section
mutual
def aR:TE→List Int
 | .mk k _ _ sg _ _ _ ts=>(if k=2∨k=3 then [sg] else [])++iW ts
def iW:List TE→List Int
 |[]=>[]
 |t::r=>aR t++iW r
end
mutual
def L6:TE→Nat
 | .mk _ _ _ _ _ _ _ ts=>1+cG ts
def cG:List TE→Nat
 |[]=>0
 |t::r=>L6 t+cG r
end
mutual
def iO (args:List TE):TE→TE
 | .mk k op wd sg lo sn v ts=>if k=2 then (if 0≤sg∧sg<(args.length:Int) then (args[sg.toNat]?).getD (.mk k op wd sg lo sn v ts) else .mk k op wd sg lo sn v ts) else .mk k op wd sg lo sn v (jC args ts)
def jC (args:List TE):List TE→List TE
 |[]=>[]
 |t::r=>iO args t::jC args r
end
theorem zM (args:List TE):∀ l,(jC args l).length=l.length
 |[]=>rfl
 |_::r=>by simp [jC,zM args r]
mutual
theorem XF {sv sv':Int→Nat×Nat}{wv wv':Int→Nat→Nat×Nat}:∀ t:TE,(∀ i∈aR t,sv i=sv' i∧∀ j,wv i j=wv' i j)→TD sv wv t=TD sv' wv' t
 | .mk k op wd sg lo sn v ts,h=>by
  have hs:=QM (sv:=sv) (sv':=sv') (wv:=wv) (wv':=wv') ts fun i hi=>h i (by unfold aR;exact B4 _ hi)
  unfold TD
  rw [hs]
  split
  ·rfl
  ·split
   ·rename_i _ k2
    exact (h sg (by unfold aR;rw [if_pos (.inl k2)];simp)).1
   ·split
    ·rename_i _ _ k3
     exact (h sg (by unfold aR;rw [if_pos (.inr k3)];simp)).2 _
    ·rfl
theorem QM {sv sv':Int→Nat×Nat}{wv wv':Int→Nat→Nat×Nat}:∀ ts:List TE,(∀ i∈iW ts,sv i=sv' i∧∀ j,wv i j=wv' i j)→pR sv wv ts=pR sv' wv' ts
 |[],_=>rfl
 |t::r,h=>by
  unfold pR
  rw [XF t fun i hi=>h i (by unfold iW;exact B5 _ hi),QM r fun i hi=>h i (by unfold iW;exact B4 _ hi)]
end
structure Iq (sv:Int→Nat×Nat) (args:List TE):Prop where
 all:∀ i (h:i<args.length),∃ wd:Int,args[i] = .mk 1 0 wd 0 0 false (sv i) []
section
variable {sv:Int→Nat×Nat} {wv:Int→Nat→Nat×Nat} {args:List TE} (hc:Iq sv args) {M:Int→Prop}
include hc
mutual
theorem Dj:∀ t:TE,Good args.length M t→TD sv wv (iO args t)=TD sv wv t∧L6 (iO args t)=L6 t∧∀ i∈aR (iO args t),M i∧i∈aR t
 | .mk k op wd sg lo sn v ts,h=>by
  obtain⟨hv,ar,h3,hr,h0,hm,hg⟩:=h
  unfold iO
  by_cases k2:k=2
  ·have hr:=hr (.inl k2)
   obtain⟨wd',e⟩:=hc.all sg.toNat (by omega)
   rw [if_pos k2,if_pos hr,C2 (by omega),e,h0 k2]
   refine⟨?_,rfl,fun i hi=>?_⟩
   ·show TD sv wv (.mk 1 0 wd' 0 0 false _ [])=_
    unfold TD
    rw [if_pos rfl,if_neg (by omega),if_pos k2,show ((sg.toNat:Nat):Int)=sg by omega]
   ·have hi:i∈aR (.mk 1 0 wd' 0 0 false (sv (sg.toNat:Nat)) []):=hi
    unfold aR iW at hi
    rw [if_neg (by omega)] at hi
    cases hi
  ·rw [if_neg k2]
   obtain⟨e1,e2,e3⟩:=XG ts hg
   refine⟨?_,?_,fun i hi=>?_⟩
   ·unfold TD
    rw [e1]
   ·unfold L6
    rw [e2]
   ·unfold aR at hi ⊢
    rcases D3.1 hi with hi|hi
    ·by_cases k3:k=3
     ·rw [if_pos (.inr k3)] at hi ⊢
      have:i=sg:=by simpa using hi
      subst this
      exact⟨hm k3,B5 _ (by simp)⟩
     ·rw [if_neg (by omega)] at hi
      cases hi
    ·obtain⟨m1,m2⟩:=e3 i hi
     exact⟨m1,B4 _ m2⟩
theorem XG:∀ ts:List TE,kC args.length M ts→pR sv wv (jC args ts)=pR sv wv ts∧cG (jC args ts)=cG ts∧∀ i∈iW (jC args ts),M i∧i∈iW ts
 |[],_=>⟨rfl,rfl,fun i hi=>by cases hi⟩
 |t::r,h=>by
  obtain⟨a1,a2,a3⟩:=Dj t h.1
  obtain⟨b1,b2,b3⟩:=XG r h.2
  refine⟨?_,?_,fun i hi=>?_⟩
  ·unfold jC pR
   rw [a1,b1]
  ·unfold jC cG
   rw [a2,b2]
  ·unfold jC iW at hi
   unfold iW
   rcases D3.1 hi with hi|hi
   ·obtain⟨m1,m2⟩:=a3 i hi
    exact⟨m1,B5 _ m2⟩
   ·obtain⟨m1,m2⟩:=b3 i hi
    exact⟨m1,B4 _ m2⟩
end
end
end
theorem oD:∀ (l:List TE) (i:Nat) (h:i<l.length),(O7 l)[i]? = some (enc l[i])
 |[],_,h=>by cases h
 |_::_,0,_=>rfl
 |_::r,i+1,h=>oD r i (by simpa using h)
theorem Qu:∀ t:TE,1≤L6 t
 | .mk ..=>by unfold L6;omega
theorem yG:∀ l:List TE,l.length≤cG l
 |[]=>B9 _
 |t::r=>by have:=yG r;have:=Qu t;simp only [cG,A0];omega
theorem zN:∀ (l:List TE) (i:Nat) (h:i<l.length),cG (l.drop i)=L6 l[i]+cG (l.drop (i+1))
 |t::r,0,_=>rfl
 |t::r,i+1,h=>zN r i (by simpa using h)
theorem IX:∀ (l:List TE) (i:Nat) (h:i<l.length),iW (l.drop i)=aR l[i]++iW (l.drop (i+1))
 |t::r,0,_=>rfl
 |t::r,i+1,h=>IX r i (by simpa using h)
def iI (n:Int):D:= .int .i64 n
mutual
theorem zI:∀ t:TE,(aR t).length≤L6 t
 | .mk k _ _ sg _ _ _ ts=>by
  have:=NO ts
  unfold aR L6
  split<;>simp<;>omega
theorem NO:∀ l:List TE,(iW l).length≤cG l
 |[]=>B9 _
 |t::r=>by
  have:=zI t
  have:=NO r
  unfold iW cG
  rw [A7];omega
end
theorem Ii {k op wd sg lo:Int}{sn:Bool}{v:Nat×Nat}{ts:List TE}(hs:∀ i (h:i<ts.length),∀ acc:List Int,acc.length+L6 ts[i]≤68719476736→U (fun n=>bU n (enc ts[i]) (.Z 1 (acc.map iI))) fun r=>r=(true,[.Z 1 ((acc++aR ts[i]).map iI)]))(acc:List Int)(hb:acc.length+L6 (.mk k op wd sg lo sn v ts)≤68719476736) :
  U (fun n=>bU n (enc (.mk k op wd sg lo sn v ts)) (.Z 1 (acc.map iI))) fun r=>r=(true,[.Z 1 ((acc++aR (.mk k op wd sg lo sn v ts)).map iI)]):=by
 have el:=eI ts
 have hsz:L6 (.mk k op wd sg lo sn v ts)=1+cG ts:=by unfold L6;rfl
 have hlen:=yG ts
 have one:∃ acc1:List Int,acc1=acc++(if k=2∨k=3 then [sg] else [])∧U (fun n=>iF n (enc (.mk k op wd sg lo sn v ts)) (.Z 1 (acc.map iI))) fun r=>r=(true,[.Z 1 (acc1.map iI)]):=by
  have ap:(acc.map iI++[iI sg])=(acc++[sg]).map iI:=by simp
  have hl:Nat.ble ((acc.map iI).length+1) J5=true:=B2 (by rw [List.length_map];show acc.length+1≤68719476736;omega)
  by_cases k2:k=2
  ·refine⟨_,rfl,U.eq (fun n=>pK n ..) (U.H5 (by rw [k2];rfl) (U.H5 hl (U.ret ?_)))⟩
   rw [if_pos (.inl k2),← ap];rfl
  ·by_cases k3:k=3
   ·refine⟨_,rfl,U.eq (fun n=>pK n ..) (U.no (E9.2 k2) (U.H5 (by rw [k3];rfl) (U.H5 hl (U.ret ?_))))⟩
    rw [if_pos (.inr k3),← ap];rfl
   ·refine⟨_,rfl,U.eq (fun n=>pK n ..) (U.no (E9.2 k2) (U.no (E9.2 k3) (U.ret ?_)))⟩
    rw [if_neg (by omega),D5]
 obtain⟨acc1,ha1,e1⟩:=one
 have hl1:acc1.length≤acc.length+1:=by rw [ha1,A7];split<;>simp
 have loop:∀ (m i:Nat),ts.length-i=m→i≤ts.length→∀ b:List Int,b.length+cG (ts.drop i)≤68719476736→
   U (fun n=>dA n (.Z 9 (O7 ts)) ((O7 ts).length:Int) (i:Int) (.Z 1 (b.map iI))) fun r=>∃ i':Int,r=(false,[.Z 9 (O7 ts),.int .i64 ((O7 ts).length:Int),.int .i64 i',.Z 1 ((b++iW (ts.drop i)).map iI)]):=by
  intro m
  induction m with
  |zero=>
   intro i hm hi b hb
   refine U.eq (fun n=>tW n ..) (U.no (E6 (by rw [el];omega)) (U.ret ⟨(i:Int),?_⟩))
   rw [D4 (by omega)]
   simp [iW]
  |succ m ih=>
   intro i hm hi b hb
   have hi2:i<ts.length:=by omega
   have hi3:i<(O7 ts).length:=by rw [el];exact hi2
   rw [zN ts i hi2] at hb
   have e:=hs i hi2 b (by omega)
   refine U.eq (fun n=>tW n ..) (U.H5 (E4 (by rw [el];omega)) (U.H5 (J8 hi3) ?_))
   rw [E1,oD ts i hi2]
   show U (fun n=>bif I5 H2&&K0 H2 (enc ts[i]) then H3 (bU n (H7 H2 (enc ts[i])) _) _ else _) _
   rw [M3]
   refine U.H5 (xQ _) (H4 e (U.H5 rfl ?_))
   rw [J9 (by omega),IX ts i hi2,← C1]
   have hrl:=zI ts[i]
   exact ih (i+1) (by omega) hi2 (b++aR ts[i]) (by rw [A7];omega)
 have l:=loop ts.length 0 rfl (C4 _) acc1 (by rw [List.drop_zero];omega)
 refine U.eq (fun n=>PN n ..) (H4 e1 (U.H5 rfl (U.J2 l (fun ds h=>by obtain⟨_,h⟩:=h;cases h) fun ds h=>?_)))
 obtain⟨i',h⟩:=h
 cases h
 refine U.H5 rfl (U.ret ?_)
 rw [List.drop_zero,ha1,C1]
 show _=(true,[D.Z 1 ((acc++aR (.mk k op wd sg lo sn v ts)).map iI)])
 unfold aR
 rfl
mutual
theorem Ey:∀ (t:TE) (acc:List Int),acc.length+L6 t≤68719476736→U (fun n=>bU n (enc t) (.Z 1 (acc.map iI))) fun r=>r=(true,[.Z 1 ((acc++aR t).map iI)])
 | .mk k op wd sg lo sn v ts,acc,h=>Ii (fun i hi=>ZP ts i hi) acc h
theorem ZP:∀ (ts:List TE) (i:Nat) (h:i<ts.length) (acc:List Int),acc.length+L6 ts[i]≤68719476736→U (fun n=>bU n (enc ts[i]) (.Z 1 (acc.map iI))) fun r=>r=(true,[.Z 1 ((acc++aR ts[i]).map iI)])
 |[],i,h,_,_=>by cases h
 |t::_,0,_,acc,hb=>Ey t acc hb
 |_::r,i+1,h,acc,hb=>ZP r i (by simpa using h) acc hb
end
theorem Hc {k op wd sg lo:Int}{sn:Bool}{v:Nat×Nat}{ts:List TE}(hs:∀ i (h:i<ts.length),∀ c:Nat,c+L6 ts[i]≤4611686018427387903→U (fun n=>Y4 n (enc ts[i]) (c:Int)) fun r=>r=(true,[.int .i64 ((c+L6 ts[i]:Nat):Int)]))(c:Nat)(hb:c+L6 (.mk k op wd sg lo sn v ts)≤4611686018427387903) :
  U (fun n=>Y4 n (enc (.mk k op wd sg lo sn v ts)) (c:Int)) fun r=>r=(true,[.int .i64 ((c+L6 (.mk k op wd sg lo sn v ts):Nat):Int)]):=by
 have el:=eI ts
 have hsz:L6 (.mk k op wd sg lo sn v ts)=1+cG ts:=by unfold L6;rfl
 have hlen:=yG ts
 have e1:U (fun n=>gC n (enc (.mk k op wd sg lo sn v ts)) (c:Int)) fun r=>r=(true,[.int .i64 ((c+1:Nat):Int)]):=U.eq (fun n=>HM n ..) (U.ret (by rw [J9 (by omega)]))
 have loop:∀ (m i:Nat),ts.length-i=m→i≤ts.length→∀ b:Nat,b+cG (ts.drop i)≤4611686018427387903→
   U (fun n=>aP n (.Z 9 (O7 ts)) ((O7 ts).length:Int) (i:Int) (b:Int)) fun r=>∃ i':Int,r=(false,[.Z 9 (O7 ts),.int .i64 ((O7 ts).length:Int),.int .i64 i',.int .i64 ((b+cG (ts.drop i):Nat):Int)]):=by
  intro m
  induction m with
  |zero=>
   intro i hm hi b hb
   refine U.eq (fun n=>rO n ..) (U.no (E6 (by rw [el];omega)) (U.ret ⟨(i:Int),?_⟩))
   rw [D4 (by omega)]
   simp [cG]
  |succ m ih=>
   intro i hm hi b hb
   have hi2:i<ts.length:=by omega
   have hi3:i<(O7 ts).length:=by rw [el];exact hi2
   rw [zN ts i hi2] at hb
   have e:=hs i hi2 b (by omega)
   refine U.eq (fun n=>rO n ..) (U.H5 (E4 (by rw [el];omega)) (U.H5 (J8 hi3) ?_))
   rw [E1,oD ts i hi2]
   show U (fun n=>bif I5 H2&&K0 H2 (enc ts[i]) then H3 (Y4 n (H7 H2 (enc ts[i])) _) _ else _) _
   rw [M3]
   refine U.H5 (xQ _) (H4 e (U.H5 rfl ?_))
   rw [J9 (by omega),zN ts i hi2,← Nat.add_assoc]
   exact ih (i+1) (by omega) hi2 (b+L6 ts[i]) (by omega)
 have l:=loop ts.length 0 rfl (C4 _) (c+1) (by rw [List.drop_zero];omega)
 refine U.eq (fun n=>JO n ..) (H4 e1 (U.H5 rfl (U.J2 l (fun ds h=>by obtain⟨_,h⟩:=h;cases h) fun ds h=>?_)))
 obtain⟨i',h⟩:=h
 cases h
 refine U.H5 rfl (U.ret ?_)
 rw [List.drop_zero,hsz,← Nat.add_assoc]
 rfl
mutual
theorem ZN:∀ (t:TE) (c:Nat),c+L6 t≤4611686018427387903→U (fun n=>Y4 n (enc t) (c:Int)) fun r=>r=(true,[.int .i64 ((c+L6 t:Nat):Int)])
 | .mk k op wd sg lo sn v ts,c,h=>Hc (fun i hi=>RX ts i hi) c h
theorem RX:∀ (ts:List TE) (i:Nat) (h:i<ts.length) (c:Nat),c+L6 ts[i]≤4611686018427387903→U (fun n=>Y4 n (enc ts[i]) (c:Int)) fun r=>r=(true,[.int .i64 ((c+L6 ts[i]:Nat):Int)])
 |[],i,h,_,_=>by cases h
 |t::_,0,_,c,hb=>ZN t c hb
 |_::r,i+1,h,c,hb=>RX r i (by simpa using h) c hb
end
theorem EG (t:TE)(h:L6 t≤4611686018427387903):U (fun n=>W6 n (enc t)) fun r=>r=(true,[.int .i64 (L6 t:Int)]):=by
 have w:=ZN t 0 (by omega)
 rw [C5] at w
 cases t with
 |mk k op wd sg lo sn v ts=>exact U.eq (fun n=>OG n ..) (H4 w (U.H5 rfl (U.ret rfl)))
theorem BI:∀ l:List Int,uI (l.map iI)=some l
 |[]=>rfl
 |n::l=>by
  show (match uI (l.map iI) with|some l=>some (n::l)|none=>none)=_
  rw [BI l]
theorem Eh (t:TE)(h:L6 t≤68719476736):U (fun n=>gD n (enc t)) fun r=>r=(true,[.Z 1 ((U5 (dJ (aR t))).map iI)]):=by
 have w:=Ey t [] (by simpa using h)
 rw [List.nil_append] at w
 have hl:Nat.ble (aR t).length J5=true:=B2 (Nat.le_trans (zI t) h)
 have so:slices_Sort_int.CK slices_Sort_int.sk [.Z 1 ((aR t).map iI)]=some [.Z 1 ((dJ (aR t)).map iI)]:=by
  show (match uI ((aR t).map iI) with|some l=>bif Nat.ble l.length J5 then some [D.Z 1 ((dJ l).map (D.int .i64))] else none|none=>none)=_
  rw [BI]
  simp only [hl,cond_true]
  rfl
 have co:slices_Compact_int.CK slices_Compact_int.sk [.Z 1 ((dJ (aR t)).map iI)]=some [.Z 1 ((U5 (dJ (aR t))).map iI)]:=by
  show (match uI ((dJ (aR t)).map iI) with|some l=>bif Nat.beq _ _ then some [D.Z 1 ((U5 l).map (D.int .i64))] else none|none=>none)=_
  rw [BI]
  rfl
 have s1:U (fun n=>slices_Sort_int n (.Z 1 ((aR t).map iI))) fun r=>r=(true,[.Z 1 ((dJ (aR t)).map iI)]):=U.eq (fun n=>zV n _ _ so) (U.ret rfl)
 have c1:U (fun n=>slices_Compact_int n (.Z 1 ((dJ (aR t)).map iI))) fun r=>r=(true,[.Z 1 ((U5 (dJ (aR t))).map iI)]):=U.eq (fun n=>uZ n _ _ co) (U.ret rfl)
 cases t with
 |mk k op wd sg lo sn v ts=>exact U.eq (fun n=>PM n ..) (H4 w (U.H5 rfl (H4 s1 (U.H5 rfl (H4 c1 (U.H5 rfl (U.ret rfl)))))))
theorem lO:∀ a b:List TE,O7 (a++b)=O7 a++O7 b
 |[],_=>rfl
 |t::a,b=>by simp [O7,lO a b]
theorem NY (args:List TE):∀ (l:List TE) (i:Nat) (h:i<l.length),jC args (l.drop i)=iO args l[i]::jC args (l.drop (i+1))
 |t::r,0,_=>rfl
 |t::r,i+1,h=>NY args r i (by simpa using h)
theorem Dd (t:TE):I7 T8.H9 [enc t]=true:=by cases t;rfl
theorem Cm {args:List TE}{k op wd sg lo:Int}{sn:Bool}{v:Nat×Nat}{ts:List TE}(hl:ts.length≤68719476736)(hs:∀ i (h:i<ts.length),U (fun n=>T8 n (enc ts[i]) (.Z 9 (O7 args))) fun r=>r=(true,[enc (iO args ts[i])])) :
  U (fun n=>T8 n (enc (.mk k op wd sg lo sn v ts)) (.Z 9 (O7 args))) fun r=>r=(true,[enc (iO args (.mk k op wd sg lo sn v ts))]):=by
 have el:=eI ts
 have al:=eI args
 by_cases k2:k=2
 ·have y:(k==2)=true:=by rw [k2];rfl
  by_cases h0:0≤sg
  ·by_cases h1:sg<(args.length:Int)
   ·have hi:sg.toNat<args.length:=by omega
    have e:iO args (.mk k op wd sg lo sn v ts)=args[sg.toNat]:=by
     unfold iO
     rw [if_pos k2,if_pos ⟨h0,h1⟩,C2 hi];rfl
    rw [e]
    refine U.eq (fun n=>mX n ..) (U.H5 y (U.H5 (E4 h0) (U.H5 (E4 (by rw [al];exact h1)) (U.H5 (N7 (E4 h0) (E4 (by rw [al];exact h1))) ?_))))
    rw [oD args _ hi]
    refine U.H5 (xQ _) (U.ret ?_)
    show (true,[H7 H2 (enc args[sg.toNat])])=_
    rw [M3]
   ·have e:iO args (.mk k op wd sg lo sn v ts) = .mk k op wd sg lo sn v ts:=by
     unfold iO
     rw [if_pos k2,if_neg (fun h=>h1 h.2)]
    rw [e]
    exact U.eq (fun n=>mX n ..) (U.H5 y (U.H5 (E4 h0) (U.no (E6 (by rw [al];exact h1)) (U.ret rfl))))
  ·have e:iO args (.mk k op wd sg lo sn v ts) = .mk k op wd sg lo sn v ts:=by
    unfold iO
    rw [if_pos k2,if_neg (fun h=>h0 h.1)]
   rw [e]
   exact U.eq (fun n=>mX n ..) (U.H5 y (U.no (E6 h0) (U.ret rfl)))
 ·have loop:∀ (m i:Nat),ts.length-i=m→i≤ts.length→∀ b:List TE,b.length+(ts.length-i)≤68719476736→
    U (fun n=>bN n (.Z 9 (O7 args)) (.Z 9 (O7 ts)) ((O7 ts).length:Int) (i:Int) k op wd sg lo (.bool sn) (v.1:Int) (.Z 1 (wz v)) (0:Int) (0:Int) (0:Int) (0:Int) (0:Int) (.bool false) (0:Int) (.Z 9 (O7 b)) (.Z 1 []) (.Z 9 [])) fun r=>∃ i':Int,r=(false,[.Z 9 (O7 args),.Z 9 (O7 ts),.int .i64 ((O7 ts).length:Int),.int .i64 i',.int .i64 k,.int .i64 op,.int .i64 wd,.int .i64 sg,.int .i64 lo,.bool sn,.int .i64 (v.1:Int),.Z 1 (wz v),.int .i64 0,.int .i64 0,.int .i64 0,.int .i64 0,.int .i64 0,.bool false,.int .i64 0,.Z 9 (O7 (b++jC args (ts.drop i))),.Z 1 [],.Z 9 []]):=by
   intro m
   induction m with
   |zero=>
    intro i hm hi b hb
    refine U.eq (fun n=>sM n ..) (U.no (E6 (by rw [el];omega)) (U.ret ⟨(i:Int),?_⟩))
    rw [D4 (by omega)]
    simp [jC]
   |succ m ih=>
    intro i hm hi b hb
    have hi2:i<ts.length:=by omega
    have hi3:i<(O7 ts).length:=by rw [el];exact hi2
    refine U.eq (fun n=>sM n ..) (U.H5 (E4 (by rw [el];omega)) (U.H5 (J8 hi3) ?_))
    rw [E1,oD ts i hi2]
    show U (fun n=>bif I5 H2&&K0 H2 (enc ts[i]) then H3 (T8 n (H7 H2 (enc ts[i])) _) _ else _) _
    rw [M3]
    have hb1:Nat.ble ((O7 b).length+1) J5=true:=B2 (by rw [eI];show b.length+1≤68719476736;omega)
    refine U.H5 (xQ _) (H4 (hs i hi2) (U.H5 (Dd _) (U.H5 hb1 ?_)))
    rw [J9 (by omega),NY args ts i hi2]
    have e:O7 b++[H7 H2 (Y [enc (iO args ts[i])] 0)]=O7 (b++[iO args ts[i]]):=by
     show O7 b++[H7 H2 (enc (iO args ts[i]))]=_
     rw [M3,lO];rfl
    rw [e]
    have e2:b++iO args ts[i]::jC args (ts.drop (i+1))=(b++[iO args ts[i]])++jC args (ts.drop (i+1)):=by simp
    rw [e2]
    exact ih (i+1) (by omega) hi2 (b++[iO args ts[i]]) (by rw [A7,C9];omega)
  have l:=loop ts.length 0 rfl (C4 _) [] (by simpa using hl)
  refine U.eq (fun n=>mX n ..) (U.no (E9.2 k2) (U.J2 l (fun ds h=>by obtain⟨_,h⟩:=h;cases h) fun ds h=>?_))
  obtain⟨i',h⟩:=h
  cases h
  refine U.H5 rfl (U.ret ?_)
  have e:iO args (.mk k op wd sg lo sn v ts) = .mk k op wd sg lo sn v (jC args ts):=by
   unfold iO
   rw [if_neg k2]
  rw [e,List.drop_zero,List.nil_append]
  rfl
mutual
theorem NZ {args:List TE}{ns:Nat}{M:Int→Prop}:∀ t:TE,Good ns M t→U (fun n=>T8 n (enc t) (.Z 9 (O7 args))) fun r=>r=(true,[enc (iO args t)])
 | .mk k op wd sg lo sn v ts,h=>Cm h.2.1.few fun i hi=>RS ts h.2.2.2.2.2.2 i hi
theorem RS {args:List TE}{ns:Nat}{M:Int→Prop}:∀ ts:List TE,kC ns M ts→∀ i (h:i<ts.length),U (fun n=>T8 n (enc ts[i]) (.Z 9 (O7 args))) fun r=>r=(true,[enc (iO args ts[i])])
 |[],_,i,h=>by cases h
 |t::_,hg,0,_=>NZ t hg.1
 |_::r,hg,i+1,h=>RS r hg.2 i (by simpa using h)
end
theorem LA (i:Int):∀ l:List Int,i∈U5 l↔i∈l
 |[]=>by simp [U5]
 |[y]=>by simp [U5]
 |y::z::l=>by
  rw [nL]
  have ih:=LA i (z::l)
  split
  ·rename_i e
   rw [ih,e];simp
  ·rw [B7,ih,B7 (a:=i) (b:=y)]
theorem WV:∀ l:List Int,l.Pairwise (fun a b=>a≤b)→(U5 l).Pairwise (fun a b=>a<b)
 |[],_=> .nil
 |[y],_=>by simp [U5]
 |y::z::l,h=>by
  rw [List.pairwise_cons] at h
  have ih:=WV (z::l) h.2
  rw [nL]
  split
  ·exact ih
  ·rename_i e
   rw [List.pairwise_cons]
   refine⟨fun x hx=>?_,ih⟩
   have hx:=(LA x (z::l)).1 hx
   have h1:=h.1 z (by simp)
   rw [List.pairwise_cons] at h
   rcases B7.1 hx with rfl|hx
   ·omega
   ·have:=h.2.1 x hx;omega
theorem NP (i:Int)(l:List Int):i∈U5 (dJ l)↔i∈l:=by rw [LA,(nZ l).mem_iff]
theorem Mf (l:List Int):(U5 (dJ l)).Pairwise (fun a b=>a<b):=WV _ (CC l)
structure WS where
 nm:F9
 w:Nat
 sg:Bool
 bits:List Bool
 words:List (List Bool)
def aS (s:WS):D:= .agg [.str s.nm,.int .i64 (s.w:Int),.bool s.sg,.Z 1 (s.bits.map bD),.Z 1 (s.words.map fun l=> .Z 1 (l.map bD))]
def NI (l:List Bool):Nat×Nat:=if 1≤l.length∧l.length≤128 then (l.length,jE l) else (0,0)
theorem UX (l:List Bool):Wf (NI l):=by
 unfold NI
 split
 ·rename_i h;exact⟨h.2,pY l⟩
 ·exact Wf.zero
theorem Bt (l:List Bool):U (fun n=>cJ n (.Z 1 (l.map bD))) fun r=>r=(true,[vz (NI l)]):=by
 have h:=Qn l
 have e:UY l=vz (NI l):=by
  unfold UY NI
  split
  ·rename_i h;rw [gT h.1]
  ·rfl
 rw [e] at h
 exact h
def RT (ws:List WS)(i:Int):Nat×Nat:=if 0≤i then (match ws[i.toNat]? with|some s=>NI s.bits|none=>(0,0)) else (0,0)
def Fe (ws:List WS)(i:Int)(j:Nat):Nat×Nat:=if 0≤i then (match ws[i.toNat]? with|some s=>(match s.words[j]? with|some l=>NI l|none=>NI (List.replicate s.w false))|none=>(0,0)) else (0,0)
theorem Vf {ws:List WS}{i:Int}(h0:0≤i)(h1:i.toNat<ws.length):RT ws i=NI ws[i.toNat].bits:=by unfold RT;rw [if_pos h0,C2 h1]
theorem Ms {ws:List WS}{i:Int}(h:¬ (0≤i∧i.toNat<ws.length)):RT ws i=(0,0):=by
 unfold RT
 by_cases h0:0≤i
 ·rw [if_pos h0,List.getElem?_eq_none (by omega)]
 ·rw [if_neg h0]
theorem Vn {ws:List WS}{i:Int}{j:Nat}(h0:0≤i)(h1:i.toNat<ws.length):Fe ws i j=match ws[i.toNat].words[j]? with|some l=>NI l|none=>NI (List.replicate ws[i.toNat].w false):=by unfold Fe;rw [if_pos h0,C2 h1]
theorem Ns {ws:List WS}{i:Int}{j:Nat}(h:¬ (0≤i∧i.toNat<ws.length)):Fe ws i j=(0,0):=by
 unfold Fe
 by_cases h0:0≤i
 ·rw [if_pos h0,List.getElem?_eq_none (by omega)]
 ·rw [if_neg h0]
theorem Sj (p:Nat×Nat):I7 cJ.H9 [vz p]=true:=by
 rcases dN p with ⟨_,q⟩|⟨_,q⟩<;>rw [q]<;>rfl
theorem NX (a c:List D){ws:List WS}(hw:∀ s∈ws,s.w≤1000):Uj a (ws.map aS) c (RT ws) (Fe ws):=by
 have wf:∀ i,Wf (RT ws i):=fun i=>by
  unfold RT
  split
  ·split
   ·exact UX _
   ·exact Wf.zero
  ·exact Wf.zero
 have wf2:∀ i j,Wf (Fe ws i j):=fun i j=>by
  unfold Fe
  split
  ·split
   ·split
    ·exact UX _
    ·exact UX _
   ·exact Wf.zero
  ·exact Wf.zero
 refine⟨wf,wf2,fun i=>?_,fun i j=>?_⟩
 ·refine U.eq (fun n=>BM n ..) ?_
  by_cases h0:0≤i
  ·refine U.no (E6 (by omega)) (M1 (fun n=>iB.eq_1 n ..) ?_)
   by_cases h1:i.toNat<ws.length
   ·have hl:i<((ws.map aS).length:Int):=by rw [List.length_map];omega
    have e:(ws.map aS)[i.toNat]? = some (aS ws[i.toNat]):=by rw [List.getElem?_map,C2 h1];rfl
    rw [Vf h0 h1,e]
    refine U.no (E6 (by omega)) (U.H5 (N7 (E4 h0) (E4 hl)) (U.H5 rfl (U.H5 rfl (H4 (Bt ws[i.toNat].bits) (U.H5 (Sj _) (U.ret ?_))))))
    show (true,[H7 I0 (vz _)])=_
    rw [dX]
   ·rw [Ms (fun h=>h1 h.2)]
    exact U.H5 (E4 (by rw [List.length_map];omega)) (U.ret rfl)
  ·rw [Ms (fun h=>h0 h.1)]
   exact U.H5 (E4 (by omega)) (M1 (fun n=>iB.eq_1 n ..) (U.H5 rfl (U.ret rfl)))
 ·refine U.eq (fun n=>zU n ..) ?_
  by_cases h0:0≤i
  ·refine U.no (E6 (by omega)) (M1 (fun n=>gK.eq_1 n ..) ?_)
   by_cases h1:i.toNat<ws.length
   ·have hl:i<((ws.map aS).length:Int):=by rw [List.length_map];omega
    have e:(ws.map aS)[i.toNat]? = some (aS ws[i.toNat]):=by rw [List.getElem?_map,C2 h1];rfl
    have hwi:=hw ws[i.toNat] (C6 h1)
    rw [Vn h0 h1,e]
    refine U.no (E6 (by omega)) (U.H5 (N7 (E4 h0) (E4 hl)) (U.H5 rfl ?_))
    generalize ws[i.toNat]=s at *
    by_cases hj:j<s.words.length
    ·have hj2:(j:Int)<((s.words.map fun l=>D.Z 1 (l.map bD)).length:Int):=by rw [List.length_map];omega
     have ej:(s.words.map fun l=>D.Z 1 (l.map bD))[j]? = some (.Z 1 (s.words[j].map bD)):=by rw [List.getElem?_map,C2 hj];rfl
     rw [C2 hj]
     show U (fun n=>bif decide ((j:Int)<((s.words.map fun l=>D.Z 1 (l.map bD)).length:Int)) then _ else _) _
     refine U.H5 (E4 hj2) (U.H5 (N7 (E4 (by omega)) (E4 hj2)) ?_)
     show U (fun n=>bif I5 (.leaf (.Z 1))&&K0 (.leaf (.Z 1)) (((s.words.map fun l=>D.Z 1 (l.map bD))[(j:Int).toNat]?).getD D.top) then H3 (cJ n (.Z 1 ((((s.words.map fun l=>D.Z 1 (l.map bD))[(j:Int).toNat]?).getD D.top).l))) _ else _) _
     rw [E1,ej]
     refine U.H5 rfl (H4 (Bt s.words[j]) (U.H5 (Sj _) (U.ret ?_)))
     show (true,[H7 I0 (vz _)])=_
     rw [dX]
    ·have en:s.words[j]? = none:=List.getElem?_eq_none (by omega)
     rw [en]
     show U (fun n=>bif decide ((j:Int)<((s.words.map fun l=>D.Z 1 (l.map bD)).length:Int)) then _ else _) _
     refine U.no (E6 (by rw [List.length_map];omega)) (U.H5 (N7 (N7 (E4 (by show (0:Int)≤(s.w:Int);omega)) (E4 (Int.le_refl _))) (E4 (by show (s.w:Int)≤68719476736;omega))) ?_)
     have er:List.replicate ((s.w:Int)).toNat (D.bool false)=(List.replicate s.w false).map bD:=by rw [E1,List.map_replicate];rfl
     show U (fun n=>H3 (cJ n (.Z 1 (List.replicate ((s.w:Int)).toNat (D.bool false)))) _) _
     rw [er]
     refine H4 (Bt _) (U.H5 (Sj _) (U.ret ?_))
     show (true,[H7 I0 (vz _)])=_
     rw [dX]
   ·rw [Ns (fun h=>h1 h.2)]
    exact U.H5 (E4 (by rw [List.length_map];omega)) (U.ret rfl)
  ·rw [Ns (fun h=>h0 h.1)]
   exact U.H5 (E4 (by omega)) (M1 (fun n=>gK.eq_1 n ..) (U.H5 rfl (U.ret rfl)))
structure Th where
 nm:F9
 kd:Int
 nu:Int
 sn:F9
 sw:Int
 sb:Bool
 so:Int
 ps:List D
 fw:Int
 fb:Bool
 vk:Int
 vo:Int
 vw:Int
 vg:Int
 vl:Int
 vb:Bool
 vn:Int
 vs:List D
 va:List D
def FN (t:Th):List D:=[.str t.nm,.int .i64 t.kd,.int .i64 t.nu,.str t.sn,.int .i64 t.sw,.bool t.sb,.int .i64 t.so,.Z 4 t.ps,.int .i64 t.fw,.bool t.fb,.int .i64 t.vk,.int .i64 t.vo,.int .i64 t.vw,.int .i64 t.vg,.int .i64 t.vl,.bool t.vb,.int .i64 t.vn,.Z 1 t.vs,.Z 9 t.va]
def aL (t:Th):D:= .agg (FN t)
def vB:Th:=⟨[],0,0,[],0,false,0,[],0,false,0,0,0,0,0,false,0,[],[]⟩
def vX (u:F9):List Th→Option Nat
 |[]=>none
 |x::r=>bif x.nm==u then some 0 else (vX u r).map (·+1)
def aA (u:F9):List Th→Option Th
 |[]=>none
 |x::r=>bif x.nm==u then some x else aA u r
def BU (u:F9)(ts:List Th):List Th:=ts.filter fun x=>!(x.nm==u)
theorem GH {u:F9}:∀ {l:List Th} {i:Nat},vX u l=some i→∃ h:i<l.length,l[i].nm=u∧aA u l=some l[i]∧BU u l=l.take i++BU u (l.drop (i+1))
 |[],i,h=>by cases h
 |p::r,i,h=>by
  unfold vX at h
  unfold aA BU
  cases hp:p.nm==u with
  |true=>
   rw [hp] at h
   cases h
   exact⟨by simp,eq_of_beq hp,rfl,by rw [List.filter_cons_of_neg (by simp [hp])];rfl⟩
  |false=>
   rw [hp] at h
   simp only [cond_false] at h ⊢
   cases hr:vX u r with
   |none=>rw [hr] at h;cases h
   |some k=>
    rw [hr] at h
    cases h
    obtain⟨h1,h2,h3,h4⟩:=GH hr
    refine⟨by simp;omega,h2,h3,?_⟩
    rw [List.filter_cons_of_pos (by simp [hp])]
    show p::BU u r=p::(r.take k++BU u (r.drop (k+1)))
    rw [h4]
theorem GG {u:F9}:∀ {l:List Th},vX u l=none→aA u l=none∧BU u l=l
 |[],h=>⟨rfl,rfl⟩
 |p::r,h=>by
  unfold vX at h
  unfold aA BU
  cases hp:p.nm==u with
  |true=>rw [hp] at h;cases h
  |false=>
   rw [hp] at h
   simp only [cond_false] at h ⊢
   cases hr:vX u r with
   |none=>
    obtain⟨h1,h2⟩:=GG hr
    refine⟨h1,?_⟩
    rw [List.filter_cons_of_pos (by simp [hp])]
    show p::BU u r=p::r
    rw [h2]
   |some k=>rw [hr] at h;cases h
theorem Kd (x:Th)(u:F9):U (fun n=>aW n (aL x) (.str u)) fun r=>r=(true,[.bool (x.nm==u),.str u]):=
 U.eq (fun n=>wA n ..) (U.ret rfl)
theorem ZR (x t:Th):U (fun n=>W9 n (aL x) (.str t.nm) (.int .i64 t.kd) (.int .i64 t.nu) (.str t.sn) (.int .i64 t.sw) (.bool t.sb) (.int .i64 t.so) (.Z 4 t.ps) (.int .i64 t.fw) (.bool t.fb) (.int .i64 t.vk) (.int .i64 t.vo) (.int .i64 t.vw) (.int .i64 t.vg) (.int .i64 t.vl) (.bool t.vb) (.int .i64 t.vn) (.Z 1 t.vs) (.Z 9 t.va)) fun r=>r=(true,.bool (x.nm==t.nm)::FN t):=
 U.eq (fun n=>wB n ..) (U.ret rfl)
theorem Gg {l:List Th}(hl:l.length≤1048576)(t:F9):∀ (m j:Nat),l.length-j=m→j≤l.length→
  U (fun n=>O3 n (.Z 19 (l.map aL)) (l.length:Int) (j:Int) (.str t)) fun r=>match vX t (l.drop j) with
   |some i=>r=(true,[.int .i64 ((j+i:Nat):Int),.str t])
   |none=>∃ j':Int,r=(false,[.Z 19 (l.map aL),.int .i64 (l.length:Int),.int .i64 j',.str t]):=by
 intro m
 induction m with
 |zero=>
  intro j hm hj
  rw [D4 (by omega)]
  exact U.eq (fun n=>iN n _ _ _ _) (U.no (E6 (by omega)) (U.ret ⟨_,rfl⟩))
 |succ m ih=>
  intro j hm hj
  have hj2:j<l.length:=by omega
  have hj3:j<(l.map aL).length:=by rw [List.length_map];exact hj2
  have hw:IntKind.i64.wrap ((j:Int)+1)=((j+1:Nat):Int):=J9 (by omega)
  refine U.eq (fun n=>iN n _ _ _ _) (U.H5 (E4 (by omega)) (U.H5 (J8 hj3) ?_))
  rw [W7 hj3,List.getElem_map,hw,drop_cons hj2]
  have nx:=ih (j+1) (by omega) hj2
  refine U.H5 rfl (H4 (Kd l[j] t) (U.H5 rfl ?_))
  show U (fun n=>bif (l[j].nm==t) then _ else _) _
  unfold vX
  cases hp:l[j].nm==t with
  |true=>exact U.H5 rfl (U.ret rfl)
  |false=>
   refine U.no rfl (nx.mono fun r hr=>?_)
   simp only [cond_false]
   cases hi:vX t (l.drop (j+1)) with
   |none=>
    rw [hi] at hr
    exact hr
   |some i=>
    rw [hi] at hr
    show r=(true,[.int .i64 ((j+(i+1):Nat):Int),.str t])
    rw [show j+(i+1)=j+1+i by omega]
    exact hr
def Gj (t:F9)(l:List Th):Int:=match vX t l with
 |some i=>(i:Int)
 |none=>-1
theorem Ic {l:List Th}(hl:l.length≤1048576)(t:F9):U (fun n=>S6 n (.Z 19 (l.map aL)) (.str t)) fun r=>r=(true,[.int .i64 (Gj t l),.str t]):=by
 refine U.eq (fun n=>rX n _ _) ?_
 rw [List.length_map]
 have hi:=Gg hl t l.length 0 rfl (C4 _)
 rw [List.drop_zero] at hi
 unfold Gj
 cases hf:vX t l with
 |none=>
  simp only [hf] at hi
  refine U.J2 hi (fun ds h=>by obtain⟨_,h⟩:=h;cases h) fun ds h=>?_
  obtain⟨_,h⟩:=h
  cases h
  exact U.H5 rfl (U.ret rfl)
 |some i=>
  simp only [hf] at hi
  refine U.J2 hi (fun ds h=>?_) fun ds h=>by cases h
  rw [h,C5]
theorem pH {l:List Th}(hl:l.length≤1048576)(e:List D)(t:F9):U (fun n=>K7 n (.agg [.Z 19 (l.map aL),.Z 2 e]) (.str t)) fun r=>r=(true,[aL ((aA t l).getD vB)]):=by
 refine U.eq (fun n=>zZ n _ _ _) (H4 (Ic hl t) (U.H5 rfl ?_))
 unfold Gj
 cases hf:vX t l with
 |none=>
  rw [(GG hf).1]
  exact U.H5 rfl (U.ret rfl)
 |some i=>
  obtain⟨hi,h1,h2,_⟩:=GH hf
  have hi2:i<(l.map aL).length:=by rw [List.length_map];exact hi
  rw [h2]
  have hg:(l.map aL)[((i:Nat):Int).toNat]?.getD D.top=aL l[i]:=by rw [W7 hi2,List.getElem_map]
  refine U.no (E6 (show ¬ (i:Int)<0 by omega)) (U.H5 (J8 hi2) ?_)
  show U (fun n=>bif I5 I4&&K0 I4 ((l.map aL)[((i:Nat):Int).toNat]?.getD D.top) then some (true,[H7 I4 ((l.map aL)[((i:Nat):Int).toNat]?.getD D.top)]) else none) _
  rw [hg]
  exact U.H5 rfl (U.ret rfl)
theorem Mu {l:List Th}(hl:l.length≤1048576)(e:List D)(t:F9):U (fun n=>cK n (.agg [.Z 19 (l.map aL),.Z 2 e]) (.str t)) fun r=>r=(true,[.int .i64 ((aA t l).getD vB).kd,.int .i64 ((aA t l).getD vB).nu,.agg [.str ((aA t l).getD vB).sn,.int .i64 ((aA t l).getD vB).sw,.bool ((aA t l).getD vB).sb,.int .i64 ((aA t l).getD vB).so]]):=
 U.eq (fun n=>zX n _ _ _) (H4 (pH hl e t) (U.H5 rfl (U.ret rfl)))
theorem Gl {l:List Th}(hl:l.length≤1048576)(t:Th):∀ (m j:Nat),l.length-j=m→j≤l.length→
  U (fun n=>M7 n (l.length:Int) (j:Int) (.Z 19 (l.map aL)) (.str t.nm) (.int .i64 t.kd) (.int .i64 t.nu) (.str t.sn) (.int .i64 t.sw) (.bool t.sb) (.int .i64 t.so) (.Z 4 t.ps) (.int .i64 t.fw) (.bool t.fb) (.int .i64 t.vk) (.int .i64 t.vo) (.int .i64 t.vw) (.int .i64 t.vg) (.int .i64 t.vl) (.bool t.vb) (.int .i64 t.vn) (.Z 1 t.vs) (.Z 9 t.va)) fun r=>match vX t.nm (l.drop j) with
   |some i=>r=(true,.int .i64 ((j+i:Nat):Int)::(.Z 19 (l.map aL))::FN t)
   |none=>∃ j':Int,r=(false,.int .i64 (l.length:Int) :: .int .i64 j'::(.Z 19 (l.map aL))::FN t):=by
 intro m
 induction m with
 |zero=>
  intro j hm hj
  rw [D4 (by omega)]
  exact U.eq (fun n=>gQ n ..) (U.no (E6 (by omega)) (U.ret ⟨_,rfl⟩))
 |succ m ih=>
  intro j hm hj
  have hj2:j<l.length:=by omega
  have hj3:j<(l.map aL).length:=by rw [List.length_map];exact hj2
  have hw:IntKind.i64.wrap ((j:Int)+1)=((j+1:Nat):Int):=J9 (by omega)
  refine U.eq (fun n=>gQ n ..) (U.H5 (E4 (by omega)) (U.H5 (J8 hj3) ?_))
  rw [W7 hj3,List.getElem_map,hw,drop_cons hj2]
  have nx:=ih (j+1) (by omega) hj2
  refine U.H5 rfl (H4 (ZR l[j] t) (U.H5 rfl ?_))
  show U (fun n=>bif (l[j].nm==t.nm) then _ else _) _
  unfold vX
  cases hp:l[j].nm==t.nm with
  |true=>exact U.H5 rfl (U.ret rfl)
  |false=>
   refine U.no rfl (nx.mono fun r hr=>?_)
   simp only [cond_false]
   cases hi:vX t.nm (l.drop (j+1)) with
   |none=>
    rw [hi] at hr
    exact hr
   |some i=>
    rw [hi] at hr
    show r=(true,.int .i64 ((j+(i+1):Nat):Int)::(.Z 19 (l.map aL))::FN t)
    rw [show j+(i+1)=j+1+i by omega]
    exact hr
theorem Cp {l:List Th}(hl:l.length≤1048576)(t:Th):U (fun n=>Q3 n (.Z 19 (l.map aL)) (.str t.nm) (.int .i64 t.kd) (.int .i64 t.nu) (.str t.sn) (.int .i64 t.sw) (.bool t.sb) (.int .i64 t.so) (.Z 4 t.ps) (.int .i64 t.fw) (.bool t.fb) (.int .i64 t.vk) (.int .i64 t.vo) (.int .i64 t.vw) (.int .i64 t.vg) (.int .i64 t.vl) (.bool t.vb) (.int .i64 t.vn) (.Z 1 t.vs) (.Z 9 t.va)) fun r=>r=(true,.int .i64 (Gj t.nm l)::(.Z 19 (l.map aL))::FN t):=by
 refine U.eq (fun n=>qB n ..) ?_
 rw [List.length_map]
 have hi:=Gl hl t l.length 0 rfl (C4 _)
 rw [List.drop_zero] at hi
 unfold Gj
 cases hf:vX t.nm l with
 |none=>
  simp only [hf] at hi
  refine U.J2 hi (fun ds h=>by obtain⟨_,h⟩:=h;cases h) fun ds h=>?_
  obtain⟨_,h⟩:=h
  cases h
  exact U.H5 rfl (U.ret rfl)
 |some i=>
  simp only [hf] at hi
  refine U.J2 hi (fun ds h=>?_) fun ds h=>by cases h
  rw [h,C5]
theorem PJ {α:Type}{l:List α}{i:Nat}{x:α}(h:i<l.length):(l.set i x).take (i+1)=l.take i++[x]:=by
 rw [List.take_succ_eq_append_getElem (by rw [List.length_set];exact h),List.take_set_of_le (B9 _),List.getElem_set_self]
theorem Jw {t:Th}:∀ (m j i:Nat) (l:List Th),l.length-j=m→j≤l.length→i≤j→l.length≤1048576→
  U (fun n=>L1 n (i:Int) (j:Int) (.str t.nm) (.int .i64 t.kd) (.int .i64 t.nu) (.str t.sn) (.int .i64 t.sw) (.bool t.sb) (.int .i64 t.so) (.Z 4 t.ps) (.int .i64 t.fw) (.bool t.fb) (.int .i64 t.vk) (.int .i64 t.vo) (.int .i64 t.vw) (.int .i64 t.vg) (.int .i64 t.vl) (.bool t.vb) (.int .i64 t.vn) (.Z 1 t.vs) (.Z 9 t.va) (.Z 19 (l.map aL))) fun r=>∃ (i':Nat) (j':Int) (l':List Th),r=(false,[.int .i64 (i':Int),.int .i64 j',.str t.nm,.int .i64 t.kd,.int .i64 t.nu,.str t.sn,.int .i64 t.sw,.bool t.sb,.int .i64 t.so,.Z 4 t.ps,.int .i64 t.fw,.bool t.fb,.int .i64 t.vk,.int .i64 t.vo,.int .i64 t.vw,.int .i64 t.vg,.int .i64 t.vl,.bool t.vb,.int .i64 t.vn,.Z 1 t.vs,.Z 9 t.va,.Z 19 (l'.map aL)])∧l'.length=l.length∧i'≤l.length∧l'.take i'=l.take i++BU t.nm (l.drop j):=by
 intro m
 induction m with
 |zero=>
  intro j i l hm hj hi hl
  refine U.eq (fun n=>hG n ..) (U.no (E6 (by rw [List.length_map];omega)) (U.ret ⟨i,j,l,rfl,rfl,by omega,?_⟩))
  rw [D4 (by omega)]
  exact (D5 _).symm
 |succ m ih=>
  intro j i l hm hj hi hl
  have hj2:j<l.length:=by omega
  have hj3:j<(l.map aL).length:=by rw [List.length_map];exact hj2
  have hi3:i<(l.map aL).length:=by rw [List.length_map];omega
  have hw:IntKind.i64.wrap ((j:Int)+1)=((j+1:Nat):Int):=J9 (by omega)
  have hw2:IntKind.i64.wrap ((i:Int)+1)=((i+1:Nat):Int):=J9 (by omega)
  refine U.eq (fun n=>hG n ..) (U.H5 (E4 (by omega)) (U.H5 (J8 hj3) ?_))
  rw [W7 hj3,List.getElem_map,hw,hw2,drop_cons hj2]
  refine U.H5 rfl (H4 (ZR l[j] t) (U.H5 rfl ?_))
  show U (fun n=>bif !(l[j].nm==t.nm) then _ else _) _
  unfold BU
  cases hp:l[j].nm==t.nm with
  |true=>
   rw [List.filter_cons_of_neg (by simp [hp])]
   exact U.no rfl (ih (j+1) i l (by omega) (by omega) (by omega) hl)
  |false=>
   rw [List.filter_cons_of_pos (by simp [hp])]
   refine U.H5 rfl (U.H5 (J8 hi3) ?_)
   have e:(l.map aL).set ((i:Nat):Int).toNat (H7 I4 (aL l[j]))=(l.set i l[j]).map aL:=by rw [E1,List.map_set];rfl
   rw [e]
   refine (ih (j+1) (i+1) (l.set i l[j]) (by rw [List.length_set];omega) (by rw [List.length_set];omega) (by omega) (by rw [List.length_set];exact hl)).mono ?_
   rintro _ ⟨i',j',l',rfl,h1,h2,h3⟩
   rw [List.length_set] at h1 h2
   refine⟨i',j',l',rfl,h1,h2,?_⟩
   rw [h3,PJ (by omega),List.drop_set_of_lt (by omega),C1]
   rfl
theorem Sn {l:List Th}(hl:l.length≤1048576)(t:Th):U (fun n=>R4 n (.str t.nm) (.int .i64 t.kd) (.int .i64 t.nu) (.str t.sn) (.int .i64 t.sw) (.bool t.sb) (.int .i64 t.so) (.Z 4 t.ps) (.int .i64 t.fw) (.bool t.fb) (.int .i64 t.vk) (.int .i64 t.vo) (.int .i64 t.vw) (.int .i64 t.vg) (.int .i64 t.vl) (.bool t.vb) (.int .i64 t.vn) (.Z 1 t.vs) (.Z 9 t.va) (.Z 19 (l.map aL))) fun r=>r=(true,[.str t.nm,.int .i64 t.kd,.int .i64 t.nu,.str t.sn,.int .i64 t.sw,.bool t.sb,.int .i64 t.so,.Z 4 t.ps,.int .i64 t.fw,.bool t.fb,.int .i64 t.vk,.int .i64 t.vo,.int .i64 t.vw,.int .i64 t.vg,.int .i64 t.vl,.bool t.vb,.int .i64 t.vn,.Z 1 t.vs,.Z 9 t.va,.Z 19 ((BU t.nm l).map aL)]):=by
 refine U.eq (fun n=>rI n ..) (H4 (Cp hl t) (U.H5 rfl ?_))
 unfold Gj
 cases hf:vX t.nm l with
 |none=>
  rw [(GG hf).2]
  exact U.H5 rfl (U.ret rfl)
 |some i=>
  obtain⟨hi,h1,h2,h3⟩:=GH hf
  have hw:IntKind.i64.wrap ((i:Int)+1)=((i+1:Nat):Int):=J9 (by omega)
  have hn:((i:Int) == -1)=false:=by
   rw [E9];omega
  refine U.no hn ?_
  show U (fun n=>AE.J2 (L1 n (i:Int) (.int .i64 (IntKind.i64.wrap ((i:Int)+1))) (.str t.nm) (.int .i64 t.kd) (.int .i64 t.nu) (.str t.sn) (.int .i64 t.sw) (.bool t.sb) (.int .i64 t.so) (.Z 4 t.ps) (.int .i64 t.fw) (.bool t.fb) (.int .i64 t.vk) (.int .i64 t.vo) (.int .i64 t.vw) (.int .i64 t.vg) (.int .i64 t.vl) (.bool t.vb) (.int .i64 t.vn) (.Z 1 t.vs) (.Z 9 t.va) (.Z 19 (l.map aL))) _) _
  rw [hw]
  refine U.J2 (Jw _ (i+1) i l rfl hi (by omega) hl) (fun ds h=>by obtain⟨_,_,_,h,_⟩:=h;cases h) fun ds h=>?_
  obtain⟨i',j',l',h,k1,k2,k3⟩:=h
  cases h
  rw [h3,← k3]
  have k4:(l'.map aL).length=l'.length:=List.length_map ..
  have hlen:((l'.map aL).take i').length=i':=by rw [D7,k4];omega
  refine U.H5 rfl (U.H5 ?_ (U.H5 ?_ (U.H5 ?_ (U.ret ?_))))
  ·show (decide ((0:Int)≤(i':Int))&&decide ((i':Int)≤((l'.map aL).length:Int))&&decide (((l'.map aL).length:Int)≤((l'.map aL).length:Int)))=true
   rw [E4 (by omega),E4 (by omega),E4 (by omega)];rfl
  ·show Nat.ble (i'+((l'.map aL).length-i')) (l'.map aL).length=true
   exact B2 (by omega)
  ·show (true&&true&&true&&decide ((0:Int)≤(i':Int))&&decide ((i':Int)≤(((l'.map aL).take i'++List.replicate ((l'.map aL).length-i') (aL vB)++(l'.map aL).drop (i'+((l'.map aL).length-i'))).length:Int)))=true
   rw [E4 (by omega),E4 (by simp only [A7,hlen];omega)];rfl
  ·show (true,[.str t.nm,.int .i64 t.kd,.int .i64 t.nu,.str t.sn,.int .i64 t.sw,.bool t.sb,.int .i64 t.so,.Z 4 t.ps,.int .i64 t.fw,.bool t.fb,.int .i64 t.vk,.int .i64 t.vo,.int .i64 t.vw,.int .i64 t.vg,.int .i64 t.vl,.bool t.vb,.int .i64 t.vn,.Z 1 t.vs,.Z 9 t.va,D.Z 19 (((l'.map aL).take i'++List.replicate ((l'.map aL).length-i') (aL vB)++(l'.map aL).drop (i'+((l'.map aL).length-i'))).take i')])=_
   rw [C1,List.take_left' hlen,List.map_take]
theorem Gb {l:List D}(hl:l.length≤1048576):U (fun n=>aV n (.Z 19 l)) fun r=>r=(true,[.Z 19 l]):=by
 refine U.eq (fun n=>vZ n l) ?_
 have hb:Nat.ble (0+l.length) J5=true:=B2 (by simp only [J5];omega)
 refine U.P7 (fun he=>?_) fun he=>U.H5 hb (U.ret rfl)
 have:l=[]:=by simpa using he
 subst this
 exact U.agree (U.ret rfl) (U.H5 rfl (U.ret rfl)) rfl
def xO (t:Th)(l:List Th):List Th:=BU t.nm l++[t]
theorem YN (u:F9)(l:List Th):(BU u l).length≤l.length:=List.length_filter_le ..
theorem OI {l:List Th}(hl:l.length≤1048576)(e:List D)(t:Th):U (fun n=>V1 n (.agg [.Z 19 (l.map aL),.Z 2 e]) (aL t)) fun r=>r=(true,[.agg [.Z 19 ((xO t l).map aL),.Z 2 e]]):=by
 refine U.eq (fun n=>AA n ..) (H4 (Gb (by rw [List.length_map];exact hl)) (U.H5 rfl (H4 (Sn hl t) (U.H5 rfl (U.H5 ?_ (U.ret ?_))))))
 ·refine B2 ?_
  show ((BU t.nm l).map aL).length+1≤J5
  have:=YN t.nm l
  rw [List.length_map];simp only [J5];omega
 ·show (true,[D.agg [.Z 19 ((BU t.nm l).map aL++[aL t]),.Z 2 e]])=_
  rw [xO,List.map_append];rfl
def xP (e:eE)(l:List Th):eE:=l.foldl (fun v x=>bif x.kd==1 then nE x.nm x.nu v else v) e
theorem RH:∀ (l:List Th) (e:eE),(xP e l).length≤e.length+l.length
 |[],e=>B9 _
 |x::l,e=>by
  have h:=RH l (bif x.kd==1 then nE x.nm x.nu e else e)
  have h2:=zQ x.nm x.nu e
  show (xP (bif x.kd==1 then nE x.nm x.nu e else e) l).length≤_
  have h3:(bif x.kd==1 then nE x.nm x.nu e else e).length≤e.length+1:=by
   cases x.kd==1 with
   |true=>exact h2
   |false=>exact Nat.le_succ _
  simp only [A0]
  omega
theorem Hf {l:List Th}(X:List D):∀ (m j:Nat) (e:eE),l.length-j=m→j≤l.length→e.length+l.length≤1048576+j→
  l.length≤1048576→U (fun n=>Q4 n (.Z 19 (l.map aL)) (l.length:Int) (j:Int) (.Z 2 X) (.Z 2 (e.map gY))) fun r=>∃ j':Int,r=(false,[.Z 19 (l.map aL),.int .i64 (l.length:Int),.int .i64 j',.Z 2 X,.Z 2 ((xP e (l.drop j)).map gY)]):=by
 intro m
 induction m with
 |zero=>
  intro j e hm hj he hl
  rw [D4 (by omega)]
  exact U.eq (fun n=>lW n ..) (U.no (E6 (by omega)) (U.ret ⟨_,rfl⟩))
 |succ m ih=>
  intro j e hm hj he hl
  have hj2:j<l.length:=by omega
  have hj3:j<(l.map aL).length:=by rw [List.length_map];exact hj2
  have hw:IntKind.i64.wrap ((j:Int)+1)=((j+1:Nat):Int):=J9 (by omega)
  refine U.eq (fun n=>lW n ..) (U.H5 (E4 (by omega)) (U.H5 (J8 hj3) ?_))
  rw [W7 hj3,List.getElem_map,hw,drop_cons hj2]
  refine U.H5 rfl ?_
  show U (fun n=>bif (l[j].kd==1) then _ else _) _
  show U _ fun r=>∃ j':Int,r=(false,[_,_,.int .i64 j',_,.Z 2 ((xP (bif l[j].kd==1 then nE l[j].nm l[j].nu e else e) (l.drop (j+1))).map gY)])
  cases hp:l[j].kd==1 with
  |true=>
   have h2:=zQ l[j].nm l[j].nu e
   exact U.H5 rfl (H4 (VT (by omega) l[j].nm l[j].nu) (U.H5 rfl (ih (j+1) (nE l[j].nm l[j].nu e) (by omega) hj2 (by omega) hl)))
  |false=>exact U.no rfl (ih (j+1) e (by omega) hj2 (by omega) hl)
theorem Dx {l:List Th}(hl:l.length≤1048576)(e:List D):U (fun n=>V6 n (.agg [.Z 19 (l.map aL),.Z 2 e])) fun r=>r=(true,[.agg [.Z 2 ((xP [] l).map gY)]]):=by
 refine U.eq (fun n=>yI n ..) ?_
 rw [List.length_map]
 refine U.J2 (Hf [] _ 0 [] rfl (C4 _) (by simpa using hl) hl) (fun ds h=>by obtain⟨_,h⟩:=h;cases h) fun ds h=>?_
 obtain⟨_,h⟩:=h
 cases h
 rw [List.drop_zero]
 exact U.H5 rfl (U.ret rfl)
def Vq (u:F9)(m:Int):Th:=⟨u,1,m,[],0,false,0,[],0,false,0,0,0,0,0,false,0,[],[]⟩
def Tt (u:F9)(m:Int)(s:F9)(w:Int)(b:Bool)(k:Int):Th:=⟨u,2,m,s,w,b,k,[],0,false,0,0,0,0,0,false,0,[],[]⟩
def Ud (u:F9)(ps:List D)(w:Int)(b:Bool)(k o vw g l:Int)(vb:Bool)(n:Int)(vs va:List D):Th:=⟨u,3,0,[],0,false,0,ps,w,b,k,o,vw,g,l,vb,n,vs,va⟩
theorem EH (t:Th)(l:List Th):(xO t l).length≤l.length+1:=by
 have:=YN t.nm l
 rw [xO,A7]
 show _+1≤_
 omega
theorem Ju {l:List Th}{e:eE}(hl:l.length≤1048575)(he:e.length≤1048576)(u:F9)(m:Int):U (fun n=>bM n (.agg [.Z 19 (l.map aL),.Z 2 (e.map gY)]) (.str u) m) fun r=>r=(true,[.agg [.Z 19 ((xO (Vq u m) l).map aL),.Z 2 ((nE u m e).map gY)]]):=
 U.eq (fun n=>yH n ..) (H4 (OI (by omega) _ (Vq u m)) (U.H5 rfl (H4 (VT he u m) (U.H5 rfl (U.ret rfl)))))
theorem Cg {l:List Th}(hl:l.length≤1048575)(e:List D)(u:F9)(m:Int)(s:F9)(w:Int)(b:Bool)(k:Int):U (fun n=>X4 n (.agg [.Z 19 (l.map aL),.Z 2 e]) (.str u) m (.agg [.str s,.int .i64 w,.bool b,.int .i64 k])) fun r=>r=(true,[.agg [.Z 19 ((xO (Tt u m s w b k) l).map aL),.Z 2 ((xP [] (xO (Tt u m s w b k) l)).map gY)]]):=
 have:=EH (Tt u m s w b k) l
 U.eq (fun n=>CH n ..) (H4 (OI (by omega) _ (Tt u m s w b k)) (U.H5 rfl (H4 (Dx (by omega) e) (U.H5 rfl (U.ret rfl)))))
theorem Pd {l:List Th}(hl:l.length≤1048575)(e:List D)(u:F9)(ps:List D)(w:Int)(b:Bool)(k o vw g lo:Int)(vb:Bool)(m:Int)(vs va:List D):U (fun n=>cL n (.agg [.Z 19 (l.map aL),.Z 2 e]) (.str u) (.agg [.Z 4 ps,.int .i64 w,.bool b,.int .i64 k,.int .i64 o,.int .i64 vw,.int .i64 g,.int .i64 lo,.bool vb,.int .i64 m,.Z 1 vs,.Z 9 va])) fun r=>r=(true,[.agg [.Z 19 ((xO (Ud u ps w b k o vw g lo vb m vs va) l).map aL),.Z 2 ((xP [] (xO (Ud u ps w b k o vw g lo vb m vs va) l)).map gY)]]):=
 have:=EH (Ud u ps w b k o vw g lo vb m vs va) l
 U.eq (fun n=>zY n ..) (H4 (OI (by omega) _ (Ud u ps w b k o vw g lo vb m vs va)) (U.H5 rfl (H4 (Dx (by omega) e) (U.H5 rfl (U.ret rfl)))))
section
structure Er where
 p:Int
 q:Int
 r:Int
 e:Int
def rs (T:List Th)(L:List D)(s:Er)(m:Int):List D:=[.Z 19 (T.map aL),.Z 2 L,.int .i64 s.p,.int .i64 s.q,.int .i64 s.r,.int .i64 s.e,.int .i64 m]
def AB (s s':Er):Prop:=s.e≠0→s'.e≠0
theorem AB.tr {a b c:Er}(h:AB a b)(k:AB b c):AB a c:=fun x=>k (h x)
theorem AB.of {a b:Er}(h:AB a b):b.e=0→a.e=0:=fun x=>Decidable.byContradiction fun y=>h y x
def IV (t:F9):Bool:=t.take 1==[36]
def Vs (y:D):Prop:=∃ (s:F9) (w:Int) (b:Bool) (k:Int),y = .agg [.str s,.int .i64 w,.bool b,.int .i64 k]
def Ni (t:Th):D:= .agg [.int .i64 t.vk,.int .i64 t.vo,.int .i64 t.vw,.int .i64 t.vg,.int .i64 t.vl,.bool t.vb,.int .i64 t.vn,.Z 1 t.vs,.Z 9 t.va]
structure Re (ns:Nat) (M:Int→Prop) (t:Th):Prop where
 lo:0≤t.nu
 hi:t.nu<(ns:Int)
 w1:1≤t.sw
 w2:t.sw≤128
 mem:0<t.so→M t.nu
structure Ir (t:Th):Prop where
 w1:1≤t.fw
 w2:t.fw≤128
 val:∃ v,Ni t=enc v∧Good t.ps.length (fun _=>False) v∧L6 v≤20000
 ps:∀ y∈t.ps,Vs y
structure Sc (T:List Th) (L:List D) (kf:D→KR) (ns:Nat) (M:Int→Prop):Prop where
 len:T.length≤1048576
 kon:∀ d x,rS d x→U (fun n=>dZ n x (.agg [.Z 2 L])) fun r=>r=(true,(kf x).out)
 sig:∀ t,((aA t T).getD vB).kd=2→Re ns M ((aA t T).getD vB)
 fn:∀ t,((aA t T).getD vB).kd=3→Ir ((aA t T).getD vB)
def Fit (T:List Th)(kf:D→KR):Nat→D→Prop
 |0,_=>False
 |d+1,x=>∃ (k a b c:Int) (t:F9) (xs:List D),x=cC k a b c t xs∧(k=2→((aA t T).getD vB).kd=1∨((aA t T).getD vB).kd=2)∧(k=8→((aA t T).getD vB).kd=2)∧
   (k=7→∀ y,xs.head? = some y→(kf y).e=0∧1≤(kf y).v∧(kf y).v≤128)∧(k=10→(IV t=true→xs.length=1)∧(IV t=false→((aA t T).getD vB).kd=3∧((aA t T).getD vB).ps.length=xs.length))∧
   (k≠9→k≠7→∀ y∈xs,Fit T kf d y)∧(k=7→∀ y∈xs.tail,Fit T kf d y)
section
variable {T:List Th} {L:List D} {kf:D→KR} {ns:Nat} {M:Int→Prop}
theorem pN (a b c:Int){x:Int}(hx:x≠0)(s:Er)(m:Int):U (fun n=>I3 n (.agg [.int .i64 a,.int .i64 b,.int .i64 c]) x (.Z 19 (T.map aL)) (.Z 2 L) (.int .i64 s.p) (.int .i64 s.q) (.int .i64 s.r) (.int .i64 s.e) m) fun z=>∃ s':Er,z=(true,rs T L s' m)∧s'.e≠0:=by
 refine U.eq (fun n=>vF n ..) (U.P7 (fun h=>U.ret ⟨⟨a,b,c,x⟩,rfl,hx⟩) fun h=>U.ret ⟨s,rfl,?_⟩)
 intro h0
 rw [h0] at h
 cases h
def BA (T:List Th)(L:List D)(kf:D→KR)(d:Nat)(x:D):Prop:=∀ (s:Er) (m:Int),U (fun n=>I6 n x (.Z 19 (T.map aL)) (.Z 2 L) (.int .i64 s.p) (.int .i64 s.q) (.int .i64 s.r) (.int .i64 s.e) m) fun z=>∃ (w:Int) (g:Bool) (s':Er),z=(true,.agg [.int .i64 w,.bool g]::rs T L s' m)∧AB s s'∧(s'.e=0→1≤w∧w≤128∧Fit T kf d x)
def pO (P:Prop)(s:Er)(T:List Th)(L:List D)(m:Int)(z:Bool×List D):Prop:=∃ (w:Int) (g:Bool) (s':Er),z=(true,.agg [.int .i64 w,.bool g]::rs T L s' m)∧AB s s'∧(s'.e=0→1≤w∧w≤128∧P)
theorem GJ (w1:Int)(g1:Bool)(w2:Int)(g2:Bool):∃ g:Bool,U (fun n=>bO n (.agg [.int .i64 w1,.bool g1]) (.agg [.int .i64 w2,.bool g2])) fun r=>r=(true,[.agg [.int .i64 (max w1 w2),.bool g]]):=by
 cases g1 with
 |true=>exact⟨g2,U.eq (fun n=>vV n ..) (U.H5 rfl (U.ret rfl))⟩
 |false=>exact⟨false,U.eq (fun n=>vV n ..) (U.no rfl (U.ret rfl))⟩
theorem Fa (k a b c:Int)(t:F9)(xs:List D)(w:Int)(g:Bool)(s:Er)(m:Int):U (fun n=>U2 n (cC k a b c t xs) w (.bool g) (.Z 19 (T.map aL)) (.Z 2 L) (.int .i64 s.p) (.int .i64 s.q) (.int .i64 s.r) (.int .i64 s.e) m) fun z=>∃ s':Er,z=(true,.agg [.int .i64 w,.bool g]::rs T L s' m)∧AB s s'∧(s'.e=0→w≤128):=by
 refine U.eq (fun n=>vJ n ..) (U.P7 (fun h=>?_) fun h=>U.ret ⟨s,rfl,fun h=>h,fun _=>?_⟩)
 ·refine U.H3 (pN a b c (x:=2) (by decide) s m) ?_
  rintro _ _ ⟨s',h,he⟩
  cases h
  exact⟨rfl,U.H5 rfl (U.ret ⟨s',rfl,fun _=>he,fun h=>absurd h he⟩)⟩
 ·have:=E7 h
  omega
section
variable (W:Sc T L kf ns M)
include W
theorem VH (k a b c:Int)(t:F9)(xs:List D)(s:Er)(m:Int):U (fun n=>O5 n (cC k a b c t xs) (.Z 19 (T.map aL)) (.Z 2 L) (.int .i64 s.p) (.int .i64 s.q) (.int .i64 s.r) (.int .i64 s.e) m) fun z=>∃ s':Er,z=(true,aL ((aA t T).getD vB)::rs T L s' m)∧AB s s'∧(s'.e=0→((aA t T).getD vB).kd=2):=by
 refine U.eq (fun n=>sX n ..) (H4 (pH W.len L t) (U.H5 rfl ?_))
 generalize ((aA t T).getD vB)=u
 refine U.P7 (fun h=>?_) fun h=>U.P7 (fun h2=>U.ret ⟨s,rfl,fun h=>h,fun _=>eq_of_beq h2⟩) fun h2=>?_
 ·refine U.H3 (pN a b c (x:=9) (by decide) s m) ?_
  rintro _ _ ⟨s',h,he⟩
  cases h
  exact⟨rfl,U.H5 rfl (U.ret ⟨s',rfl,fun _=>he,fun h=>absurd h he⟩)⟩
 ·refine U.H3 (pN a b c (x:=11) (by decide) s m) ?_
  rintro _ _ ⟨s',h,he⟩
  cases h
  exact⟨rfl,U.H5 rfl (U.ret ⟨s',rfl,fun _=>he,fun h=>absurd h he⟩)⟩
theorem VC {d:Nat}{x:D}(hx:rS d x)(s:Er)(m:Int):U (fun n=>K8 n x (.Z 19 (T.map aL)) (.Z 2 L) (.int .i64 s.p) (.int .i64 s.q) (.int .i64 s.r) (.int .i64 s.e) m) fun z=>∃ s':Er,z=(true,.int .i64 (kf x).v::rs T L s' m)∧AB s s'∧(s'.e=0→(kf x).e=0):=by
 have hk:=W.kon d x hx
 generalize kf x=z at hk
 obtain⟨k,a,b,c,t,xs,rfl⟩:=P6 hx
 refine U.eq (fun n=>rN n ..) (H4 hk (U.H5 rfl (U.P7 (fun h=>?_) fun h=>U.ret ⟨s,rfl,fun h=>h,fun _=>?_⟩)))
 ·have he:z.e≠0:=by
   intro h0
   have h:(z.e !=0)=true:=h
   rw [h0] at h
   cases h
  refine U.H3 (pN z.p z.q z.r he s m) ?_
  rintro _ _ ⟨s',h,he⟩
  cases h
  exact⟨rfl,U.H5 rfl (U.ret ⟨s',rfl,fun _=>he,fun h=>absurd h he⟩)⟩
 ·have h:(z.e !=0)=false:=h
  simpa using h
theorem Mi {d:Nat}{x:D}(hx:rS d x)(s:Er)(m:Int):U (fun n=>S9 n x (.Z 19 (T.map aL)) (.Z 2 L) (.int .i64 s.p) (.int .i64 s.q) (.int .i64 s.r) (.int .i64 s.e) m) fun z=>z=(true,.int .i64 (kf x).v :: .bool ((kf x).e==0)::rs T L s m):=by
 have hk:=W.kon d x hx
 obtain⟨k,a,b,c,t,xs,rfl⟩:=P6 hx
 exact U.eq (fun n=>tT n ..) (H4 hk (U.H5 rfl (U.ret rfl)))
theorem Eg {d:Nat}{x y:D}(hx:rS d x)(hy:rS d y)(k a b c:Int)(t:F9)(s:Er)(m:Int):U (fun n=>Q9 n (cC k a b c t [x,y]) (.Z 19 (T.map aL)) (.Z 2 L) (.int .i64 s.p) (.int .i64 s.q) (.int .i64 s.r) (.int .i64 s.e) m) fun z=>∃ (hi lo:Int) (s':Er),z=(true,.int .i64 hi :: .int .i64 lo::rs T L s' m)∧AB s s'∧(s'.e=0→((aA t T).getD vB).kd=2∧0≤lo∧lo≤hi∧hi<((aA t T).getD vB).sw):=by
 have c1:=fun s=>VC W hx s m
 have c2:=fun s=>VC W hy s m
 have c3:=fun s=>VH W k a b c t [x,y] s m
 obtain⟨k1,a1,b1,d1,t1,xs1,rfl⟩:=P6 hx
 obtain⟨k2,a2,b2,d2,t2,xs2,rfl⟩:=P6 hy
 generalize (kf (cC k1 a1 b1 d1 t1 xs1))=u at c1
 generalize (kf (cC k2 a2 b2 d2 t2 xs2))=v at c2
 refine U.eq (fun n=>sV n ..) (U.H5 rfl (U.H5 rfl (U.H3 (c1 s) ?_)))
 rintro _ _ ⟨s1,h,hs1,_⟩;cases h
 refine⟨rfl,U.H5 rfl (U.H5 rfl (U.H5 rfl (U.H3 (c2 s1) ?_)))⟩
 rintro _ _ ⟨s2,h,hs2,_⟩;cases h
 refine⟨rfl,U.H5 rfl (U.H3 (c3 s2) ?_)⟩
 rintro _ _ ⟨s3,h,hs3,hk⟩;cases h
 generalize ((aA t T).getD vB)=w at hk ⊢
 have j2:∀ (g:Bool) (s4:Er),AB s s4→(s4.e=0→w.kd=2∧(g=false→0≤v.v∧v.v≤u.v∧u.v<w.sw))→U (fun n=>aJ n g a b c (T.map aL) L s4.p s4.q s4.r s4.e m (.int .i64 u.v::rs T L s1 m) (.int .i64 v.v::rs T L s2 m)) fun z=>∃ (hi lo:Int) (s':Er),z=(true,.int .i64 hi :: .int .i64 lo::rs T L s' m)∧AB s s'∧(s'.e=0→w.kd=2∧0≤lo∧lo≤hi∧hi<w.sw):=by
  intro g s4 hk4 hg
  refine M1 (fun n=>aJ.eq_1 n ..) ?_
  cases g with
  |true=>
   refine U.H5 rfl (U.H3 (pN a b c (x:=3) (by decide) s4 m) ?_)
   rintro _ _ ⟨s5,h,he⟩;cases h
   exact⟨rfl,U.H5 rfl (U.ret ⟨u.v,v.v,s5,rfl,fun _=>he,fun h=>absurd h he⟩)⟩
  |false=>exact U.no rfl (U.ret ⟨u.v,v.v,s4,rfl,hk4,fun h=>⟨(hg h).1,(hg h).2 rfl⟩⟩)
 have j1:∀ s4:Er,AB s s4→(s4.e=0→w.kd=2)→U (fun n=>cX n (T.map aL) L s4.p s4.q s4.r s4.e m (.int .i64 v.v::rs T L s2 m) a b c (.int .i64 u.v::rs T L s1 m) (aL w::rs T L s3 m)) fun z=>∃ (hi lo:Int) (s':Er),z=(true,.int .i64 hi :: .int .i64 lo::rs T L s' m)∧AB s s'∧(s'.e=0→w.kd=2∧0≤lo∧lo≤hi∧hi<w.sw):=by
  intro s4 hk4 hg
  refine M1 (fun n=>cX.eq_1 n ..) (U.P7 (fun h=>j2 true s4 hk4 fun h=>⟨hg h,fun h=>by cases h⟩) fun h=>U.P7 (fun h=>j2 true s4 hk4 fun h=>⟨hg h,fun h=>by cases h⟩) fun h2=>j2 _ s4 hk4 fun h0=>⟨hg h0,fun h3=>?_⟩)
  have h:decide (v.v<0)=false:=h
  have h2:decide (u.v<v.v)=false:=h2
  have h3:decide (u.v≥w.sw)=false:=h3
  have:=E7 h
  have:=E7 h2
  have:=E7 h3
  omega
 refine⟨rfl,U.H5 rfl (U.P7 (fun h=>?_) fun h=>j1 s3 ((hs1.tr hs2).tr hs3) hk)⟩
 refine U.H3 (pN a b c (x:=11) (by decide) s3 m) ?_
 rintro _ _ ⟨s5,h,he⟩;cases h
 exact⟨rfl,U.H5 rfl (j1 s5 (fun _=>he) fun h=>absurd h he)⟩
theorem Vc (k a b c:Int)(t:F9)(xs:List D)(s:Er)(m:Int):U (fun n=>aC n (cC k a b c t xs) (.Z 19 (T.map aL)) (.Z 2 L) (.int .i64 s.p) (.int .i64 s.q) (.int .i64 s.r) (.int .i64 s.e) m) (pO (((aA t T).getD vB).kd=1∨((aA t T).getD vB).kd=2) s T L m):=by
 have hs:=W.sig t
 have hsg:=fun s=>VH W k a b c t xs s m
 refine U.eq (fun n=>vH n ..) (H4 (pH W.len L t) (U.H5 rfl ?_))
 generalize ((aA t T).getD vB)=u at hs hsg ⊢
 refine U.P7 (fun h=>U.ret ⟨32,true,s,rfl,fun h=>h,fun _=>⟨by decide,by decide,.inl (eq_of_beq h)⟩⟩) fun h=>U.H3 (hsg s) ?_
 rintro _ _ ⟨s1,h,hs1,hk⟩;cases h
 refine⟨rfl,U.H5 rfl (U.P7 (fun h=>?_) fun h=>U.ret ⟨u.sw,u.sb,s1,rfl,hs1,fun h=>⟨(hs (hk h)).w1,(hs (hk h)).w2,.inr (hk h)⟩⟩)⟩
 refine U.H3 (pN a b c (x:=11) (by decide) s1 m) ?_
 rintro _ _ ⟨s5,h,he⟩;cases h
 exact⟨rfl,U.H5 rfl (U.ret ⟨u.sw,u.sb,s5,rfl,fun _=>he,fun h=>absurd h he⟩)⟩
theorem Tp {d:Nat}{x:D}(hx:rS d x)(hi:BA T L kf d x)(k a b c:Int)(t:F9)(s:Er)(m:Int):U (fun n=>Z2 n (cC k a b c t [x]) (.Z 19 (T.map aL)) (.Z 2 L) (.int .i64 s.p) (.int .i64 s.q) (.int .i64 s.r) (.int .i64 s.e) m) (pO (((aA t T).getD vB).kd=2∧Fit T kf d x) s T L m):=by
 have hs:=W.sig t
 have hsg:=fun s=>VH W k a b c t [x] s m
 have hf:=fun s=>Mi W hx s m
 generalize kf x=f at hf
 obtain⟨k1,a1,b1,d1,t1,xs1,rfl⟩:=P6 hx
 refine U.eq (fun n=>tU n ..) (U.H5 rfl (U.H5 rfl (U.H3 (hi s m) ?_)))
 rintro _ _ ⟨w,g,s1,h,hs1,hw⟩;cases h
 refine⟨rfl,U.H5 rfl (U.H3 (hsg s1) ?_)⟩
 generalize ((aA t T).getD vB)=u at hs hsg ⊢
 rintro _ _ ⟨s2,h,hs2,hk⟩;cases h
 have j3:∀ s4:Er,AB s s4→(s4.e=0→s2.e=0)→U (fun n=>dU n (T.map aL) L s4.p s4.q s4.r s4.e m (aL u::rs T L s2 m)) (pO (u.kd=2∧Fit T kf d (cC k1 a1 b1 d1 t1 xs1)) s T L m):=by
  intro s4 hk4 hg
  refine M1 (fun n=>dU.eq_1 n ..) (U.P7 (fun h=>?_) fun h=>?_)
  ·exact U.ret ⟨u.sw,u.sb,s4,rfl,hk4,fun h=>⟨(hs (hk (hg h))).w1,(hs (hk (hg h))).w2,hk (hg h),(hw (hs2.of (hg h))).2.2⟩⟩
  ·exact U.ret ⟨1,false,s4,rfl,hk4,fun h=>⟨by decide,by decide,hk (hg h),(hw (hs2.of (hg h))).2.2⟩⟩
 have j2:∀ q:Bool,U (fun n=>bA n q a b c (.int .i64 f.v :: .bool (f.e==0)::rs T L s2 m) (aL u::rs T L s2 m)) (pO (u.kd=2∧Fit T kf d (cC k1 a1 b1 d1 t1 xs1)) s T L m):=by
  intro q
  refine M1 (fun n=>bA.eq_1 n ..) ?_
  cases q with
  |true=>
   refine U.H5 rfl (U.H3 (pN a b c (x:=3) (by decide) s2 m) ?_)
   rintro _ _ ⟨s5,h,he⟩;cases h
   exact⟨rfl,U.H5 rfl (j3 s5 (fun _=>he) fun h=>absurd h he)⟩
  |false=>exact U.no rfl (j3 s2 (hs1.tr hs2) fun h=>h)
 have j1:∀ most:Int,U (fun n=>dT n most [cC k1 a1 b1 d1 t1 xs1] (aL u::rs T L s2 m) a b c) (pO (u.kd=2∧Fit T kf d (cC k1 a1 b1 d1 t1 xs1)) s T L m):=by
  intro most
  exact M1 (fun n=>dT.eq_1 n ..) (U.H5 rfl (U.H5 rfl (H4 (hf s2) (U.H5 rfl (U.P7 (fun h=>U.P7 (fun h=>j2 true) fun h=>j2 _) fun h=>j2 false)))))
 exact⟨rfl,U.H5 rfl (U.P7 (fun h=>j1 _) fun h=>j1 _)⟩
end
end
end
section
section
variable {T:List Th} {L:List D} {kf:D→KR} {ns:Nat} {M:Int→Prop}
theorem Vd {d:Nat}{xs:List D}(hx:∀ y∈xs,rS d y)(hi:∀ y∈xs,BA T L kf d y)(hl:xs.length≤1000)(s:Er)(m:Int):U (fun n=>T7 n (.Z 6 xs) (.Z 19 (T.map aL)) (.Z 2 L) (.int .i64 s.p) (.int .i64 s.q) (.int .i64 s.r) (.int .i64 s.e) m) fun z=>∃ (w:Int) (s':Er),z=(true,.int .i64 w::rs T L s' m)∧AB s s'∧(s'.e=0→(xs.length:Int)≤w∧w≤128*(xs.length:Int)∧∀ y∈xs,Fit T kf d y):=by
 have loop:∀ (k j:Nat) (a:Int) (s:Er),xs.length-j=k→j≤xs.length→(s.e=0→(j:Int)≤a∧a≤128*(j:Int))→
   U (fun n=>R0 n a (.Z 6 xs) (xs.length:Int) (j:Int) (.Z 19 (T.map aL)) (.Z 2 L) (.int .i64 s.p) (.int .i64 s.q) (.int .i64 s.r) (.int .i64 s.e) m) fun z=>∃ (w j':Int) (s':Er),z=(false,.int .i64 w :: .Z 6 xs :: .int .i64 (xs.length:Int) :: .int .i64 j'::rs T L s' m)∧AB s s'∧(s'.e=0→(xs.length:Int)≤w∧w≤128*(xs.length:Int)∧∀ y∈xs.drop j,Fit T kf d y):=by
  intro k
  induction k with
  |zero=>
   intro j a s hk hj ha
   refine U.eq (fun n=>kV n ..) (U.no (E6 (by omega)) (U.ret ⟨a,j,s,rfl,fun h=>h,fun h=>?_⟩))
   have e:j=xs.length:=by omega
   have:=ha h
   rw [e] at this
   refine⟨this.1,this.2,fun y hy=>?_⟩
   rw [D4 (by omega)] at hy
   cases hy
  |succ k ih=>
   intro j a s hk hj ha
   have hj2:j<xs.length:=by omega
   have hw:IntKind.i64.wrap ((j:Int)+1)=((j+1:Nat):Int):=J9 (by omega)
   have hm:=C6 hj2
   obtain⟨o1,o2⟩:=MM (P6 (hx _ hm))
   refine U.eq (fun n=>kV n ..) (U.H5 (E4 (by omega)) (U.H5 (J8 hj2) ?_))
   rw [W7 hj2,hw,o2]
   refine U.H5 o1 (U.H3 (hi _ hm s m) ?_)
   rintro _ _ ⟨w,g,s1,h,hs1,hw1⟩;cases h
   refine⟨rfl,U.H5 rfl ?_⟩
   refine (ih (j+1) (IntKind.i64.wrap (a+w)) s1 (by omega) hj2 fun h=>?_).mono ?_
   ·have h1:=ha (hs1.of h)
    obtain⟨h2,h3,_⟩:=hw1 h
    rw [N8 (by omega) (by omega)]
    omega
   ·rintro _ ⟨w',j',s',rfl,hs',hw'⟩
    refine⟨w',j',s',rfl,hs1.tr hs',fun h=>?_⟩
    obtain⟨q1,q2,q3⟩:=hw' h
    refine⟨q1,q2,fun y hy=>?_⟩
    rw [drop_cons hj2] at hy
    rcases B7.1 hy with rfl|hy
    ·exact (hw1 (hs'.of h)).2.2
    ·exact q3 y hy
 refine U.eq (fun n=>wD n ..) (U.J2 (loop xs.length 0 0 s rfl (C4 _) (fun _=>⟨by omega,by omega⟩)) (fun ds h=>by obtain⟨_,_,_,h,_⟩:=h;cases h) fun ds h=>?_)
 obtain⟨w,j',s',h,hs,hw⟩:=h
 cases h
 exact U.H5 rfl (U.ret ⟨w,s',rfl,hs,hw⟩)
theorem Wb {d:Nat}{x y:D}(hx:rS d x)(hy:rS d y)(hix:BA T L kf d x)(hiy:BA T L kf d y)(k a b c:Int)(t:F9)(s:Er)(m:Int):U (fun n=>aY n (cC k a b c t [x,y]) (.Z 19 (T.map aL)) (.Z 2 L) (.int .i64 s.p) (.int .i64 s.q) (.int .i64 s.r) (.int .i64 s.e) m) (pO (Fit T kf d x∧Fit T kf d y) s T L m):=by
 obtain⟨k1,a1,b1,d1,t1,xs1,rfl⟩:=P6 hx
 obtain⟨k2,a2,b2,d2,t2,xs2,rfl⟩:=P6 hy
 refine U.eq (fun n=>wE n ..) (U.H5 rfl (U.H5 rfl (U.H3 (hix s m) ?_)))
 rintro _ _ ⟨w1,g1,s1,h,hs1,hw1⟩;cases h
 refine⟨rfl,U.H5 rfl (U.H5 rfl (U.H5 rfl (U.H3 (hiy s1 m) ?_)))⟩
 rintro _ _ ⟨w2,g2,s2,h,hs2,hw2⟩;cases h
 refine⟨rfl,U.H5 rfl ?_⟩
 have one:pO (Fit T kf d (cC k1 a1 b1 d1 t1 xs1)∧Fit T kf d (cC k2 a2 b2 d2 t2 xs2)) s T L m (true,.agg [.int .i64 1,.bool false]::rs T L s2 m):=
  ⟨1,false,s2,rfl,hs1.tr hs2,fun h=>⟨by decide,by decide,(hw1 (hs2.of h)).2.2,(hw2 h).2.2⟩⟩
 have fst:pO (Fit T kf d (cC k1 a1 b1 d1 t1 xs1)∧Fit T kf d (cC k2 a2 b2 d2 t2 xs2)) s T L m (true,.agg [.int .i64 w1,.bool g1]::rs T L s2 m):=
  ⟨w1,g1,s2,rfl,hs1.tr hs2,fun h=>⟨(hw1 (hs2.of h)).1,(hw1 (hs2.of h)).2.1,(hw1 (hs2.of h)).2.2,(hw2 h).2.2⟩⟩
 obtain⟨g,hj⟩:=GJ w1 g1 w2 g2
 refine U.P7 (fun _=>U.ret one) fun _=>U.P7 (fun _=>U.ret one) fun _=>U.P7 (fun _=>U.ret one) fun _=>U.P7 (fun _=>U.ret one) fun _=>U.P7 (fun _=>U.ret one) fun _=>U.P7 (fun _=>U.ret one) fun _=>U.P7 (fun _=>U.ret one) fun _=>U.P7 (fun _=>U.ret one) fun _=>U.P7 (fun _=>U.ret fst) fun _=>U.P7 (fun _=>U.ret fst) fun _=>U.P7 (fun _=>U.ret fst) fun _=>U.P7 (fun _=>U.ret fst) fun _=>?_
 refine H4 hj (U.H5 rfl (U.ret ⟨max w1 w2,g,s2,rfl,hs1.tr hs2,fun h=>?_⟩))
 obtain⟨q1,q2,q3⟩:=hw1 (hs2.of h)
 obtain⟨q4,q5,q6⟩:=hw2 h
 exact⟨by omega,by omega,q3,q6⟩
theorem Me {t:F9}(ht:t∈QD):U (fun n=>Q6 n (.str t) (.str [36])) fun r=>r=(true,[.bool (IV t)]):=by
 refine U.eq (fun n=>pG n ..) ?_
 have h:U (fun n=>M5 n (.str t) (.str [36])) fun r=>r=(true,[.bool (IV t)]):=by
  simp only [QD,B7,List.not_mem_nil,or_false] at ht
  rcases ht with rfl|rfl|rfl|rfl<;>exact U.eq (fun n=>bB n ..) (by first|exact U.ret rfl|exact U.H5 rfl (U.ret rfl)|exact U.H5 rfl (U.H5 rfl (U.ret rfl))|exact U.no rfl (U.ret rfl))
 exact H4 h (U.H5 rfl (U.ret rfl))
section
variable (W:Sc T L kf ns M)
include W
theorem Va {d:Nat}{xs:List D}(hx:∀ y∈xs,rS d y)(hi:∀ y∈xs,BA T L kf d y)(hl:xs.length≤1000)(k a b c:Int){t:F9}(ht:t∈QD)(s:Er)(m:Int):U (fun n=>Y1 n (cC k a b c t xs) (.Z 19 (T.map aL)) (.Z 2 L) (.int .i64 s.p) (.int .i64 s.q) (.int .i64 s.r) (.int .i64 s.e) m) (pO ((∀ y∈xs,Fit T kf d y)∧(IV t=true→xs.length=1)∧(IV t=false→((aA t T).getD vB).kd=3∧((aA t T).getD vB).ps.length=xs.length)) s T L m):=by
 have hf:=W.fn t
 have hfi:=pH W.len L t
 generalize ((aA t T).getD vB)=u at hf hfi ⊢
 have loop:∀ (q j:Nat) (w:Int) (g:Bool) (s:Er),xs.length-j=q→j≤xs.length→(s.e=0→j=0∨(1≤w∧w≤128))→
   U (fun n=>P9 n (.Z 6 xs) (xs.length:Int) (j:Int) (.Z 19 (T.map aL)) (.Z 2 L) (.int .i64 s.p) (.int .i64 s.q) (.int .i64 s.r) (.int .i64 s.e) m k a b c (.str t) (.Z 6 xs) (0:Int) (.bool false) w (.bool g)) fun z=>∃ (w' j':Int) (g':Bool) (s':Er),z=(false,[.Z 6 xs,.int .i64 (xs.length:Int),.int .i64 j',.Z 19 (T.map aL),.Z 2 L,.int .i64 s'.p,.int .i64 s'.q,.int .i64 s'.r,.int .i64 s'.e,.int .i64 m,.int .i64 k,.int .i64 a,.int .i64 b,.int .i64 c,.str t,.Z 6 xs,.int .i64 0,.bool false,.int .i64 w',.bool g'])∧AB s s'∧(s'.e=0→(xs.length=0∨(1≤w'∧w'≤128))∧∀ y∈xs.drop j,Fit T kf d y):=by
  intro q
  induction q with
  |zero=>
   intro j w g s hk hj ha
   refine U.eq (fun n=>kD n ..) (U.no (E6 (by omega)) (U.ret ⟨w,j,g,s,rfl,fun h=>h,fun h=>⟨?_,fun y hy=>?_⟩⟩))
   ·rcases ha h with h|h
    ·left;omega
    ·exact .inr h
   ·rw [D4 (by omega)] at hy
    cases hy
  |succ q ih=>
   intro j w g s hk hj ha
   have hj2:j<xs.length:=by omega
   have hw:IntKind.i64.wrap ((j:Int)+1)=((j+1:Nat):Int):=J9 (by omega)
   have hm:=C6 hj2
   obtain⟨o1,o2⟩:=MM (P6 (hx _ hm))
   refine U.eq (fun n=>kD n ..) (U.H5 (E4 (by omega)) (U.H5 (J8 hj2) ?_))
   rw [W7 hj2,hw,o2]
   refine U.H5 o1 (U.H3 (hi _ hm s m) ?_)
   rintro _ _ ⟨w1,g1,s1,h,hs1,hw1⟩;cases h
   refine⟨rfl,U.H5 rfl ?_⟩
   refine (ih (j+1) w1 g1 s1 (by omega) hj2 fun h=> .inr ⟨(hw1 h).1,(hw1 h).2.1⟩).mono ?_
   rintro _ ⟨w',j',g',s',rfl,hs',hw'⟩
   refine⟨w',j',g',s',rfl,hs1.tr hs',fun h=>⟨(hw' h).1,fun y hy=>?_⟩⟩
   rw [drop_cons hj2] at hy
   rcases B7.1 hy with rfl|hy
   ·exact (hw1 (hs'.of h)).2.2
   ·exact (hw' h).2 y hy
 refine U.eq (fun n=>vE n ..) (U.J2 (loop xs.length 0 0 false s rfl (C4 _) (fun _=> .inl rfl)) (fun ds h=>by obtain⟨_,_,_,_,h,_⟩:=h;cases h) fun ds h=>?_)
 obtain⟨w,j',g,s1,h,hs,hw⟩:=h
 cases h
 rw [List.drop_zero] at hw
 refine U.H5 rfl (H4 (Me ht) (U.H5 rfl ?_))
 cases hp:IV t with
 |true=>
  refine U.H5 hp (U.P7 (fun h=>?_) fun h=>U.ret ⟨w,_,s1,rfl,hs,fun h0=>?_⟩)
  ·refine U.H3 (pN a b c (x:=13) (by decide) s1 m) ?_
   rintro _ _ ⟨s5,h,he⟩;cases h
   exact⟨rfl,U.H5 rfl (U.ret ⟨w,_,s5,rfl,fun _=>he,fun h=>absurd h he⟩)⟩
  ·have h1:((xs.length:Int) !=1)=false:=h
   have h2:(xs.length:Int)=1:=by simpa using h1
   obtain⟨q1,q2⟩:=hw h0
   have q1:1≤w∧w≤128:=q1.resolve_left (by omega)
   exact⟨q1.1,q1.2,q2,(fun _=>by omega),fun h=>by cases h⟩
 |false=>
  refine U.no hp (H4 hfi (U.H5 rfl (U.P7 (fun h=>?_) fun h=>U.P7 (fun h2=>?_) fun h2=>U.P7 (fun h3=>?_) fun h3=>U.ret ⟨u.fw,u.fb,s1,rfl,hs,fun h0=>?_⟩)))
  ·refine U.H3 (pN a b c (x:=9) (by decide) s1 m) ?_
   rintro _ _ ⟨s5,h,he⟩;cases h
   exact⟨rfl,U.H5 rfl (U.ret ⟨u.fw,u.fb,s5,rfl,fun _=>he,fun h=>absurd h he⟩)⟩
  ·refine U.H3 (pN a b c (x:=11) (by decide) s1 m) ?_
   rintro _ _ ⟨s5,h,he⟩;cases h
   exact⟨rfl,U.H5 rfl (U.ret ⟨u.fw,u.fb,s5,rfl,fun _=>he,fun h=>absurd h he⟩)⟩
  ·refine U.H3 (pN a b c (x:=13) (by decide) s1 m) ?_
   rintro _ _ ⟨s5,h,he⟩;cases h
   exact⟨rfl,U.H5 rfl (U.ret ⟨u.fw,u.fb,s5,rfl,fun _=>he,fun h=>absurd h he⟩)⟩
  ·have h2:(u.kd !=3)=false:=h2
   have h3:((u.ps.length:Int) !=(xs.length:Int))=false:=h3
   have h2:u.kd=3:=by simpa using h2
   have h3:(u.ps.length:Int)=(xs.length:Int):=by simpa using h3
   have hf:=hf h2
   exact⟨hf.w1,hf.w2,(hw h0).2,(fun h=>by cases h),fun _=>⟨h2,by omega⟩⟩
end
end
end
section
section
variable {T:List Th} {L:List D} {kf:D→KR} {ns:Nat} {M:Int→Prop}
theorem FW {d:Nat}{k a b c:Int}{t:F9}{xs:List D}(h2:k≠2)(h8:k≠8)(h7:k≠7)(h10:k≠10)(hy:k≠9→∀ y∈xs,Fit T kf d y):Fit T kf (d+1) (cC k a b c t xs):=
 ⟨k,a,b,c,t,xs,rfl,fun h=>absurd h h2,fun h=>absurd h h8,fun h=>absurd h h7,fun h=>absurd h h10,fun h _=>hy h,fun h=>absurd h h7⟩
theorem JZ {P:D→Prop}{x:D}(h:P x):∀ y∈[x],P y:=fun y hy=>by rw [C3.1 hy];exact h
theorem UG {P:D→Prop}{x z:D}(h:P x)(h2:P z):∀ y∈[x,z],P y:=fun y hy=>by
 rcases B7.1 hy with rfl|hy
 ·exact h
 ·exact JZ h2 y hy
theorem Gw {P:D→Prop}{x z w:D}(h:P x)(h2:P z)(h3:P w):∀ y∈[x,z,w],P y:=fun y hy=>by
 rcases B7.1 hy with rfl|hy
 ·exact h
 ·exact UG h2 h3 y hy
theorem Dv {t:F9}(ht:t∈Hd):∃ (w n:Nat) (sg sz:Bool),1≤w∧w≤128∧n<2 ^ w∧U (fun n=>fL n (.str t)) fun r=>r=(true,[.agg [.int .i64 (w:Int),.Z 1 (I9 w n),.bool sg,.bool sz],.int .i64 0]):=by
 obtain⟨w,n,sg,sz,v,q1,q2,q3,q4⟩:=RG t ht
 obtain⟨h1,h2,h3⟩:=GV q1
 have hpa:=NK (s:=t) (by omega)
 rw [q1] at hpa
 exact⟨w,n,sg,sz,h1,h2,h3,hpa⟩
theorem Ht {v w n:Int}(h1:1≤v)(h2:n≤w)(h3:w≤128*n)(h4:1≤n)(h5:n≤1000):1≤IntKind.i64.wrap (min v 129*w)∧(IntKind.i64.wrap (min v 129*w)≤128→v≤128):=by
 obtain⟨u,hu⟩:∃ u,min v 129=u:=⟨_,rfl⟩
 have hu1:1≤u∧u≤129:=by omega
 rw [hu]
 have a1:u*1≤u*w:=Int.mul_le_mul_of_nonneg_left (by omega) (by omega)
 have a2:u*w≤129*w:=Int.mul_le_mul_of_nonneg_right hu1.2 (by omega)
 rw [N8 (by omega) (by omega)]
 exact⟨by omega,fun h=>by omega⟩
section
variable (W:Sc T L kf ns M)
include W
theorem Wa {d:Nat}{y:D}{r:List D}(hy:rS d y)(hx:∀ z∈r,rS d z)(hi:∀ z∈r,BA T L kf d z)(hl:1≤r.length)(hl2:r.length≤1000)(a b c:Int)(t:F9)(s:Er)(h0:s.e=0)(m:Int):U (fun n=>I6 n (cC 7 a b c t (y::r)) (.Z 19 (T.map aL)) (.Z 2 L) (.int .i64 s.p) (.int .i64 s.q) (.int .i64 s.r) (.int .i64 s.e) m) fun z=>∃ (w:Int) (g:Bool) (s':Er),z=(true,.agg [.int .i64 w,.bool g]::rs T L s' m)∧AB s s'∧(s'.e=0→1≤w∧w≤128∧Fit T kf (d+1) (cC 7 a b c t (y::r))):=by
 have hc:=fun s=>VC W hy s m
 have hfit:(kf y).e=0→1≤(kf y).v→(kf y).v≤128→(∀ z∈r,Fit T kf d z)→Fit T kf (d+1) (cC 7 a b c t (y::r)):=fun q1 q2 q3 q4=>
  ⟨7,a,b,c,t,y::r,rfl,(fun h=>by omega),(fun h=>by omega),(fun _ z hz=>by cases hz;exact⟨q1,q2,q3⟩),(fun h=>by omega),(fun _ h=>absurd rfl h),fun _=>q4⟩
 generalize kf y=f at hc hfit
 obtain⟨k1,a1,b1,d1,t1,xs1,rfl⟩:=P6 hy
 refine U.eq (fun n=>N6 n ..) (U.no (by simp [h0]) (U.no rfl (U.no rfl (U.no rfl (U.no rfl (U.no rfl (U.no rfl (U.no rfl (U.no rfl (U.H5 rfl ?_))))))))))
 have hlen:decide ((0:Int)<((cC k1 a1 b1 d1 t1 xs1::r).length:Int))=true:=E4 (by simp only [A0];omega)
 refine U.H5 (N7 rfl hlen) (U.H5 rfl (U.H3 (hc s) ?_))
 rintro _ _ ⟨s1,h,hs1,hk⟩;cases h
 have j1:∀ s4:Er,AB s s4→(s4.e=0→f.e=0∧1≤f.v)→U (fun n=>eV n (T.map aL) L s4.p s4.q s4.r s4.e m (cC k1 a1 b1 d1 t1 xs1::r) 7 a b c t (.int .i64 f.v::rs T L s1 m)) fun z=>∃ (w:Int) (g:Bool) (s':Er),z=(true,.agg [.int .i64 w,.bool g]::rs T L s' m)∧AB s s'∧(s'.e=0→1≤w∧w≤128∧Fit T kf (d+1) (cC 7 a b c t (cC k1 a1 b1 d1 t1 xs1::r))):=by
  intro s4 hk4 hg
  refine M1 (fun n=>eV.eq_1 n ..) (U.H5 (N7 (N7 rfl (E4 (by simp only [A0];omega))) (E4 (Int.le_refl _))) ?_)
  have e:((cC k1 a1 b1 d1 t1 xs1::r).drop 1).take (((cC k1 a1 b1 d1 t1 xs1::r).length:Int).toNat-1)=r:=by
   rw [List.drop_succ_cons,List.drop_zero,A0,E1,Nat.add_sub_cancel,List.take_length]
  rw [e]
  refine U.H3 (Vd hx hi hl2 s4 m) ?_
  rintro _ _ ⟨w,s5,h,hs5,hw5⟩;cases h
  refine⟨rfl,U.H5 rfl (U.H3 (Fa 7 a b c t (cC k1 a1 b1 d1 t1 xs1::r) (IntKind.i64.wrap (min f.v 129*w)) false s5 m) ?_)⟩
  rintro _ _ ⟨s6,h,hs6,hw6⟩;cases h
  refine⟨rfl,U.H5 rfl (U.ret ⟨IntKind.i64.wrap (min f.v 129*w),false,s6,rfl,(hk4.tr hs5).tr hs6,fun h6=>?_⟩)⟩
  have h5:=hs6.of h6
  obtain⟨q1,q2,q3⟩:=hw5 h5
  obtain⟨q4,q5⟩:=hg (hs5.of h5)
  obtain⟨q6,q7⟩:=Ht q5 q1 q2 (by omega) (by omega)
  have q8:=hw6 h6
  exact⟨q6,q8,hfit q4 q5 (q7 q8) q3⟩
 refine⟨rfl,U.H5 rfl (U.P7 (fun h=>?_) fun h=>j1 s1 hs1 fun h1=>⟨hk h1,?_⟩)⟩
 ·refine U.H5 (N7 rfl hlen) (U.H5 rfl (U.H5 rfl (U.H3 (pN a1 b1 d1 (x:=3) (by decide) s1 m) ?_)))
  rintro _ _ ⟨s5,h,he⟩;cases h
  exact⟨rfl,U.H5 rfl (j1 s5 (fun _=>he) fun h=>absurd h he)⟩
 ·have h:decide (f.v<1)=false:=h
  have:=E7 h
  omega
theorem EW:∀ (d:Nat) (x:D),rS d x→BA T L kf d x
 |d+1,x,h=>by
  obtain⟨k,a,b,c,t,xs,rfl,hs,hy⟩:=h
  have ih:=fun y hm=>EW d y (hy y hm)
  intro s m
  by_cases h0:s.e=0
  rotate_left
  ·exact U.eq (fun n=>N6 n ..) (U.H5 (by simp [h0]) (U.ret ⟨0,false,s,rfl,fun h=>h,fun h=>absurd h h0⟩))
  have hn:(s.e !=0)=false:=by simp [h0]
  unfold rH at hs
  rcases hs with ⟨rfl,ht,hl⟩|⟨rfl,ht,hl⟩|⟨rfl,ht,hl⟩|⟨rfl,ht,hl⟩|⟨rfl,ht,hl⟩|⟨rfl,ht,hl,hl2⟩|⟨rfl,ht,hl,hl2⟩|⟨rfl,ht,hl⟩|⟨rfl,ht,hl⟩|⟨rfl,ht,hl,hl2⟩
  ·obtain⟨w,n,sg,sz,h1,h2,h3,hp⟩:=Dv ht
   have hx:xs=[]:=D1 hl
   subst hx
   refine U.eq (fun n=>N6 n ..) (U.no hn (U.H5 rfl (H4 hp (U.H5 rfl (U.no rfl (H4 (ds:=[.int .i64 (w:Int)]) (U.eq (fun n=>kW n ..) (U.ret rfl)) (U.H5 rfl (U.ret ⟨w,sg,s,rfl,fun h=>h,fun _=>⟨by omega,by omega,?_⟩⟩))))))))
   exact FW (by decide) (by decide) (by decide) (by decide) fun _ y hy=>by cases hy
  ·refine U.eq (fun n=>N6 n ..) (U.no hn (U.no rfl (U.H5 rfl (U.H3 (Vc W 2 a b c t xs s m) ?_))))
   rintro _ _ ⟨w,g,s1,h,hs1,hw⟩;cases h
   have hx:xs=[]:=D1 hl
   subst hx
   exact⟨rfl,U.H5 rfl (U.ret ⟨w,g,s1,rfl,hs1,fun h=>⟨(hw h).1,(hw h).2.1,2,a,b,c,t,[],rfl,(fun _=>(hw h).2.2),(fun h=>by omega),(fun h=>by omega),(fun h=>by omega),(fun _ _ y hy=>by cases hy),fun _ y hy=>by cases hy⟩⟩)⟩
  ·obtain⟨x,rfl⟩:∃ x,xs=[x]:=by
    match xs,hl with
    |[x],_=>exact⟨x,rfl⟩
   have hwx:=hy x (by simp)
   have hix:=ih x (by simp)
   obtain⟨k1,a1,b1,d1,t1,xs1,rfl⟩:=P6 hwx
   refine U.eq (fun n=>N6 n ..) (U.no hn (U.no rfl (U.no rfl (U.no rfl (U.no rfl (U.H5 rfl (U.H5 rfl (U.H5 rfl (U.H3 (hix s m) ?_)))))))))
   rintro _ _ ⟨w,g,s1,h,hs1,hw⟩;cases h
   have hf:s1.e=0→Fit T kf (d+1) (cC 3 a b c t [cC k1 a1 b1 d1 t1 xs1]):=fun h=>FW (by decide) (by decide) (by decide) (by decide) fun _=>JZ (hw h).2.2
   refine⟨rfl,U.H5 rfl (U.P7 (fun _=>?_) fun _=>U.P7 (fun _=>?_) fun _=>?_)⟩
   ·exact U.ret ⟨w,g,s1,rfl,hs1,fun h=>⟨(hw h).1,(hw h).2.1,hf h⟩⟩
   ·exact U.ret ⟨w,g,s1,rfl,hs1,fun h=>⟨(hw h).1,(hw h).2.1,hf h⟩⟩
   ·exact U.ret ⟨1,false,s1,rfl,hs1,fun h=>⟨by decide,by decide,hf h⟩⟩
  ·obtain⟨x,y,rfl⟩:∃ x y,xs=[x,y]:=by
    match xs,hl with
    |[x,y],_=>exact⟨x,y,rfl⟩
   refine U.eq (fun n=>N6 n ..) (U.no hn (U.no rfl (U.no rfl (U.no rfl (U.no rfl (U.no rfl (U.H5 rfl (U.H3 (Wb (hy x (by simp)) (hy y (by simp)) (ih x (by simp)) (ih y (by simp)) 4 a b c t s m) ?_))))))))
   rintro _ _ ⟨w,g,s1,h,hs1,hw⟩;cases h
   exact⟨rfl,U.H5 rfl (U.ret ⟨w,g,s1,rfl,hs1,fun h=>⟨(hw h).1,(hw h).2.1,FW (by decide) (by decide) (by decide) (by decide) fun _=>UG (hw h).2.2.1 (hw h).2.2.2⟩⟩)⟩
  ·obtain⟨x,y,z,rfl⟩:∃ x y z,xs=[x,y,z]:=by
    match xs,hl with
    |[x,y,z],_=>exact⟨x,y,z,rfl⟩
   have hi1:=ih x (by simp)
   have hi2:=ih y (by simp)
   have hi3:=ih z (by simp)
   obtain⟨k1,a1,b1,d1,t1,xs1,rfl⟩:=P6 (hy x (by simp))
   obtain⟨k2,a2,b2,d2,t2,xs2,rfl⟩:=P6 (hy y (by simp))
   obtain⟨k3,a3,b3,d3,t3,xs3,rfl⟩:=P6 (hy z (by simp))
   refine U.eq (fun n=>N6 n ..) (U.no hn (U.no rfl (U.no rfl (U.no rfl (U.no rfl (U.no rfl (U.no rfl (U.H5 rfl (U.H5 rfl (U.H5 rfl (U.H3 (hi1 s m) ?_)))))))))))
   rintro _ _ ⟨w1,g1,s1,h,hs1,hw1⟩;cases h
   refine⟨rfl,U.H5 rfl (U.H5 rfl (U.H5 rfl (U.H3 (hi2 s1 m) ?_)))⟩
   rintro _ _ ⟨w2,g2,s2,h,hs2,hw2⟩;cases h
   refine⟨rfl,U.H5 rfl (U.H5 rfl (U.H5 rfl (U.H3 (hi3 s2 m) ?_)))⟩
   rintro _ _ ⟨w3,g3,s3,h,hs3,hw3⟩;cases h
   obtain⟨g,hj⟩:=GJ w2 g2 w3 g3
   refine⟨rfl,U.H5 rfl (H4 hj (U.H5 rfl (U.ret ⟨max w2 w3,g,s3,rfl,(hs1.tr hs2).tr hs3,fun h=>?_⟩)))⟩
   obtain⟨q1,q2,q3⟩:=hw2 (hs3.of h)
   obtain⟨q4,q5,q6⟩:=hw3 h
   exact⟨by omega,by omega,FW (by decide) (by decide) (by decide) (by decide) fun _=>Gw (hw1 (hs2.of (hs3.of h))).2.2 q3 q6⟩
  ·refine U.eq (fun n=>N6 n ..) (U.no hn (U.no rfl (U.no rfl (U.no rfl (U.no rfl (U.no rfl (U.no rfl (U.no rfl (U.H5 rfl (U.H3 (Vd hy ih (by omega) s m) ?_))))))))))
   rintro _ _ ⟨w,s1,h,hs1,hw1⟩;cases h
   refine⟨rfl,U.H5 rfl (U.H3 (Fa 6 a b c t xs w false s1 m) ?_)⟩
   rintro _ _ ⟨s2,h,hs2,hw2⟩;cases h
   exact⟨rfl,U.H5 rfl (U.ret ⟨w,false,s2,rfl,hs1.tr hs2,fun h=>⟨by have:=(hw1 (hs2.of h)).1;omega,hw2 h,FW (by decide) (by decide) (by decide) (by decide) fun _=>(hw1 (hs2.of h)).2.2⟩⟩)⟩
  ·obtain⟨y,r,rfl⟩:∃ y r,xs=y::r:=by
    match xs,hl with
    |y::r,_=>exact⟨y,r,rfl⟩
   simp only [A0] at hl hl2
   exact Wa W (hy y (by simp)) (fun z hz=>hy z (C0 _ hz)) (fun z hz=>ih z (C0 _ hz)) (by omega) (by omega) a b c t s h0 m
  ·obtain⟨x,rfl⟩:∃ x,xs=[x]:=by
    match xs,hl with
    |[x],_=>exact⟨x,rfl⟩
   refine U.eq (fun n=>N6 n ..) (U.no hn (U.no rfl (U.no rfl (U.H5 rfl (U.H3 (Tp W (hy x (by simp)) (ih x (by simp)) 8 a b c t s m) ?_)))))
   rintro _ _ ⟨w,g,s1,h,hs1,hw⟩;cases h
   exact⟨rfl,U.H5 rfl (U.ret ⟨w,g,s1,rfl,hs1,fun h=>⟨(hw h).1,(hw h).2.1,8,a,b,c,t,[x],rfl,(fun h=>by omega),(fun _=>(hw h).2.2.1),(fun h=>by omega),(fun h=>by omega),(fun _ _=>JZ (hw h).2.2.2),fun h=>by omega⟩⟩)⟩
  ·obtain⟨x,y,rfl⟩:∃ x y,xs=[x,y]:=by
    match xs,hl with
    |[x,y],_=>exact⟨x,y,rfl⟩
   have hsg:=W.sig t
   refine U.eq (fun n=>N6 n ..) (U.no hn (U.no rfl (U.no rfl (U.no rfl (U.H5 rfl (U.H3 (Eg W (hy x (by simp)) (hy y (by simp)) 9 a b c t s m) ?_))))))
   rintro _ _ ⟨hi,lo,s1,h,hs1,hw⟩;cases h
   refine⟨rfl,U.H5 rfl (U.ret ⟨_,false,s1,rfl,hs1,fun h=>?_⟩)⟩
   obtain⟨q1,q2,q3,q4⟩:=hw h
   have q5:=(hsg q1).w2
   have e:IntKind.i64.wrap (IntKind.i64.wrap (hi-lo)+1)=hi-lo+1:=by
    rw [N8 (x:=hi-lo) (by omega) (by omega),N8 (by omega) (by omega)]
   show 1≤IntKind.i64.wrap (IntKind.i64.wrap (hi-lo)+1)∧IntKind.i64.wrap (IntKind.i64.wrap (hi-lo)+1)≤128∧_
   rw [e]
   exact⟨by omega,by omega,FW (by decide) (by decide) (by decide) (by decide) fun h=>absurd rfl h⟩
  ·refine U.eq (fun n=>N6 n ..) (U.no hn (U.no rfl (U.no rfl (U.no rfl (U.no rfl (U.no rfl (U.no rfl (U.no rfl (U.no rfl (U.no rfl (U.H3 (Va W hy ih (by omega) 10 a b c ht s m) ?_)))))))))))
   rintro _ _ ⟨w,g,s1,h,hs1,hw⟩;cases h
   exact⟨rfl,U.H5 rfl (U.ret ⟨w,g,s1,rfl,hs1,fun h=>⟨(hw h).1,(hw h).2.1,10,a,b,c,t,xs,rfl,(fun h=>by omega),(fun h=>by omega),(fun h=>by omega),(fun _=>(hw h).2.2.2),(fun _ _=>(hw h).2.2.1),fun h=>by omega⟩⟩)⟩
end
end
end
end Go.Proofs.YthlhbocobgkdmaaGreat
