import Derived.Test.YthlhbocobgkdmaaGreatEng1
import Derived.Laws.IdiomCopy
import Derived.Lib.AppendStr
import Derived.MapKept
import Derived.Laws.IdiomRangeMap
import Derived.Defers
set_option linter.all false
namespace Go.AE
open Go.RowKit
section
variable {u:Nat→Option Obj} {p q:Nat→Prop} {g:G} {st:St} {h h':Nat→Option Ob} {a:Act} {w w':World} {P:Program} {o:Oper} {R:Type} {K:V→St→Option R} {r:R}
theorem HG {α:Type}:∀ (b pre c:List α) (k:Nat),setAt (pre++c) (pre.length+k) b=pre++setAt c k b
 |[],pre,c,k=>rfl
 |b0::b,pre,c,k=>by
  simp only [setAt]
  rw [List.set_append_right _ _ (by omega),show pre.length+k-pre.length=k from by omega,Nat.add_assoc,HG b]
theorem CA {α:Type}:∀ (b c post:List α) (k:Nat),k+b.length≤c.length→setAt (c++post) k b=setAt c k b++post
 |[],c,post,k,_=>rfl
 |b0::b,c,post,k,h=>by
  simp only [setAt]
  simp only [A0] at h
  rw [List.set_append_left _ _ (by omega),CA b _ _ _ (by simp;omega)]
theorem RP {α:Type}:∀ (b c:List α),c.length=b.length→setAt c 0 b=b:=by
 intro b c h
 have:=setAt_eq0 b c [] h
 simpa using this
where
 setAt_eq0 {α:Type}:∀ (b c pre:List α),c.length=b.length→setAt (pre++c) pre.length b=pre++b
 |[],c,pre,h=>by have:c=[]:=D1 h;subst this;rfl
 |b0::b,c,pre,h=>by
  cases c with
  |nil=>simp at h
  |cons c0 c=>
   simp only [setAt]
   have e1:(pre++c0::c).set pre.length b0=(pre++[b0])++c:=by simp
   rw [e1]
   have:=setAt_eq0 b c (pre++[b0]) (by simpa using h)
   simp only [F7,C5] at this
   rw [this];simp
theorem CB {α:Type}:∀ (b c:List α) (k m:Nat),(setAt c k b).take m=setAt (c.take m) k b
 |[],c,k,m=>rfl
 |b0::b,c,k,m=>by simp only [setAt];rw [CB b,List.take_set]
theorem NV {α:Type}:∀ (b c:List α) (k:Nat),k+b.length≤c.length→setAt c k b=c.take k++b++c.drop (k+b.length):=by
 intro b c k h
 have h1:c=c.take k++((c.drop k).take b.length++c.drop (k+b.length)):=by
  rw [← List.drop_drop,List.take_append_drop,List.take_append_drop]
 have hl:(c.take k).length=k:=by simp;omega
 have e:=HG b (c.take k) ((c.drop k).take b.length++c.drop (k+b.length)) 0
 rw [← h1,hl,Nat.add_zero] at e
 rw [e,CA _ _ _ _ (by simp;omega),RP _ _ (by simp;omega),C1]
theorem PT {hh:Nat→Option Obj}{sz:Nat}:∀ {xs:List D} {us:List Value} {i:Nat},mY hh sz xs us→i<xs.length→
  ∃ (pre:List Value) (v:Value) (post:List Value),us=pre++(v.cells.toList++post)∧pre.length=i*sz∧v.cells.size=sz∧(∀ y∈v.cells.toList,y.oneCell'=true)∧VD hh (xs[i]?.getD .top) v∧
   ∀ (x':D) (v':Value),v'.cells.size=sz→(∀ y∈v'.cells.toList,y.oneCell'=true)→VD hh x' v'→mY hh sz (xs.set i x') (pre++(v'.cells.toList++post))
 |[],us,i,_,hi=>by simp at hi
 |x::xs,us,0,h,_=>by
  obtain⟨v,r,rfl,k1,k3,k4,k5⟩:=h
  exact⟨[],v,r,rfl,by simp,k1,k3,k4,fun x' v' h1 h2 h3=>⟨v',r,rfl,h1,h2,h3,k5⟩⟩
 |x::xs,us,i+1,h,hi=>by
  obtain⟨v,r,rfl,k1,k3,k4,k5⟩:=h
  obtain⟨pre,v1,post,rfl,e1,e2,e3,e4,e5⟩:=PT (i:=i) k5 (by simpa using hi)
  refine⟨v.cells.toList++pre,v1,post,by simp,by simp [k1,e1,Nat.add_mul];omega,e2,e3,by simpa using e4,fun x' v' h1 h2 h3=>?_⟩
  exact⟨v,pre++(v'.cells.toList++post),by simp,k1,k3,k4,e5 x' v' h1 h2 h3⟩
theorem uX {t:TypeId}{info:TypeInfo}(hinfo:P.info? t=some info){b off:Nat}{c:Array Value}{e:TypeId}{v:Value}(hb:w.heap[b]? = some (.cells c e (0,0)))(hsz:v.cells.size=info.size)
  (hle:off+v.cells.size≤c.size) (h1:∀ y∈v.cells.toList,y.oneCell'=true) :
  (storeVar t ⟨b,off,none⟩ v).run P w = .ok () (w.setRow b (setAt c.toList off v.cells.toList).toArray):=by
 have hst:=run_storeCells_at P b off e v.cells.toList 0 c w hb (by simpa using hle) h1
 simp only [Nat.add_zero] at hst
 rw [← NV _ _ _ (by simpa using hle)] at hst
 simp only [storeVar,Sem.run_bind,fY hinfo,Result.andThen_ok]
 simp [hsz,hst]
theorem nP {g':G}(ha:L8 p g g')(b:Nat)(cs:Array Value):Ext g w g' (w.setRow b cs):=⟨ha.h,rfl,rfl,rfl,by simp [World.setRow]⟩
theorem vK (S:P3 u p g h w){no:Nat}{cs cs':List V}{c c':Array Value}{e:TypeId}(ho:h no=some (.var cs))(hb:w.heap[g.blk no]? = some (.cells c e (0,0)))
  (hF:F2 (VA g) cs' c'.toList) (h1:∀ y∈c'.toList,y.oneCell'=true) (hu:∀ v∈cs',v.V7 p) (hbp:∀ t o' f,V.bp t o' f∈cs'→e=t) (hh:∀ x,h' x=if x=no then some (.var cs') else h x) :
  P3 u p g h' (w.setRow (g.blk no) c'):=by
 refine S.update (L8.refl p g) rfl (some (g.blk no)) (fun k _ hk=>setRow_other w _ k _ (fun e=>hk (by rw [e]))) (fun b hb=>?_) (fun _ h=>h) no ?_ ?_
 ·cases hb
  exact S.sep no _ _ ho rfl
 ·intro o' x hx hne
  rw [hh,if_neg hne] at hx
  refine⟨hx,fun b hb e=>?_⟩
  cases e
  exact hne (S.inj o' no _ _ _ hx ho hb rfl)
 ·intro x hx
  rw [hh,if_pos rfl] at hx
  cases hx
  refine⟨⟨c',e,setRow_heap w _ c c' e (0,0) hb,hF,h1,hbp⟩,fun b hb=>?_,(S.use _ _ ho).1,hu⟩
  simp only [jY,B1] at hb
  exact .inl (by rw [hb])
theorem EU (S:P3 u p g h w){no e sz:Nat}{xs:List D}(ho:h no=some (.row e sz xs false)){b:Nat}(hb:(g.hdr no).ownBlock=some b) :
  ∃ (cap:Nat) (cur:Array Value),0<sz∧g.hdr no = .slice (some ⟨b,0,none⟩) xs.length cap∧w.heap[b]? = some (.cells cur e (0,0))∧xs.length≤cap∧cap≤maxLen∧cur.size=cap*sz∧mY g.h sz xs (cur.toList.take (xs.length*sz)):=by
 obtain⟨us,hsz,h1,h2⟩:=S.ob _ _ ho
 rcases S4 h1 with ⟨k,_,_⟩|⟨b',cap,cur,k1,k2,k3,k4,k5,k6,_⟩
 ·rw [k] at hb;simp [Value.ownBlock] at hb
 ·rw [k1] at hb
  simp only [Value.ownBlock,B1] at hb
  subst hb
  exact⟨cap,cur,hsz,k1,k2,k3,k4,k5,by rw [k6];exact h2⟩
theorem BZ (S:P3 u p g h w){no e sz:Nat}{xs xs':List D}(ho:h no=some (.row e sz xs false)){b:Nat}(hb:(g.hdr no).ownBlock=some b){cur c':Array Value}(hcur:w.heap[b]? = some (.cells cur e (0,0)))
  (hsz:c'.size=cur.size) (hlen:xs'.length=xs.length) (hf:mY g.h sz xs' (c'.toList.take (xs.length*sz))) (hh:∀ x,h' x=if x=no then some (.row e sz xs' false) else h x) :
  P3 u p g h' (w.setRow b c'):=by
 obtain⟨cap,cur',hsz0,k1,k2,k3,k4,k5,k6⟩:=EU S ho hb
 rw [hcur] at k2
 simp only [B1,Obj.cells.injEq,and_true] at k2
 subst k2
 refine S.update (L8.refl p g) rfl (some b) (fun k _ hk=>setRow_other w _ k _ (fun e=>hk (by rw [e]))) (fun b' hb'=>?_) (fun _ h=>h) no ?_ ?_
 ·cases hb'
  exact S.sep no _ _ ho hb
 ·intro o' x hx hne
  rw [hh,if_neg hne] at hx
  refine⟨hx,fun b' hb' e=>?_⟩
  cases e
  exact hne (S.inj o' no _ _ _ hx ho hb' hb)
 ·intro x hx
  rw [hh,if_pos rfl] at hx
  cases hx
  have hlf:=hJ hf
  refine⟨⟨_,hsz0,⟨?_,.inr ⟨b,cap,c',by rw [hlen];exact k1,C4 _,setRow_heap w b cur c' e (0,0) hcur,by rw [hlen];exact k3,k4,by rw [hsz];exact k5,?_⟩⟩,hf⟩,fun b' hb'=>?_,(S.use _ _ ho).1,trivial⟩
  ·exact hlf
  ·rw [hlen]
  ·simp only [jY] at hb'
   rw [hb] at hb'
   exact .inl hb'.symm
theorem ZJ {P:Program}{t:TypeId}{v:V}{x:Value}(h:VA g v x):VA g (rK P t v) x:=by
 unfold rK
 split
 ·split
  ·exact h
  ·exact h
 ·exact h
theorem PK {P:Program}{t:TypeId}{v:V}{q:Nat→Prop}(h:v.V7 q):(rK P t v).V7 q:=by
 unfold rK
 split
 ·split<;>trivial
 ·exact h
theorem OF {P:Program}{t:TypeId}{v:V}(h:jM v=true):jM (rK P t v)=true:=by
 unfold rK
 split
 ·split<;>rfl
 ·exact h
theorem Lw (S:At u p g st a w)(hpq:∀ x,p x→q x){nid:Nat}(hfr:iY p q nid){t:TypeId}{x y:Operand}(ho:o.op = .store t x y)
  (h:HJ P t (K2 st x) (K2 st y) nid st K=some r):Goal u p q g st a w P o K r:=by
 have hvx:=S.ev x
 have hvy:=S.ev y
 have huy:=S.Z7 y
 unfold HJ at h
 obtain⟨ht,h⟩:=K1 h
 have ht:CD P t=true:=by simpa using ht
 obtain⟨d,info,hd,hinfo,hg,hs⟩:=gS ht
 have exec:∀ (ad:Addr) (w':World),a.eval x = .pointer (some ad)→(storeVar t ad (a.eval y)).run P w = .ok () w'→(execOp a.eval o).run P w = .ok .skip w':=by
  intro ad w' e1 e2
  simp only [execOp,ho,Instr.storeAt,e1,Instr.sureAddr]
  simp [e2]
 split at h
 ·rename_i no off he
  rw [he] at hvx
  have hvx:=FG hvx
  split at h
  ·rename_i cs hcs
   obtain⟨c,e,hb,hF,h1,hbp⟩:=S.hp.ob _ _ hcs
   have hlen:=hF.length
   simp only [E2] at hlen
   have hpno:p no:=(S.hp.use _ _ hcs).1
   have hne:no≠nid:=fun e=>hfr.zero.1 (e▸hpno)
   cases hag:P4 P t with
   |true=>
    rw [hag] at h
    simp only [cond_true] at h
    obtain⟨hc,h⟩:=H8 h
    simp only [A9] at hc
    obtain⟨⟨hok,hsz⟩,hle⟩:=hc
    have hsz:(K2 st y).cells.length=L6 P t:=B0 hsz
    have hle:off+(K2 st y).cells.length≤cs.length:=B3 hle
    obtain⟨c1,c2,c3⟩:=oQ hok hvy huy
    have hl:=c1.length
    simp only [E2] at hl
    have hrun:=uX (P:=P) (v:=a.eval y) hinfo hb (by omega) (off:=off) (by omega) c2
    have hsim:=vK (h':=(st.dG no (some (.var (setAt cs off (K2 st y).cells)))).h) (c':=(setAt c.toList off (a.eval y).cells.toList).toArray) S.hp hcs hb (by simpa using c1.setAt off hF)
     (by intro z hz;rcases jX _ _ _ _ (by simpa using hz) with hz|hz;exact h1 z hz;exact c2 z hz)
     (by intro z hz;rcases jX _ _ _ _ hz with hz|hz;exact (S.hp.use _ _ hcs).2 z hz;exact c3 z hz)
     (by intro t' o' f hz;rcases jX _ _ _ _ hz with hz|hz;exact hbp _ _ _ hz;exact absurd hz (uO hok)) (fun x=>Q8 _ _ _ _)
    exact Goal.skip h (exec _ _ hvx hrun) (hsim.more hpq) (L8.refl p g) (nP (L8.refl p g) _ _) rfl rfl
   |false=>
    rw [hag] at h
    simp only [cond_false] at h
    obtain⟨hc,h⟩:=H8 h
    simp only [A9] at hc
    obtain⟨⟨hc1,hsz⟩,hlt⟩:=hc
    have hsz:L6 P t=1:=B0 hsz
    have hlt:off<cs.length:=by have h1:Nat.ble (off+1) cs.length=true:=hlt;exact B3 h1
    have hone:=FM hc1 hvy
    have hcy:=yR hone
    have hrun:=uX (P:=P) (v:=a.eval y) hinfo hb (by rw [hcy];simp;omega) (off:=off) (by rw [hcy];simp;omega) (by rw [hcy];simpa using hone)
    rw [hcy] at hrun
    have main:∀ (g1:G) (vv1:V) (st1:St),P3 u q g1 st1.h w→L8 p g g1→g1.h=g.h→g1.blk=g.blk→VA g1 vv1 (a.eval y)→vv1.V7 q→jM vv1=true→st1.t=st.t→st1.m=st.m→st1.h no=st.h no→
      K .top (st1.dG no (some (.var (setAt cs off [vv1]))))=some r→Goal u p q g st a w P o K r:=by
     intro g1 vv1 st1 s1 a1 a2 a3 a4 a5 a5c a6 a7 a8 h
     have hcs1:st1.h no=some (.var cs):=by rw [a8];exact hcs
     have hF1:F2 (VA g1) cs c.toList:=hF.mono fun c hc b hb=>VA.agree a1 ((S.hp.use _ _ hcs).2 c hc) hb
     have hb1:w.heap[g1.blk no]? = some (.cells c e (0,0)):=by rw [a3];exact hb
     have hsim:=vK (h':=(st1.dG no (some (.var (setAt cs off [vv1])))).h) (c':=(setAt c.toList off [a.eval y]).toArray) s1 hcs1 hb1 (by simpa using (F2.cons a4 .nil).setAt off hF1)
      (by intro z hz;rcases jX _ _ _ _ (by simpa using hz) with hz|hz;exact h1 z hz;simp at hz;subst hz;exact hone)
      (by intro z hz;rcases jX _ _ _ _ hz with hz|hz;exact ((S.hp.use _ _ hcs).2 z hz).mono hpq;simp at hz;subst hz;exact a5)
      (by intro t' o' f hz;rcases jX _ _ _ _ hz with hz|hz;exact hbp _ _ _ hz;simp at hz;rw [← hz] at a5c;cases a5c) (fun x=>Q8 _ _ _ _)
     rw [a3] at hsim
     exact Goal.skip h (exec _ _ hvx hrun) hsim a1 (nP a1 _ _) a6 a7
    cases hn1:Nat.beq cs.length 1 with
    |true=>
     rw [hn1] at h
     simp only [cond_true] at h
     obtain⟨g1,vv1,st1,k1,k2,k3,k4,k5,k6,k7,k8,k9,k10,_,k12,k13⟩:=UW S.hp hpq hfr.zero.1 hfr.zero.2 hvy huy h
     obtain⟨k14,k15⟩:=k13 hc1
     exact main g1 vv1 st1 k2 k3 k4 k5 k15 k14 (k12 hc1) k8 k9 (k10 no hne) k1
    |false=>
     rw [hn1] at h
     simp only [cond_false] at h
     have hVA:VA g (K2 st y) (a.eval y)∧(K2 st y).V7 p:=by
      match K2 st y,hc1,hvy,huy with
      | .d (.agg _),hc,_,_=>simp [jM] at hc
      | .agg _,hc,_,_=>simp [jM] at hc
      | .tup _,hc,_,_=>simp [jM] at hc
      | .d _,_,hv,_=>exact⟨hv,trivial⟩
      | .ptr ..,_,hv,hu=>exact⟨hv,hu⟩
      | .el ..,_,hv,hu=>exact⟨hv,trivial⟩
      | .rp ..,_,hv,hu=>exact⟨hv,hu⟩
      | .row _,_,hv,hu=>exact⟨hv,hu⟩
      | .mp _,_,hv,hu=>exact⟨hv,hu⟩
      | .bp ..,hc,_,_=>simp [jM] at hc
      | .sub ..,_,hv,hu=>exact⟨hv,hu⟩
      | .fn _ [],_,hv,hu=>exact⟨hv,hu⟩
      | .fn _ (_::_),_,hv,hu=>exact⟨hv,hu⟩
     exact main g _ st (S.hp.more hpq) (L8.refl p g) rfl rfl (ZJ hVA.1) (PK (hVA.2.mono hpq)) (OF hc1) rfl rfl rfl h
  ·cases h
 ·rename_i no sz i off he
  rw [he] at hvx
  obtain⟨hi,b,hbk,hvx⟩:=hvx
  split at h
  ·rename_i e sz' xs hrow
   replace h:=H8 h
   obtain⟨hsz0,h⟩:=h
   have hsz0:sz=sz':=B0 hsz0
   subst hsz0
   rw [sC (S.hp.ob _ _ hrow)] at hi
   split at h
   ·rename_i d' fz hd'
    obtain⟨hc,h⟩:=K1 h
    rw [Bool.not_eq_false'] at hc
    simp only [A9,D8] at hc
    obtain⟨⟨hok,hdl⟩,hfz⟩:=hc
    have hdl:d'.cells.length=L6 P t:=B0 hdl
    have hnot:no∉fz:=by
     intro hm
     have:fz.any (Nat.beq no)=true:=List.any_eq_true.2 ⟨no,hm,Nat.beq_refl no⟩
     rw [hfz] at this;cases this
    obtain⟨g1,a1,b1,c1,s1⟩:=S.hp.freeze fz
    have hrow1:V4 st.h fz no=some (.row e sz xs false):=by rw [oU _ _ _ hnot];exact hrow
    have hv:=zO hvy huy hd' (fun o ho=>ho) a1 s1
    obtain⟨d1,d2⟩:=EI hok hv
    rw [← c1] at hbk
    obtain⟨cap,cur,hsz0,k1,k2,k3,k4,k5,k6⟩:=EU s1 hrow1 hbk
    obtain⟨pre,v,post,e1,e2,e3,e4,e5,e6⟩:=PT k6 hi
    have hle:i*sz+sz≤xs.length*sz:=by rw [← Nat.succ_mul];exact Nat.mul_le_mul_right _ hi
    have hle2:xs.length*sz≤cap*sz:=Nat.mul_le_mul_right _ k3
    have main:∀ (x':D),off+L6 P t≤sz→mY g1.h sz (xs.set i x') (pre++(setAt v.cells.toList off (a.eval y).cells.toList++post))→
      K .top ((st.freeze fz).dG no (some (.row e sz (xs.set i x') false)))=some r→Goal u p q g st a w P o K r:=by
     intro x' hoff hf h
     have hrun:=uX (P:=P) (v:=a.eval y) hinfo k2 (by omega) (off:=i*sz+off) (by omega) d1
     have hsim:=BZ (h':=((st.freeze fz).dG no (some (.row e sz (xs.set i x') false))).h) (xs':=xs.set i x') (c':=(setAt cur.toList (i*sz+off) (a.eval y).cells.toList).toArray) s1 hrow1 hbk k2 (by simp [pZ]) (by simp) (by
       simp only []
       rw [CB,e1,← e2,HG,CA _ _ _ _ (by simp;omega)]
       exact hf) (fun x=>Q8 _ _ _ _)
     exact Goal.skip h (exec _ _ hvx hrun) (hsim.more hpq) a1 (nP a1 _ _) rfl rfl
    cases hwhole:(Nat.beq off 0&&Nat.beq (L6 P t) sz) with
    |true=>
     rw [hwhole] at h
     simp only [cond_true] at h
     simp only [A9] at hwhole
     have h0:off=0:=B0 hwhole.1
     have hsz1:L6 P t=sz:=B0 hwhole.2
     refine main d' (by omega) ?_ h
     rw [h0,RP _ _ (by simp;omega)]
     exact e6 d' (a.eval y) (by omega) d1 hv
    |false=>
     rw [hwhole] at h
     simp only [cond_false] at h
     obtain⟨hoff,h⟩:=H8 h
     have hoff:off+L6 P t≤sz:=B3 hoff
     obtain⟨hty,h⟩:=H8 h
     simp only [A9] at hty
     obtain⟨⟨hty,hage⟩,_⟩:=hty
     rw [VQ hage] at hty
     refine main (Ih (xs[i]?.getD .top) off d') hoff ?_ h
     generalize hx:xs[i]?.getD D.top=xi at *
     match xi,hty,e5 with
     | .agg cs,_,e5=>
      obtain⟨us,rfl,hcs⟩:=e5
      have hyd:vW g1.h d'.cells (a.eval y).cells.toList:=by
       have hok':dQ (.d d')=true:=by
        unfold dQ Qa at *
        cases d'<;>first|(simpa [V.cells,D.cells,List.all_map] using hok)
       obtain⟨q1,_,_⟩:=oQ (p:=fun _=>True) hok' (show VV g1 (.d d') _ from hv) trivial
       have q2:(V.d d').cells=d'.cells.map V.d:=by cases d'<;>rfl
       rw [q2] at q1
       exact (jG _ _ _).2 ((F2.IT q1).mono fun _ _ _ h=>h)
      have hF:vW g1.h (setAt cs off d'.cells) (setAt us.toList off (a.eval y).cells.toList):=(jG _ _ _).2 (((jG _ _ _).1 hyd).setAt off ((jG _ _ _).1 hcs))
      have:=e6 (Ih (.agg cs) off d') (.agg (setAt us.toList off (a.eval y).cells.toList).toArray) (by simpa [Value.cells,pZ] using e3)
       (by intro z hz;rcases jX _ _ _ _ (by simpa [Value.cells] using hz) with hz|hz;exact e4 z hz;exact d1 z hz) ⟨_,rfl,by simpa [D.cells] using hF⟩
      simpa [Value.cells] using this
   ·cases h
  ·cases h
 ·cases h
theorem tY {e:TypeId}(h:DA P e=true):∃ i z,P.info? e=some i∧i.bytes≤2048∧0<i.size∧i.zero=some z∧z.cells.size=i.size:=by
 unfold DA at h
 split at h
 ·rename_i i hi
  simp only [A9] at h
  obtain⟨⟨h1,h2⟩,h3⟩:=h
  split at h3
  ·rename_i z hz
   refine⟨i,z,hi,B3 h1,?_,hz,B0 h3⟩
   have h2:Nat.ble 1 i.size=true:=h2
   exact B3 h2
  ·cases h3
 ·cases h
theorem JJ {t ty e:TypeId}{i:TypeInfo}{sz:Nat}(ht:P.underlying t=some (.slice e))(hi:P.info? e=some i){v:Value}{n c:Nat}{xs:List Value}(hown:w.ownsRow 0 e sz v n xs) :
  (Builtin.append_ #[t,t] ty #[v,.slice none 0 c]).run P w = .ok v w:=by
 rcases hown.2 with ⟨rfl,rfl⟩|⟨b,cap,cur,rfl,_,_,hnc,_⟩
 ·simp [Builtin.append_,run_underlying ht,sizeOf,typeInfo,hi,Builtin.lenOf,Builtin.firstCells]
 ·simp [Builtin.append_,run_underlying ht,sizeOf,typeInfo,hi,Builtin.lenOf,Builtin.firstCells,hnc,storeCells]
theorem SL {t ty e:TypeId}{i:TypeInfo}{z:Value}(ht:P.underlying t=some (.slice e))(hi:P.info? e=some i)(hz:i.zero=some z){v v':Value}{n m c:Nat}{xs news:List Value}{ad:Addr}
  (hown:w.ownsRow 0 e i.size v n xs) (hl:news.length=m*i.size) (hnews:∀ j u,news[j]? = some u→w.cell? (ad.add j)=some u) (h1:∀ y∈news,y.oneCell'=true) (h63:n+m≤maxLen) (hbytes:(n+m)*i.bytes≤140737488355328)
  (hr:(Builtin.append_ #[t,t] ty #[v,.slice (some ad) m c]).run P w = .ok v' w'):∀ b,v'.ownBlock=some b→some b=v.ownBlock∨w.heap.size≤b:=by
 have hsmall:n+m≤9223372036854775807:=by simp only [maxLen] at h63;omega
 intro b hb
 rcases hown.2 with ⟨rfl,rfl⟩|⟨b0,cap,cur,rfl,_,hg,hnc,hcm,hcs,_⟩
 ·by_cases hm:m=0
  ·subst hm
   have hn:news=[]:=D1 (by simpa using hl)
   subst hn
   have:(Builtin.append_ #[t,t] ty #[.slice none 0 0,.slice (some ad) 0 c]).run P w = .ok (.slice none 0 0) w:=by
    simp [Builtin.append_,run_underlying ht,sizeOf,typeInfo,hi,Builtin.lenOf,Builtin.firstCells,loadCells,loadCellsFrom]
   rw [this] at hr
   cases hr
   cases hb
  ·rw [run_append_nil (P:=P) w t ty e i z ht hi hz ad m c news hl hnews (by omega) (by omega) (by have hb:=hbytes;simp only [C5] at hb;omega)] at hr
   cases hr
   simp only [Value.ownBlock,B1] at hb
   exact .inr (by omega)
 ·by_cases hroom:n+m≤cap
  ·have hfit:n*i.size+news.length≤cur.size:=by rw [hl,hcs,← Nat.add_mul];exact Nat.mul_le_mul_right _ hroom
   rw [run_append_room (P:=P) w t ty e i ht hi b0 n cap cur hg ad m c news hl hnews h1 hroom hfit] at hr
   cases hr
   exact .inl hb.symm
  ·have holds:∀ j u,xs[j]? = some u→w.cell? ((⟨b0,0,none⟩:Addr).add j)=some u:=hown.cells (g:=b0) rfl
   rw [run_append_grow (P:=P) w t ty e i z ht hi hz ⟨b0,0,none⟩ n cap xs hown.1 holds ad m c news hl hnews (by omega) (by omega) (growslice_fits (by omega) hbytes)] at hr
   cases hr
   simp only [Value.ownBlock,B1] at hb
   exact .inr (by omega)
theorem PV {t ty e:TypeId}{i:TypeInfo}{z:Value}(ht:P.underlying t=some (.slice e))(hi:P.info? e=some i)(hz:i.zero=some z)(hzs:z.cells.size=i.size)(hpos:0<i.size)(hby:i.bytes≤2048)
  {v x:Value} {xs ys:List D} {us:List Value} {sz':Nat} (hown:w.ownsRow 0 e i.size v xs.length us) (hf:mY g.h i.size xs us) (hx:Iw w g.h sz' ys x) (hs:sz'=i.size∨ys=[]) (hm:xs.length+ys.length≤J5) :
  ∃ v' w' us',(Builtin.append_ #[t,t] ty #[v,x]).run P w = .ok v' w'∧w'.ownsRow 0 e i.size v' (xs++ys).length us'∧mY g.h i.size (xs++ys) us'∧w.grownBy w' v.ownBlock∧∀ b,v'.ownBlock=some b→some b=v.ownBlock∨w.heap.size≤b:=by
 obtain⟨A,cap,us2,rfl,h2,h3,h4,h5⟩:=hx
 have h4:mY g.h i.size ys us2:=by
  rcases hs with rfl|rfl
  ·exact h4
  ·exact h4
 have h63:xs.length+ys.length≤maxLen:=by simp only [J5] at hm;simp only [maxLen];omega
 have hbytes:(xs.length+ys.length)*i.bytes≤140737488355328:=by
  have:=Nat.mul_le_mul hm hby
  simp only [J5] at this
  omega
 have h5':(A=none∧ys=[])∨∃ ad,A=some ad∧∀ j y,us2[j]? = some y→w.cell? (ad.add j)=some y:=by
  rcases h5 with rfl|h5
  ·cases A with
   |none=>exact .inl ⟨rfl,rfl⟩
   |some ad=>exact .inr ⟨ad,rfl,fun j y hj=>by have h4:us2=[]:=h4;subst h4;simp at hj⟩
  ·exact .inr h5
 clear h5
 rcases h5' with ⟨rfl,rfl⟩|⟨ad,rfl,h5⟩
 ·refine⟨v,w,us,JJ ht hi hown,by simpa using hown,by simpa using hf,qV _ _,fun b hb=> .inl hb.symm⟩
 ·have hl:=hJ h4
  obtain⟨v',w',k1,k2,k3,_⟩:=run_append_own (P:=P) w 0 t ty e i z i.size i.bytes ht hi hz rfl rfl hzs hpos v xs.length us hown ad ys.length cap us2 hl h5 (CQ h4) h63 hbytes (C4 _)
  exact⟨v',w',us++us2,k1,by rw [A7];exact k2,qJ hf h4,k3,SL ht hi hz hown hl h5 (CQ h4) h63 hbytes k1⟩
theorem Hg (S:At u p g st a w)(hpq:∀ x,p x→q x){nid:Nat}(hfr:iY p q nid){x y:Operand}{t:TypeId}{c:Call}(hop:o.op = .call c)(hcal:c.callee = .builtin .append)(hargs:c.args=#[x,y])(hts:c.argTypes=#[t,t])
  (h:yO P t (K2 st x) (K2 st y) nid st K=some r):Goal u p q g st a w P o K r:=by
 have hvx:=S.ev x
 have hvy:=S.ev y
 have hux:=S.Z7 x
 have exec:∀ v w',(Builtin.append_ #[t,t] o.type #[a.eval x,a.eval y]).run P w = .ok v w'→(execOp a.eval o).run P w = .ok (.value v) w':=by
  intro v w' e
  simp only [execOp,hop,resolve,hcal,hargs,hts]
  simp [invoke,builtin,e]
 unfold yO at h
 split at h
 ·cases h
 ·rename_i e he
  have ht:=lH he
  simp only [] at h
  split at h
  ·cases h
  ·rename_i sz' ys hl
   obtain⟨hc,h⟩:=H8 h
   simp only [A9,Bool.or_eq_true,List.isEmpty_iff] at hc
   obtain⟨hby,hsz⟩:=hc
   obtain⟨i,z,hi,hb1,hb2,hb3,hb4⟩:=tY hby
   have hsi:L6 P e=i.size:=by simp [L6,hi]
   have hsz:sz'=i.size∨ys=[]:=by
    rcases hsz with hsz|hsz
    ·exact .inl (by rw [← hsi];exact (B0 hsz).symm)
    ·exact .inr hsz
   have hlies:=uL S.hp hvy hl
   split at h
   ·rename_i he2
    obtain⟨hm,h⟩:=H8 h
    have hm:ys.length≤J5:=B3 hm
    rw [he2] at hvx
    have hvx:a.eval x = .slice none 0 0:=hvx
    obtain⟨v',w',us',k1,k2,k3,k4,k5⟩:=PV (ty:=o.type) (xs:=[]) ht hi hb3 hb4 hb2 hb1 (World.ownsRow_nil w 0 e i.size) rfl hlies hsz (by simpa using hm)
    obtain⟨g',m1,m2,m3,m4,m5⟩:=gB (e:=e) (sz:=L6 P e) (xs:=ys) (v:=v') (us:=us') (h':=(newRow st nid e (L6 P e) ys).h) S.hp hpq hfr.zero.1 hfr.zero.2 k4 (by rw [hsi];exact k2) (by rw [hsi];exact hb2) (by rw [hsi];exact k3)
     (fun b hb=>by cases hb) k5 (fun o' x hx hne=>by rw [newRow,Q8,if_neg hne] at hx;exact⟨hx,fun _ _ e=>by cases e⟩) (by rw [newRow,Q8];simp)
    refine Goal.res h (exec v' w' (by rw [hvx];exact k1)) m5 m1 (yV k4 m1) ⟨m4.symm,?_⟩ hfr.zero.2 rfl rfl
    rcases S4 k2 with ⟨rfl,_⟩|⟨_,_,_,rfl,_⟩<;>rfl
   ·rename_i ro he2
    split at h
    ·rename_i e' sz'' xs hrow
     replace h:=H8 h
     obtain⟨hc,h⟩:=h
     simp only [A9] at hc
     have hee:e=e':=B0 hc.1
     have hss:L6 P e=sz'':=B0 hc.2
     replace h:=H8 h
     obtain⟨hmb,h⟩:=h
     have hm:xs.length+ys.length≤J5:=B3 hmb
     subst hee;subst hss
     rw [he2] at hvx
     have hvx:a.eval x=g.hdr ro:=hvx.1
     obtain⟨us,hpos,hown,hf⟩:=S.hp.ob _ _ hrow
     rw [hsi] at hown hf
     obtain⟨v',w',us',k1,k2,k3,k4,k5⟩:=PV (ty:=o.type) ht hi hb3 hb4 hb2 hb1 hown hf hlies hsz hm
     have hpro:p ro:=(S.hp.use _ _ hrow).1
     have hne0:ro≠nid:=fun e=>hfr.zero.1 (e▸hpro)
     obtain⟨g',m1,m2,m3,m4,m5⟩:=gB (e:=e) (sz:=L6 P e) (xs:=xs++ys) (v:=v') (us:=us') (h':=(newRow (st.dG ro none) nid e (L6 P e) (xs++ys)).h) S.hp hpq hfr.zero.1 hfr.zero.2 k4 (by rw [hsi];exact k2) (by rw [hsi];exact hb2) (by rw [hsi];exact k3)
      (fun b hb=>S.hp.sep ro _ b hrow hb) k5 (fun o' x hx hne=>by
       rw [newRow,Q8,if_neg hne,Q8] at hx
       split at hx
       ·cases hx
       ·rename_i hne2
        exact⟨hx,fun b hb e=>hne2 (S.hp.inj o' ro _ _ b hx hrow hb e.symm)⟩) (by rw [newRow,Q8];simp)
     refine Goal.res h (exec v' w' (by rw [hvx];exact k1)) m5 m1 (yV k4 m1) ⟨m4.symm,?_⟩ hfr.zero.2 rfl rfl
     rcases S4 k2 with ⟨rfl,_⟩|⟨_,_,_,rfl,_⟩<;>rfl
    ·cases h
   ·cases h
theorem PS (h:Nat→Option Obj):∀ s:F9,mY h 1 (s.map fun b=>D.int .u8 (b.toNat:Int)) (s.map fun b=>Value.int .u8 b.toNat)
 |[]=>rfl
 |b::s=>⟨.int .u8 b.toNat,_,rfl,rfl,by intro y hy;simp [Value.cells] at hy;subst hy;rfl,rfl,PS h s⟩
theorem Da {h:Nat→Option Obj}{sz:Nat}:∀ {xs ys:List D} {us vs:List Value},mY h sz xs us→mY h sz ys vs→mY h sz (xs++ys) (us++vs)
 |[],ys,us,vs,h1,h2=>by cases h1;exact h2
 |x::xs,ys,us,vs,h1,h2=>by
  obtain⟨v,r,rfl,a1,a2,a3,a4⟩:=h1
  exact⟨v,r++vs,by rw [C1],a1,a2,a3,Da a4 h2⟩
theorem FI {t tu ty e:TypeId}{i:TypeInfo}(ht:P.underlying t=some (.slice e))(hu:P.underlying tu=some .string)(hi:P.info? e=some i){z:Value}(hz:i.zero=some z)(hs1:i.size=1)(hb1:i.bytes≤2048){v v':Value}{n:Nat}{xs:List Value}{s:ByteArray}
  (hown:w.ownsRow 0 e 1 v n xs) (h63:n+s.size≤J5) (hr:(Builtin.append_ #[t,tu] ty #[v,.string s]).run P w = .ok v' w'):∀ b,v'.ownBlock=some b→some b=v.ownBlock∨w.heap.size≤b:=by
 have hsm:n+s.size≤68719476736:=h63
 have hbb:(n+s.size)*i.bytes≤140737488355328:=by
  have h1:(n+s.size)*i.bytes≤(n+s.size)*2048:=Nat.mul_le_mul_left _ hb1
  omega
 intro b hb
 rcases hown.2 with ⟨rfl,rfl⟩|⟨b0,cap,cur,rfl,_,hg,hnc,hcm,hcs,_⟩
 ·by_cases hm:s.size=0
  ·have:(Builtin.append_ #[t,tu] ty #[.slice none 0 0,.string s]).run P w = .ok (.slice none 0 0) w:=by
    simp [Builtin.append_,run_underlying ht,run_underlying hu,sizeOf,typeInfo,hi,Builtin.lenOf,hm,Builtin.firstCells]
   rw [this] at hr
   cases hr
   cases hb
  ·rw [run_append_nil_string (P:=P) w t tu ty e i z ht hu hi hz s (by omega) (by omega) (by have hb:=hbb;simp only [C5] at hb;omega)] at hr
   cases hr
   simp only [Value.ownBlock,B1] at hb
   exact .inr (by omega)
 ·by_cases hroom:n+s.size≤cap
  ·rw [Lib.run_append_room_string (P:=P) w t tu ty e i ht hu hi hs1 b0 n cap cur hg s hroom (by omega)] at hr
   cases hr
   exact .inl hb.symm
  ·have holds:∀ j u,xs[j]? = some u→w.cell? ((⟨b0,0,none⟩:Addr).add j)=some u:=hown.cells (g:=b0) rfl
   rw [Lib.run_append_grow_string (P:=P) w t tu ty e i z ht hu hi hz ⟨b0,0,none⟩ n cap xs (by have:=hown.1;rw [hs1];exact this) holds s (by omega) (by omega) (growslice_fits (by omega) hbb)] at hr
   cases hr
   simp only [Value.ownBlock,B1] at hb
   exact .inr (by omega)
theorem OR {e:TypeId}(h:KT P e=true):∃ i,P.info? e=some i∧i.size=1∧i.bytes=1∧i.zero=some (.int .u8 0):=by
 unfold KT at h
 split at h
 ·rename_i i hi
  simp only [A9] at h
  obtain⟨⟨h1,h2⟩,h3⟩:=h
  split at h3
  ·rename_i n hz
   have:n=0:=by simpa using h3
   subst this
   exact⟨i,hi,B0 h1,B0 h2,hz⟩
  ·cases h3
 ·cases h
theorem Bh (S:At u p g st a w)(hpq:∀ x,p x→q x){nid:Nat}(hfr:iY p q nid){x y:Operand}{t tu:TypeId}{s:F9}{c:Call}(hop:o.op = .call c)(hcal:c.callee = .builtin .append)(hargs:c.args=#[x,y])(hts:c.argTypes=#[t,tu])
  (hu:P.underlying tu=some .string) (hy:K2 st y = .d (.str s)) (h:tF P t (K2 st x) s nid st K=some r):Goal u p q g st a w P o K r:=by
 have hvx:=S.ev x
 have hvy:=S.ev y
 rw [hy] at hvy
 obtain⟨sb,hsb,hsl⟩:=hvy
 have exec:∀ v w',(Builtin.append_ #[t,tu] o.type #[a.eval x,a.eval y]).run P w = .ok v w'→(execOp a.eval o).run P w = .ok (.value v) w':=by
  intro v w' e
  simp only [execOp,hop,resolve,hcal,hargs,hts]
  simp [invoke,builtin,e]
 unfold tF at h
 split at h
 ·rename_i e ro he he2
  have ht:=lH he
  split at h
  ·rename_i e' sz xs hrow
   replace h:=H8 h
   obtain⟨hc,h⟩:=h
   simp only [A9] at hc
   obtain⟨⟨⟨⟨c1,c2⟩,c3⟩,c4⟩,hby⟩:=hc
   have hee:e=e':=B0 c1
   have hss:sz=1:=B0 c2
   have hse:L6 P e=1:=B0 c3
   have hm:xs.length+s.length≤J5:=B3 c4
   have hm':xs.length+s.length≤68719476736:=hm
   subst hee;subst hss
   obtain⟨i,hi,hsi,hb1,hb3⟩:=OR hby
   rw [he2] at hvx
   have hvx:a.eval x=g.hdr ro:=hvx.1
   obtain⟨us,hpos,hown,hf⟩:=S.hp.ob _ _ hrow
   have hsz:sb.size=s.length:=by rw [← hsl,E2];rfl
   have hsc:Lib.strCells sb=s.map fun b=>Value.int .u8 b.toNat:=by rw [Lib.strCells,hsl]
   obtain⟨v',w',k1,k2,k4⟩:∃ v' w',(Builtin.append_ #[t,tu] o.type #[g.hdr ro,.string sb]).run P w = .ok v' w'∧w'.ownsRow 0 e 1 v' (xs.length+sb.size) (us++Lib.strCells sb)∧w.grownBy w' (g.hdr ro).ownBlock:=by
    obtain⟨v',w',k1,k2,k3,_⟩:=Lib.run_append_own_string (P:=P) w 0 t tu o.type e i ht hu hi hb3 hsi hb1 (g.hdr ro) xs.length us hown sb (by simp only [maxLen];omega) (by omega) (C4 _)
    exact⟨v',w',k1,k2,k3⟩
   have k5:=FI ht hu hi hb3 hsi (by omega) hown (by simp only [J5];omega) k1
   have hpro:p ro:=(S.hp.use _ _ hrow).1
   have hne0:ro≠nid:=fun e=>hfr.zero.1 (e▸hpro)
   obtain⟨g',m1,m2,m3,m4,m5⟩:=gB (e:=e) (sz:=1) (xs:=xs++s.map fun b=>D.int .u8 (b.toNat:Int)) (v:=v') (us:=us++Lib.strCells sb) (h':=(newRow (st.dG ro none) nid e 1 (xs++s.map fun b=>D.int .u8 (b.toNat:Int))).h) S.hp hpq hfr.zero.1 hfr.zero.2 k4
    (by rw [A7,List.length_map,← hsz];exact k2) (by omega) (by rw [hsc];exact Da hf (PS _ s))
    (fun b hb=>S.hp.sep ro _ b hrow hb) k5 (fun o' x hx hne=>by
     rw [newRow,Q8,if_neg hne,Q8] at hx
     split at hx
     ·cases hx
     ·rename_i hne2
      exact⟨hx,fun b hb e=>hne2 (S.hp.inj o' ro _ _ b hx hrow hb e.symm)⟩) (by rw [newRow,Q8];simp)
   refine Goal.res h (exec v' w' (by rw [hvx,hsb];exact k1)) m5 m1 (yV k4 m1) ⟨m4.symm,?_⟩ hfr.zero.2 rfl rfl
   rcases S4 k2 with ⟨rfl,_⟩|⟨_,_,_,rfl,_⟩<;>rfl
  ·cases h
 ·cases h
theorem Qg (S:At u p g st a w)(hpq:∀ x,p x→q x){nid:Nat}(hfr:iY p q nid){t:TypeId}{x y:Operand}(ho:o.op = .makeSlice t x y)
  (h:MV P t (K2 st x) (K2 st y) nid st K=some r):Goal u p q g st a w P o K r:=by
 have hvx:=S.ev x
 have hvy:=S.ev y
 unfold MV at h
 split at h
 ·rename_i e n m he hx hy
  have ht:=lH he
  rw [hx] at hvx
  rw [hy] at hvy
  have hvx:=sP hvx
  have hvy:=sP hvy
  split at h
  ·rename_i z hz
   obtain⟨i,z',hi',hzv,hV⟩:=rR hz
   obtain⟨hc,h⟩:=H8 h
   simp only [A9] at hc
   obtain⟨i2,z2,hi,hb1,hb2,hb3,hb4⟩:=tY hc.1
   rw [hi] at hi'
   cases hi'
   rw [hb3] at hzv
   cases hzv
   obtain⟨hc2,h⟩:=H8 h
   simp only [A9,decide_eq_true_eq] at hc2
   obtain⟨⟨h0,h1⟩,h2⟩:=hc2
   have hsi:L6 P e=i.size:=by simp [L6,hi]
   have hmn:m.toNat≤J5:=by omega
   have hbytes:(i.bytes:Int)*m≤281474976710656:=by
    have:i.bytes*m.toNat≤2048*J5:=Nat.mul_le_mul hb1 hmn
    have h3:((i.bytes*m.toNat:Nat):Int)≤281474976710656:=by simp only [J5] at this;omega
    rw [Int.natCast_mul] at h3
    rwa [Int.toNat_of_nonneg (by omega)] at h3
   have hrun:=run_make (P:=P) w t e i z' ht hi hb3 .i64 .i64 n m h0 h1 hbytes (by simp only [J5] at h2;omega)
   obtain⟨d1,d2⟩:=EI hc.2 (hV g.h)
   have hmade:(madeCells z'.cells (m.toNat*i.size)).toList=(List.replicate m.toNat z'.cells.toList).flatten:=by
    have:=rC z'.cells (by rw [hb4];exact hb2) m.toNat
    rwa [hb4] at this
   have hf:=oB hb4 d1 (hV g.h) n.toNat
   have hown:(w.alloc (.cells (madeCells z'.cells (m.toNat*i.size)) e)).ownsRow 0 e i.size (.slice (some ⟨w.heap.size,0,none⟩) n.toNat m.toNat) n.toNat (List.replicate n.toNat z'.cells.toList).flatten:=by
    refine⟨by simp [hb4],.inr ⟨_,_,_,rfl,C4 _,heap_alloc_new w _,by omega,by simp only [J5] at hmn;simp only [maxLen];omega,size_madeCells _ _,?_⟩⟩
    rw [hmade]
    have e1:List.replicate m.toNat z'.cells.toList=List.replicate n.toNat z'.cells.toList++List.replicate (m.toNat-n.toNat) z'.cells.toList:=by
     rw [List.replicate_append_replicate];congr 1;omega
    rw [e1,List.flatten_append]
    have e2:(List.replicate n.toNat z'.cells.toList).flatten.length=n.toNat*i.size:=by simp [hb4]
    rw [← e2]
    exact List.take_left
   obtain⟨g',m1,m2,m3,m4,m5⟩:=gB (e:=e) (sz:=L6 P e) (xs:=List.replicate n.toNat z) (v:= .slice (some ⟨w.heap.size,0,none⟩) n.toNat m.toNat) (us:=(List.replicate n.toNat z'.cells.toList).flatten)
    (h':=(newRow st nid e (L6 P e) (List.replicate n.toNat z)).h) S.hp hpq hfr.zero.1 hfr.zero.2 (World.grownBy_alloc w _ none) (by rw [hsi,List.length_replicate];exact hown) (by rw [hsi];exact hb2) (by rw [hsi];exact hf)
    (fun b hb=>by cases hb) (fun b hb=>by simp only [Value.ownBlock,B1] at hb;exact .inr (by omega)) (fun o' x hx hne=>by rw [newRow,Q8,if_neg hne] at hx;exact⟨hx,fun _ _ e=>by cases e⟩) (by rw [newRow,Q8];simp)
   refine Goal.res h (v:= .slice (some ⟨w.heap.size,0,none⟩) n.toNat m.toNat) ?_ m5 m1 (nO m1) ⟨m4.symm,rfl⟩ hfr.zero.2 rfl rfl
   simp only [execOp,ho,hvx,hvy]
   simp [hrun]
  ·cases h
 ·cases h
theorem Qe (S:At u p g st a w)(hpq:∀ x,p x→q x){x y:Operand}{ts:Array TypeId}{c:Call}(hop:o.op = .call c)(hcal:c.callee = .builtin .copy)(hargs:c.args=#[x,y])(hts:c.argTypes=ts)
  {t t':TypeId} {e:TypeId} (ht:ts=#[t,t']) (he:iK P t=some e) (hok:CD P e=true)
  (h:QJ P (K2 st x) (K2 st y) st K=some r) (hsz:L6 P e=1):Goal u p q g st a w P o K r:=by
 have hvx:=S.ev x
 have hvy:=S.ev y
 have hux:=S.Z7 x
 have ht':=lH he
 obtain⟨_,info,_,hinfo,_,hsi⟩:=gS hok
 have exec:∀ v w',(Builtin.copy_ #[t,t'] o.type #[a.eval x,a.eval y]).run P w = .ok v w'→(execOp a.eval o).run P w = .ok (.value v) w':=by
  intro v w' e
  simp only [execOp,hop,resolve,hcal,hargs,hts,ht]
  simp [invoke,builtin,e]
 unfold QJ at h
 split at h
 ·rename_i ro hx
  rw [hx] at hvx hux
  split at h
  ·rename_i e' sz xs sz' ys hrow hl
   obtain⟨hc,h⟩:=H8 h
   simp only [A9,Bool.or_eq_true,List.isEmpty_iff] at hc
   obtain⟨⟨hc1,hc2⟩,_⟩:=hc
   have hsz1:sz=1:=B0 hc1
   have hvx:a.eval x=g.hdr ro:=hvx.1
   obtain⟨A,cap,us2,hvy',h2,h3,h4,h5⟩:=uL S.hp hvy hl
   have h4:mY g.h 1 ys us2:=by
    rcases hc2 with k|rfl
    ·have:sz=sz':=B0 k
     rw [hsz1] at this;subst this;exact h4
    ·exact h4
   have hl2:=hJ h4
   have hlx:us2.length=ys.length:=by omega
   have hsize:(P.info? e).map (·.size)=some 1:=by simp [hinfo];omega
   have hzero:min ys.length xs.length=0→(Builtin.copy_ #[t,t'] o.type #[a.eval x,a.eval y]).run P w = .ok (goInt (min ys.length xs.length:Nat)) w→Goal u p q g st a w P o K r:=by
    intro hm hr
    have hst:st.dG ro (some (.row e' sz (ys.take xs.length++xs.drop ys.length) false))=st:=by
     have hxy:ys.take xs.length++xs.drop ys.length=xs:=by
      rcases Nat.eq_zero_or_pos ys.length with h0|h0
      ·have:ys=[]:=D1 h0
       subst this;simp
      ·have:xs=[]:=D1 (by omega)
       subst this;simp
     rw [hxy]
     have:(st.dG ro (some (.row e' sz xs false))).h=st.h:=by
      funext z
      rw [Q8]
      split
      ·rename_i k;subst k;exact hrow.symm
      ·rfl
     show (⟨st.t,(st.dG ro (some (.row e' sz xs false))).h,st.m⟩:St)=st
     rw [this]
    rw [hst] at h
    exact Goal.val S hpq h (exec _ _ hr) rfl trivial
   by_cases hm:min ys.length xs.length=0
   ·refine hzero hm ?_
    rw [hvx,hvy',hm]
    rcases DN S.hp hrow with ⟨k1,k2⟩|⟨b,cap',k1,_⟩
    ·rw [k1]
     exact run_copy_none (P:=P) w t t' o.type e none A 0 0 ys.length cap ht' hsize (by simp [Nat.min_def] )
    ·rw [k1]
     exact run_copy_none (P:=P) w t t' o.type e _ A xs.length cap' ys.length cap ht' hsize hm
   ·rcases h5 with rfl|⟨ad,rfl,h5⟩
    ·simp at hm
    ·rcases DN S.hp hrow with ⟨k1,k2⟩|⟨b,cap',k1,k2,k3⟩
     ·rw [k2] at hm;simp at hm
     ·have hbk:(g.hdr ro).ownBlock=some b:=by rw [k1];rfl
      obtain⟨cap2,cur,q1,q2,q3,q4,q5,q6,q7⟩:=EU S.hp hrow hbk
      have hcl:(us2.take xs.length).length=Nat.min ys.length xs.length:=by
       simp only [D7,hlx,Nat.min_def];split<;>split<;>omega
      have hcur:cur.size=cap2:=by rw [q6,hsz1];omega
      have hle:(us2.take xs.length).length≤xs.length:=by simp only [D7];omega
      have hrun:=run_copy_row (P:=P) w t t' o.type e b 0 xs.length cap' ad ys.length cap cur e' (us2.take xs.length) ht' hsize q3 hcl (fun j v hj=>by
       rw [List.getElem?_take] at hj
       split at hj
       ·exact h5 j v hj
       ·cases hj) (by omega) (fun v hv=>CQ h4 v (List.mem_of_mem_take hv))
      rw [← hvy',← k1,← hvx] at hrun
      have hset:(cur.toList.take 0++us2.take xs.length++cur.toList.drop (0+(us2.take xs.length).length))=setAt cur.toList 0 (us2.take xs.length):=by
       rw [NV _ _ _ (by simp only [E2];omega)]
      rw [hset] at hrun
      have hf':mY g.h sz (ys.take xs.length++xs.drop ys.length) ((setAt cur.toList 0 (us2.take xs.length)).take (xs.length*sz)):=by
       rw [CB,hsz1,Nat.mul_one]
       rw [hsz1,Nat.mul_one] at q7
       have hlq:=hJ q7
       rw [NV _ _ _ (by omega)]
       simp only [List.take_zero,List.nil_append,C5]
       have e1:=qK xs.length h4
       rw [Nat.mul_one] at e1
       refine qJ e1 ?_
       have e2:=tC ys.length q7
       rw [Nat.mul_one] at e2
       rcases Nat.le_total ys.length xs.length with hle'|hle'
       ·have:(us2.take xs.length).length=ys.length:=by simp only [D7];omega
        rw [this];exact e2
       ·have:xs.drop ys.length=[]:=D4 hle'
        rw [this]
        have:(us2.take xs.length).length=xs.length:=by simp only [D7];omega
        rw [this]
        show _=[]
        exact D4 (by omega)
      have hsim:=BZ (h':=(st.dG ro (some (.row e' sz (ys.take xs.length++xs.drop ys.length) false))).h) (c':=(setAt cur.toList 0 (us2.take xs.length)).toArray) S.hp hrow hbk q3 (by simp [pZ])
       (by simp;omega) (by simpa using hf') (fun x=>Q8 _ _ _ _)
      refine Goal.res h (v:=goInt (min ys.length xs.length:Nat)) (exec _ _ ?_) (hsim.more hpq) (L8.refl p g) (nP (L8.refl p g) _ _) rfl trivial rfl rfl
      rw [hrun,hcl]
  ·cases h
 ·cases h
end
end Go.AE
namespace Go.AE
open Go.RowKit
theorem F2.modify {α β:Type}{r:α→β→Prop}{x:α}{f:β→β}:∀ {zs:List α} {bs:List β} {j:Nat},F2 r zs bs→(∀ b,bs[j]? = some b→r x (f b))→F2 r (zs.set j x) (bs.modify j f)
 |[],_,j,h,_=>by cases h;cases j<;>exact .nil
 |a::zs,_,0,h,hf=>by
  cases h with
  |cons h1 h2=>exact .cons (hf _ rfl) h2
 |a::zs,_,j+1,h,hf=>by
  cases h with
  |cons h1 h2=>exact .cons h1 (F2.modify h2 fun b hb=>hf b (by simpa using hb))
section
variable {hh:Nat→Option Obj} {P:Program} {w:World}
theorem Sx {kt:pI}(hk:DR kt=true){a b:D}(ha:aT kt a=true)(hb:aT kt b=true){x y:Value}(hx:VD hh a x)(hy:VD hh b y):qT a b=true↔x=y:=by
 cases kt<;>simp only [DR,D6] at hk
 ·cases a<;>simp only [aT,D6] at ha
  cases b<;>simp only [aT,D6] at hb
  have hx:x=_:=hx
  have hy:y=_:=hy
  subst hx hy
  simp [qT]
 ·cases a<;>simp only [aT,D6] at ha
  cases b<;>simp only [aT,D6] at hb
  have hx:x=_:=hx
  have hy:y=_:=hy
  subst hx hy
  have ha:=E5 ha
  have hb:=E5 hb
  subst ha hb
  simp [qT]
 ·cases a<;>simp only [aT,D6] at ha
  cases b<;>simp only [aT,D6] at hb
  obtain⟨s,rfl,rfl⟩:=hx
  obtain⟨s',rfl,rfl⟩:=hy
  simp only [qT,beq_iff_eq,Value.string.injEq]
  constructor
  ·intro e
   cases s;cases s'
   congr 1
   exact Array.ext' e
  ·intro e;subst e;rfl
theorem TT {k:TypeId}(hk:DR (eX P k)=true):∃ d,P.underlying k=some d∧∀ (a:D) (x:Value),aT (eX P k) a=true→VD hh a x→MapKept.IsKey d x:=by
 unfold eX at hk ⊢
 split at hk<;>simp only [DR,D6] at hk
 ·rename_i h
  refine⟨_,h,fun a x ha hx=>?_⟩
  try simp only [h] at ha
  cases a<;>simp only [aT,D6] at ha
  have hx:x=_:=hx
  subst hx;trivial
 ·rename_i k' h
  refine⟨_,h,fun a x ha hx=>?_⟩
  try simp only [h] at ha
  cases a<;>simp only [aT,D6] at ha
  have hx:x=_:=hx
  subst hx
  exact (E5 ha).symm
 ·rename_i h
  refine⟨_,h,fun a x ha hx=>?_⟩
  try simp only [h] at ha
  cases a<;>simp only [aT,D6] at ha
  obtain⟨s,rfl,_⟩:=hx
  trivial
def Rv (hh:Nat→Option Obj)(kt:pI)(x:D)(m:MapEntry):Prop:=VD hh (x.at_ 0) m.key∧VD hh (x.at_ 1) m.val∧aT kt (x.at_ 0)=true
theorem uE {k:TypeId}{d:TypeDesc}(hk:DR (eX P k)=true)(hd:∀ (a:D) (x:Value),aT (eX P k) a=true→VD hh a x→MapKept.IsKey d x){kd:D}{key:Value}(hkd:aT (eX P k) kd=true)(hkey:VD hh kd key) :
  ∀ (xs:List D) (es:List MapEntry) (i:Nat),F2 (Rv hh (eX P k)) xs es→
   (AL kd xs=none∧Instr.findNow d key es i=some none)∨∃ j x e,AL kd xs=some j∧Instr.findNow d key es i=some (some (i+j,e.val))∧xs[j]? = some x∧es[j]? = some e∧e.key=key∧Rv hh (eX P k) x e
 |[],_,i,h=>by cases h;exact .inl ⟨rfl,rfl⟩
 |x::xs,_,i,h=>by
  cases h with
  |@cons _ e _ es h1 h2=>
   obtain⟨r,hr,hiff⟩:=MapKept.sameNow_of_keys (hd kd key hkd hkey) (hd _ _ h1.2.2 h1.1)
   have he:=Sx hk hkd h1.2.2 hkey h1.1
   cases r with
   |true=>
    have e1:=hiff.1 rfl
    exact .inr ⟨0,x,e,by simp only [AL,he.2 e1,cond_true],by simp [Instr.findNow,hr],rfl,rfl,e1.symm,h1⟩
   |false=>
    have hne:key≠e.key:=fun q=>by have:=hiff.2 q;cases this
    have hb:qT kd (x.at_ 0)=false:=by
     cases hb:qT kd (x.at_ 0) with
     |false=>rfl
     |true=>exact absurd (he.1 hb) hne
    rcases uE hk hd hkd hkey xs es (i+1) h2 with ⟨k1,k2⟩|⟨j,x',e',k1,k2,k3,k4,k5,k6⟩
    ·exact .inl ⟨by simp only [AL,hb,k1,cond_false],by simp [Instr.findNow,hr,k2]⟩
    ·exact .inr ⟨j+1,x',e',by simp only [AL,hb,k1,cond_false],by simp [Instr.findNow,hr,k2];omega,by simpa using k3,by simpa using k4,k5,k6⟩
theorem HF {e:TypeId}{i:TypeInfo}{z:Value}(hi:P.info? e=some i)(hz:i.zero=some z):(zeroValue e).run P w = .ok z w:=by
 simp [zeroValue,typeInfo,hi,hz]
def found (z:Value):Option (Nat×Value)→Value
 |some (_,v)=>v
 |none=>z
theorem Cc {t k e:TypeId}{d:TypeDesc}(ht:P.underlying t=some (.map k e))(hd:P.underlying k=some d){key m z:Value}(hkey:MapKept.IsKey d key){es:Array MapEntry}(hm:(m = .map none∧es=#[])∨∃ r clock,m = .map (some r)∧w.heap[r]? = some (.map es clock))
  {f:Option (Nat×Value)} (hf:Instr.findNow d key es.toList 0=some f) (hz:(zeroValue e).run P w = .ok z w) (ok:Bool) :
  (Instr.lookup t m key ok).run P w = .ok (if ok then .tuple #[found z f,.bool f.isSome] else found z f) w:=by
 have hc:=MapKept.run_checkKey (w:=w) hd hkey es.isEmpty 9999
 have hk:=MapKept.run_findKey (w:=w) hd hf
 rcases hm with ⟨rfl,rfl⟩|⟨r,clock,rfl,hb⟩
 ·simp [Instr.lookup,run_underlying ht] at hc hk ⊢
  simp only [hc,hk,Result.andThen_ok]
  cases f with
  |none=>simp [hz,found]
  |some f=>simp [found]
 ·simp only [Instr.lookup,Sem.run_bind,run_underlying ht,Result.andThen_ok,MapKept.run_getObj_map hb,Sem.run_pure,hc,hk]
  cases f with
  |none=>simp [hz,found]
  |some f=>simp [found]
theorem stays {d:TypeDesc}{key:Value}(hk:MapKept.IsKey d key):(Instr.keyThatStays key key).run P w = .ok key w:=by
 have:Instr.sameBits 10000 key key=true:=by
  cases d<;>cases key<;>simp_all [MapKept.IsKey,Instr.sameBits,MapKept.bytes_beq]
 simp [Instr.keyThatStays,this]
def stored (es:List MapEntry)(clock:Nat)(key val:Value):Option (Nat×Value)→List MapEntry
 |some (i,_)=>es.modify i fun e=>{ e with key,val }
 |none=>es++[{ key,val,born:=clock }]
def wG (es:Array MapEntry)(clock:Nat):Prop:=clock=es.size∧∀ j (m:MapEntry),es[j]? = some m→m.born=j
theorem wG.push {es:Array MapEntry}{clock:Nat}(h:wG es clock)(key val:Value):wG (es.push { key,val,born:=clock }) (clock+1):=by
 obtain⟨h1,h2⟩:=h
 refine⟨by simp [h1],fun j m hm=>?_⟩
 rw [Array.getElem?_push] at hm
 split at hm
 ·rename_i e;cases hm;rw [e,h1]
 ·exact h2 j m hm
theorem wG.modify {es:Array MapEntry}{clock:Nat}(h:wG es clock)(i:Nat){f:MapEntry→MapEntry}(hf:∀ e,(f e).born=e.born):wG (es.modify i f) clock:=by
 obtain⟨h1,h2⟩:=h
 refine⟨by simp [h1],fun j m hm=>?_⟩
 rw [Array.getElem?_modify] at hm
 split at hm
 ·rename_i e;subst e
  obtain⟨e',he,rfl⟩:=Option.map_eq_some_iff.1 hm
  rw [hf,h2 _ _ he]
 ·exact h2 j m hm
theorem PG {t k e:TypeId}{d:TypeDesc}(ht:P.underlying t=some (.map k e))(hd:P.underlying k=some d){key val:Value}(hkey:MapKept.IsKey d key){r clock:Nat}{es:Array MapEntry}(hb:w.heap[r]? = some (.map es clock))
  {f:Option (Nat×Value)} (hf:Instr.findNow d key es.toList 0=some f) (hfk:∀ i v,f=some (i,v)→∃ x,es[i]? = some x∧x.key=key) :
  ∃ es' clock',(Instr.mapUpdate t (.map (some r)) key val).run P w = .ok () { w with heap:=w.heap.setIfInBounds r (.map es' clock') }∧
   es'.toList=stored es.toList clock key val f∧(wG es clock→wG es' clock'):=by
 have hc:=MapKept.run_checkKey (w:=w) hd hkey false 9999
 have hk:=MapKept.run_findKey (w:=w) hd hf
 cases f with
 |none=>
  refine⟨es.push { key,val,born:=clock },clock+1,?_,by simp [stored],fun h=>h.push _ _⟩
  simp [Instr.mapUpdate,run_underlying ht,MapKept.run_getObj_map hb,hc,hk,MapKept.run_setObj_map _ hb]
 |some f=>
  obtain⟨i,v⟩:=f
  obtain⟨x,hx,hxk⟩:=hfk i v rfl
  refine⟨es.modify i fun e=>{ e with key,val },clock,?_,by simp [stored],fun h=>h.modify _ fun _=>rfl⟩
  have e1:((es[i]?).map (·.key)).getD key=key:=by rw [hx];simpa using hxk
  simp only [Instr.mapUpdate,Sem.run_bind,run_underlying ht,Result.andThen_ok,MapKept.run_getObj_map hb,hc,hk,e1,stays hkey,MapKept.run_setObj_map _ hb]
end
section
variable {u:Nat→Option Obj} {p q:Nat→Prop} {g:G} {st:St} {a:Act} {w:World} {P:Program} {o:Oper} {R:Type} {K:V→St→Option R} {r:R}
theorem zC {t k e:TypeId}(h:UF P t=some (k,e)):P.underlying t=some (.map k e):=by
 unfold UF at h
 split at h
 ·rename_i k' e' he;cases h;exact he
 ·cases h
theorem Bm (S:At u p g st a w)(hpq:∀ x,p x→q x){nid:Nat}(hfr:iY p q nid){t:TypeId}(ho:o.op = .makeMap t none)
  (h:uN P t nid st K=some r):Goal u p q g st a w P o K r:=by
 unfold uN at h
 split at h
 ·rename_i k e ht
  obtain⟨hk,h⟩:=H8 h
  have hnp:=hfr.zero.1
  have hqo:=hfr.zero.2
  have ha:L8 p g ⟨g.h,fun x=>if x=nid then w.heap.size else g.blk x,g.hdr⟩:=⟨fun _ _ h=>h,fun x hx=>by
   have:x≠nid:=fun e=>hnp (e▸hx)
   simp [this],fun _ _=>rfl⟩
  refine Goal.res h (v:= .map (some w.heap.size)) (w':=w.alloc (.map #[] 0)) (by simp [execOp,ho,Instr.makeMap]) ?_ ha (nO ha) ?_ hqo rfl rfl
  ·refine S.hp.update ha rfl none (fun k hk _=>heap_alloc_old w _ hk) (fun b hb=>by cases hb) hpq nid ?_ ?_
   ·intro o' x hx hne
    rw [Q8,if_neg hne] at hx
    exact⟨hx,fun b _ e=>by cases e⟩
   ·intro x hx
    rw [Q8,if_pos rfl] at hx
    simp only [B1] at hx
    subst hx
    refine⟨⟨#[],0,?_,.nil,rfl,fun j m hm=>by simp at hm⟩,?_,hqo,trivial⟩
    ·simp only [if_true];exact heap_alloc_new w _
    ·intro b hb
     simp only [jY,if_true,B1] at hb
     exact .inr (by omega)
  ·show Value.map _ = .map (some (if nid=nid then w.heap.size else g.blk nid))
   rw [if_pos rfl]
 ·cases h
theorem Hk (S:At u p g st a w)(hpq:∀ x,p x→q x){t:TypeId}{x i:Operand}{ok:Bool}(ho:o.op = .lookup t x i ok)
  (h:sJ P t (K2 st x) (K2 st i) ok st K=some r):Goal u p q g st a w P o K r:=by
 have hvx:=S.ev x
 have hvi:=S.ev i
 unfold sJ at h
 split at h
 ·rename_i k e kd ht hi
  rw [hi] at hvi
  have hvi:VD g.h kd (a.eval i):=hvi
  split at h
  ·rename_i z xs hz hx
   obtain⟨hb,h⟩:=H8 h
   simp only [A9] at hb
   obtain⟨d,hd,hik⟩:=TT (hh:=g.h) hb.1
   have hkey:=hik _ _ hb.2 hvi
   obtain⟨inf,zv,hinf,hzv,hZ⟩:=rR hz
   have hzr:=HF (w:=w) hinf hzv
   have hm:∃ es:Array MapEntry,F2 (Rv g.h (eX P k)) xs es.toList∧((a.eval x = .map none∧es=#[])∨∃ r clock,a.eval x = .map (some r)∧w.heap[r]? = some (.map es clock)):=by
    split at hx
    ·rename_i no hxo
     rw [hxo] at hvx
     split at hx
     ·rename_i kt xs' hno
      obtain⟨hs,hx⟩:=H8 hx
      cases hx
      have hs:=pI.KD hs
      subst hs
      obtain⟨es,clock,k1,k2,_⟩:=S.hp.ob _ _ hno
      exact⟨es,k2,.inr ⟨_,clock,hvx,k1⟩⟩
     ·cases hx
    ·rename_i hxo
     cases hx
     rw [hxo] at hvx
     exact⟨#[],.nil,.inl ⟨hvx,rfl⟩⟩
    ·cases hx
   obtain⟨es,hF,hm⟩:=hm
   unfold typed at h
   obtain⟨hty,h⟩:=H8 h
   simp only [A9] at hty
   have main:∀ (f:Option (Nat×Value)) (y:Value),Instr.findNow d (a.eval i) es.toList 0=some f→found zv f=y→VD g.h (getM z kd xs) y→f.isSome=Kl kd xs→Goal u p q g st a w P o K r:=by
    intro f y hf hy hv hs
    have hrun:=Cc (w:=w) (zC ht) hd hkey hm hf hzr ok
    rw [hy,hs] at hrun
    have hv:=pA hty.2 hv
    cases ok with
    |true=>
     simp only [cond_true,if_true] at h hrun
     refine Goal.val S hpq h (v:= .tuple #[y,.bool (Kl kd xs)]) (by simp only [execOp,ho];simp [hrun]) ⟨_,rfl,.cons hv (.cons rfl .nil)⟩ (fun v hv=>?_)
     simp only [B7,List.not_mem_nil,or_false] at hv
     rcases hv with rfl|rfl<;>trivial
    |false=>
     simp only [cond_false,D6,if_false] at h hrun
     exact Goal.val S hpq h (v:=y) (by simp only [execOp,ho];simp [hrun]) hv trivial
   rcases uE hb.1 hik hb.2 hvi xs es.toList 0 hF with ⟨k1,k2⟩|⟨j,x',e',k1,k2,k3,k4,k5,k6⟩
   ·refine main none zv k2 rfl ?_ ?_
    ·simp only [getM,k1];exact hZ _
    ·simp only [Kl,k1];rfl
   ·refine main _ e'.val k2 rfl ?_ ?_
    ·simp only [getM,k1,k3,Option.getD_some];exact k6.2.1
    ·simp only [Kl,k1];rfl
  ·cases h
 ·cases h
theorem UR (S:At u p g st a w)(hpq:∀ x,p x→q x){t:TypeId}{x i y:Operand}(ho:o.op = .mapUpdate t x i y)
  (h:zB P t (K2 st x) (K2 st i) (K2 st y) st K=some r):Goal u p q g st a w P o K r:=by
 have hvx:=S.ev x
 have hvi:=S.ev i
 have hvy:=S.ev y
 have huy:=S.Z7 y
 unfold zB at h
 split at h
 ·rename_i k e kd no ht hi hx
  rw [hi] at hvi
  rw [hx] at hvx
  have hvi:VD g.h kd (a.eval i):=hvi
  have hvx:a.eval x = .map (some (g.blk no)):=hvx
  split at h
  ·rename_i kt xs dd fz hno hdd
   obtain⟨hb,h⟩:=H8 h
   simp only [A9] at hb
   obtain⟨⟨⟨hs,hko⟩,hkd⟩,_⟩:=hb
   have hs:=pI.KD hs
   subst hs
   obtain⟨d,hd,hik⟩:=TT (hh:=g.h) hko
   have hkey:=hik _ _ hkd hvi
   obtain⟨g1,f1,f2,f3,f4⟩:=S.hp.freeze fz
   have hno1:V4 st.h fz no=some (.mp (eX P k) xs):=by
    rcases qU fz st.h no with k|k
    ·rw [k,hno]
    ·rw [k,hno];rfl
   obtain⟨es,clock,k1,k2,kb⟩:=f4.ob _ _ hno1
   have hvd:=zO hvy huy hdd (fun o ho=>ho) f1 f4
   have hvi1:=jU f1.h _ _ hvi
   have hik1:∀ (a:D) (x:Value),aT (eX P k) a=true→VD g1.h a x→MapKept.IsKey d x:=by
    obtain⟨d',hd',hik'⟩:=TT (hh:=g1.h) hko
    rw [hd] at hd'
    cases hd'
    exact hik'
   have hbo:g1.blk no=g.blk no:=by rw [f2]
   have main:∀ f,Instr.findNow d (a.eval i) es.toList 0=some f→(∀ i' v,f=some (i',v)→∃ x,es[i']? = some x∧x.key=a.eval i)→
     F2 (Rv g1.h (eX P k)) (VB kd dd xs) (stored es.toList clock (a.eval i) (a.eval y) f)→Goal u p q g st a w P o K r:=by
    intro f hf hfk hF
    obtain⟨es',clock',hrun,hes,hbn⟩:=PG (w:=w) (val:=a.eval y) (zC ht) hd hkey k1 hf hfk
    obtain⟨m1,m2⟩:=MapKept.heap_set (o':=Obj.map es' clock') k1
    refine Goal.skip (w':={ w with heap:=w.heap.setIfInBounds (g1.blk no) (.map es' clock') }) (g':=g1) h (by simp only [execOp,ho,hvx];rw [← hbo];simp [hrun]) ?_ f1 ⟨f1.h,rfl,rfl,rfl,by simp⟩ rfl rfl
    refine (f4.update (w':={ w with heap:=w.heap.setIfInBounds (g1.blk no) (.map es' clock') }) (h':=((st.freeze fz).dG no (some (.mp (eX P k) (VB kd dd xs)))).h) (L8.refl p g1) rfl (some (g1.blk no)) (fun b _ hb=>m2 b (fun e=>hb (by rw [e]))) (fun b hb=>?_) hpq no ?_ ?_)
    ·cases hb
     exact f4.sep no _ _ hno1 rfl
    ·intro o' x hx hne
     rw [Q8,if_neg hne] at hx
     refine⟨hx,fun b hb e=>?_⟩
     cases e
     exact hne (f4.inj o' no _ _ _ hx hno1 hb rfl)
    ·intro x hx
     rw [Q8,if_pos rfl] at hx
     simp only [B1] at hx
     subst hx
     refine⟨⟨es',clock',m1,?_,hbn kb⟩,fun b hb=>?_,hpq _ (f4.use _ _ hno1).1,trivial⟩
     ·rw [hes];exact hF
     ·simp only [jY,B1] at hb
      exact .inl (by rw [hb])
   have hent:Rv g1.h (eX P k) (.agg [kd,dd]) { key:=a.eval i,val:=a.eval y,born:=clock }:=⟨hvi1,hvd,hkd⟩
   rcases uE hko hik1 hkd hvi1 xs es.toList 0 k2 with ⟨k1,k2'⟩|⟨j,x',e',k1,k2',k3,k4,k5,k6⟩
   ·refine main none k2' (fun _ _ h=>by cases h) ?_
    simp only [VB,k1]
    exact F2.append k2 (.cons hent .nil)
   ·refine main _ k2' (fun i' v h=>?_) ?_
    ·simp only [B1,C7] at h
     obtain⟨h,_⟩:=h
     rw [← h,C5]
     exact⟨e',by simpa using k4,k5⟩
    ·simp only [VB,k1,C5]
     exact F2.modify k2 fun b _=>⟨hvi1,hvd,hkd⟩
  ·cases h
 ·cases h
end
end Go.AE
namespace Go.AE
open Go.RowKit
section
variable {hh:Nat→Option Obj} {P:Program} {w:World}
def held (es:List MapEntry)(clock:Nat)(key z:Value):Option (Nat×Value)→List MapEntry
 |some (i,_)=>es.modify i fun e=>{ e with key }
 |none=>es++[{ key,val:=z,born:=clock }]
def GC (n:Nat):Option (Nat×Value)→Nat
 |some (i,_)=>i
 |none=>n
theorem VI {t k e:TypeId}{d:TypeDesc}(ht:P.underlying t=some (.map k e))(hd:P.underlying k=some d){key z:Value}(hkey:MapKept.IsKey d key){r clock:Nat}{es:Array MapEntry}(hb:w.heap[r]? = some (.map es clock))
  {f:Option (Nat×Value)} (hf:Instr.findNow d key es.toList 0=some f) (hfk:∀ i v,f=some (i,v)→∃ x,es[i]? = some x∧x.key=key) (hz:(zeroValue e).run P w = .ok z w) (hB:wG es clock) :
  ∃ es' clock',(Instr.mapEntry t (.map (some r)) key).run P w = .ok (.tuple #[found z f,.int .i64 (GC es.size f:Nat)]) { w with heap:=w.heap.setIfInBounds r (.map es' clock') }∧
   es'.toList=held es.toList clock key z f∧wG es' clock':=by
 have hc:=MapKept.run_checkKey (w:=w) hd hkey false 9999
 have hk:=MapKept.run_findKey (w:=w) hd hf
 cases f with
 |none=>
  refine⟨es.push { key,val:=z,born:=clock },clock+1,?_,by simp [held],hB.push _ _⟩
  simp [Instr.mapEntry,run_underlying ht,MapKept.run_getObj_map hb,hc,hk,hz,MapKept.run_setObj_map _ hb,found,GC,goInt,hB.1]
 |some f=>
  obtain⟨i,v⟩:=f
  obtain⟨x,hx,hxk⟩:=hfk i v rfl
  refine⟨es.modify i fun e=>{ e with key },clock,?_,by simp [held],hB.modify _ fun _=>rfl⟩
  have e1:((es[i]?).map (·.key)).getD key=key:=by rw [hx];simpa using hxk
  have e2:((es[i]?).map fun x=>(x.born:Int)).getD 0=(i:Int):=by rw [hx,Option.map_some,Option.getD_some,hB.2 _ _ hx]
  simp only [Instr.mapEntry,Sem.run_bind,run_underlying ht,Result.andThen_ok,MapKept.run_getObj_map hb,hc,hk,e1,stays hkey,MapKept.run_setObj_map _ hb,e2]
  rfl
theorem Oo {es:Array MapEntry}{clock j:Nat}(hB:wG es clock)(hj:j<es.size):es.findIdx? (fun e=>(e.born:Int)==(j:Int))=some j:=by
 rw [Array.findIdx?_eq_some_iff_getElem]
 refine⟨hj,?_,fun i hi=>?_⟩
 ·rw [hB.2 j _ (C8 hj)];simp
 ·rw [hB.2 i _ (C8 (by omega))]
  simp;omega
theorem NT {t:TypeId}{r clock j:Nat}{es:Array MapEntry}(hb:w.heap[r]? = some (.map es clock))(hB:wG es clock)(hj:j<es.size)(ik:IntKind)(v:Value) :
  (Instr.entryStore t (.map (some r)) (.int ik j) v).run P w = .ok () { w with heap:=w.heap.setIfInBounds r (.map (es.modify j fun e=>{ e with val:=v }) clock) }:=by
 simp only [Instr.entryStore,Sem.run_bind,MapKept.run_getObj_map hb,Result.andThen_ok]
 have:(asInt (.int ik (j:Int))).run P w = .ok (j:Int) w:=rfl
 simp only [this,Result.andThen_ok,Oo hB hj,MapKept.run_setObj_map _ hb]
theorem Pb {es:Array MapEntry}{clock j:Nat}{e:MapEntry}(hB:wG es clock)(hj:es[j]? = some e):es.find? (fun e=>e.born==j)=some e:=by
 obtain⟨hlt,he⟩:=Array.getElem?_eq_some_iff.1 hj
 rw [Array.find?_eq_some_iff_getElem]
 refine⟨by rw [hB.2 j _ hj];simp,j,hlt,he,fun i hi=>?_⟩
 rw [hB.2 i _ (C8 (by omega))]
 simp;omega
theorem Hv {r m n j:Nat}{ns:List Nat}{es:Array MapEntry}{e:MapEntry}(hr:w.heap[r]? = some (.mapIter (some m) n ns.toArray n))(hm:w.heap[m]? = some (.map es n))(hB:wG es n)(hl:ns.getLast? = some j)(hj:es[j]? = some e) :
  (Instr.entry (.pointer (some ⟨r,0,none⟩))).run P w = .ok (.tuple #[e.key,e.val]) w:=by
 have hb:ns.toArray.back? = some j:=by simpa using hl
 have g1:(getObj r).run P w = .ok (.mapIter (some m) n ns.toArray n) w:=by simp only [getObj,Sem.run,hr]
 simp only [Instr.entry,Sem.run_bind,g1,Result.andThen_ok,hb,MapKept.run_getObj_map hm,bne_self_eq_false,D6,if_false,Pb hB hj]
 rfl
theorem Hw {t k e:TypeId}{m clock:Nat}{es:Array MapEntry}(ht:P.underlying t=some (.map k e))(hb:w.heap[m]? = some (.map es clock)) :
  (Instr.range t (.map (some m))).run P w = .ok (.pointer (some ⟨w.heap.size,0,none⟩)) (w.alloc (.mapIter (some m) clock #[] clock)):=run_range_map w t k e m es clock ht hb
end
section
variable {u:Nat→Option Obj} {p q:Nat→Prop} {g:G} {st:St} {a:Act} {w:World} {P:Program} {o:Oper} {R:Type} {K:V→St→Option R} {r:R}
theorem P3.Mm {h:Nat→Option Ob}(S:P3 u p g h w)(hpq:∀ x,p x→q x){no:Nat}{kt:pI}{xs ys:List D}(hno:h no=some (.mp kt xs)){es':Array MapEntry}{clock':Nat}(hF:F2 (Rv g.h kt) ys es'.toList)(hB:wG es' clock'){es:Array MapEntry}{clock:Nat}(k1:w.heap[g.blk no]? = some (.map es clock)) :
  P3 u q g (fun x=>bif Nat.beq x no then some (.mp kt ys) else h x) { w with heap:=w.heap.setIfInBounds (g.blk no) (.map es' clock') }:=by
 obtain⟨m1,m2⟩:=MapKept.heap_set (o':=Obj.map es' clock') k1
 refine (S.update (L8.refl p g) rfl (some (g.blk no)) (fun b _ hb=>m2 b (fun e=>hb (by rw [e]))) (fun b hb=>?_) hpq no ?_ ?_)
 ·cases hb
  exact S.sep no _ _ hno rfl
 ·intro o' x hx hne
  have:Nat.beq o' no=false:=by
   cases k:Nat.beq o' no with
   |false=>rfl
   |true=>exact absurd (B0 k) hne
  rw [this] at hx
  refine⟨hx,fun b hb e=>?_⟩
  cases e
  exact hne (S.inj o' no _ _ _ hx hno hb rfl)
 ·intro x hx
  rw [show Nat.beq no no=true from Nat.beq_refl no] at hx
  simp only [cond_true,B1] at hx
  subst hx
  refine⟨⟨es',clock',m1,hF,hB⟩,fun b hb=>?_,hpq _ (S.use _ _ hno).1,trivial⟩
  simp only [jY,B1] at hb
  exact .inl (by rw [hb])
theorem YJ (S:At u p g st a w)(hpq:∀ x,p x→q x){t:TypeId}{x i:Operand}(ho:o.op = .mapEntry t x i)
  (h:zA P t (K2 st x) (K2 st i) st K=some r):Goal u p q g st a w P o K r:=by
 have hvx:=S.ev x
 have hvi:=S.ev i
 unfold zA at h
 split at h
 ·rename_i k e kd no ht hi hx
  rw [hi] at hvi
  rw [hx] at hvx
  have hvi:VD g.h kd (a.eval i):=hvi
  have hvx:a.eval x = .map (some (g.blk no)):=hvx
  split at h
  ·rename_i kt xs z hno hz
   obtain⟨hb,h⟩:=H8 h
   simp only [A9] at hb
   obtain⟨⟨⟨hs,hko⟩,hkd⟩,_⟩:=hb
   have hs:=pI.KD hs
   subst hs
   obtain⟨d,hd,hik⟩:=TT (hh:=g.h) hko
   have hkey:=hik _ _ hkd hvi
   obtain⟨inf,zv,hinf,hzv,hZ⟩:=rR hz
   have hzr:=HF (w:=w) hinf hzv
   obtain⟨es,clock,k1,k2,kb⟩:=S.hp.ob _ _ hno
   have hlen:xs.length=es.size:=by rw [k2.length];simp
   unfold typed at h
   obtain⟨hty,h⟩:=H8 h
   simp only [A9] at hty
   have main:∀ f,Instr.findNow d (a.eval i) es.toList 0=some f→(∀ i' v,f=some (i',v)→∃ x,es[i']? = some x∧x.key=a.eval i)→
     F2 (Rv g.h (eX P k)) (VB kd (getM z kd xs) xs) (held es.toList clock (a.eval i) zv f)→VD g.h (getM z kd xs) (found zv f)→VN kd xs=GC es.size f→Goal u p q g st a w P o K r:=by
    intro f hf hfk hF hv hst
    obtain⟨es',clock',hrun,hes,hbn⟩:=VI (w:=w) (zC ht) hd hkey k1 hf hfk hzr kb
    refine Goal.res (v:= .tuple #[found zv f,.int .i64 (GC es.size f:Nat)]) (w':={ w with heap:=w.heap.setIfInBounds (g.blk no) (.map es' clock') }) (g':=g) h (by simp only [execOp,ho,hvx];simp [hrun]) (S.hp.Mm hpq hno (hes▸hF) hbn k1) (L8.refl p g) ⟨fun _ _ h=>h,rfl,rfl,rfl,by simp⟩ ?_ ?_ rfl rfl
    ·rw [hst]
     exact⟨_,rfl,.cons (pA hty.2 hv) (.cons rfl .nil)⟩
    ·intro v hv
     simp only [B7,List.not_mem_nil,or_false] at hv
     rcases hv with rfl|rfl<;>trivial
   rcases uE hko hik hkd hvi xs es.toList 0 k2 with ⟨j1,j2⟩|⟨j,x',e',j1,j2,j3,j4,j5,j6⟩
   ·refine main none j2 (fun _ _ h=>by cases h) ?_ ?_ ?_
    ·simp only [VB,getM,j1]
     exact F2.append k2 (.cons ⟨hvi,hZ _,hkd⟩ .nil)
    ·simp only [getM,j1];exact hZ _
    ·simp only [VN,j1,GC];exact hlen
   ·refine main _ j2 (fun i' v h=>?_) ?_ ?_ ?_
    ·simp only [B1,C7] at h
     obtain⟨h,_⟩:=h
     rw [← h,C5]
     exact⟨e',by simpa using j4,j5⟩
    ·simp only [VB,getM,j1,held,C5]
     refine F2.modify k2 fun b hb=>⟨hvi,?_,hkd⟩
     rw [j4] at hb
     cases hb
     simp only [j3,Option.getD_some]
     exact j6.2.1
    ·simp only [getM,j1,j3,Option.getD_some];exact j6.2.1
    ·simp only [VN,j1,GC,C5]
  ·cases h
 ·cases h
theorem PB (S:At u p g st a w)(hpq:∀ x,p x→q x){t:TypeId}{x s y:Operand}(ho:o.op = .entryStore t x s y)
  (h:yS P t (K2 st x) (K2 st s) (K2 st y) st K=some r):Goal u p q g st a w P o K r:=by
 have hvx:=S.ev x
 have hvs:=S.ev s
 have hvy:=S.ev y
 have huy:=S.Z7 y
 unfold yS at h
 split at h
 ·rename_i k e no ik n ht hx hs
  rw [hs] at hvs
  rw [hx] at hvx
  have hvs:a.eval s = .int ik n:=hvs
  have hvx:a.eval x = .map (some (g.blk no)):=hvx
  split at h
  ·rename_i kt xs dd fz hno hdd
   obtain⟨hb,h⟩:=H8 h
   simp only [A9,decide_eq_true_eq] at hb
   obtain⟨g1,f1,f2,f3,f4⟩:=S.hp.freeze fz
   have hno1:V4 st.h fz no=some (.mp kt xs):=by
    rcases qU fz st.h no with k|k
    ·rw [k,hno]
    ·rw [k,hno];rfl
   obtain⟨es,clock,k1,k2,kb⟩:=f4.ob _ _ hno1
   have hvd:=zO hvy huy hdd (fun o ho=>ho) f1 f4
   have hbo:g1.blk no=g.blk no:=by rw [f2]
   have hlen:xs.length=es.size:=by rw [k2.length];simp
   have hj:n.toNat<es.size:=by omega
   have hn:(n.toNat:Int)=n:=Int.toNat_of_nonneg hb.1
   have hrun:=NT (P:=P) (t:=t) k1 kb hj ik (a.eval y)
   rw [hn] at hrun
   refine Goal.skip (w':={ w with heap:=w.heap.setIfInBounds (g1.blk no) (.map (es.modify n.toNat fun e=>{ e with val:=a.eval y }) clock) }) (g':=g1) h (by simp only [execOp,ho,hvx,hvs];rw [← hbo];simp [hrun]) (f4.Mm hpq hno1 ?_ (wG.modify kb _ fun _=>rfl) k1) f1 ⟨f1.h,rfl,rfl,rfl,by simp⟩ rfl rfl
   rw [Array.toList_modify]
   refine F2.modify k2 fun b hb'=>?_
   have hx2:n.toNat<xs.length:=by omega
   obtain⟨b',hb2,hE⟩:=F2.get k2 n.toNat _ (C2 hx2)
   rw [hb2] at hb'
   cases hb'
   rw [C2 hx2,Option.getD_some]
   exact⟨hE.1,hvd,hE.2.2⟩
  ·cases h
 ·cases h
theorem Lu (S:At u p g st a w)(hpq:∀ x,p x→q x){nid:Nat}(hfr:iY p q nid){t:TypeId}{x:Operand}(ho:o.op = .range t x)
  (h:HC P t (K2 st x) nid st K=some r):Goal u p q g st a w P o K r:=by
 have hvx:=S.ev x
 have hux:=S.Z7 x
 unfold HC at h
 split at h
 ·rename_i k e no ht hx
  rw [hx] at hvx hux
  have hvx:a.eval x = .map (some (g.blk no)):=hvx
  split at h
  ·rename_i kt xs hno
   obtain⟨es,clock,k1,k2,kb⟩:=S.hp.ob _ _ hno
   have hlen:xs.length=es.size:=by rw [k2.length];simp
   have hnp:=hfr.zero.1
   have hqo:=hfr.zero.2
   have hno':=(S.hp.use _ _ hno).1
   have hne:no≠nid:=fun e=>hnp (e▸hno')
   have ha:L8 p g ⟨g.h,fun x=>if x=nid then w.heap.size else g.blk x,g.hdr⟩:=⟨fun _ _ h=>h,fun x hx=>by
    have:x≠nid:=fun e=>hnp (e▸hx)
    simp [this],fun _ _=>rfl⟩
   refine Goal.res h (v:= .pointer (some ⟨w.heap.size,0,none⟩)) (w':=w.alloc (.mapIter (some (g.blk no)) clock #[] clock)) (by simp only [execOp,ho,hvx];simp [Hw (zC ht) k1]) ?_ ha (nO ha) ?_ hqo rfl rfl
   ·refine S.hp.update ha rfl none (fun k hk _=>heap_alloc_old w _ hk) (fun b hb=>by cases hb) hpq nid ?_ ?_
    ·intro o' x hx hne
     rw [Q8,if_neg hne] at hx
     exact⟨hx,fun b _ e=>by cases e⟩
    ·intro x hx
     rw [Q8,if_pos rfl] at hx
     simp only [B1] at hx
     subst hx
     refine⟨⟨xs.length,[],⟨.top,[],rfl,fun _=>Iff.rfl,fun k hk=>(by cases hk),fun _ _ h=>(by cases h)⟩,?_⟩,?_,hqo,hpq _ hno'⟩
     ·simp only [if_true,if_neg hne]
      rw [heap_alloc_new,hlen,kb.1]
     ·intro b hb
      simp only [jY,if_true,B1] at hb
      exact .inr (by omega)
   ·show Value.pointer _ = .pointer (some ⟨if nid=nid then w.heap.size else g.blk nid,0,none⟩)
    rw [if_pos rfl]
  ·cases h
 ·cases h
theorem Lr (S:At u p g st a w)(hpq:∀ x,p x→q x){x:Operand}(ho:o.op = .entry x)
  (h:FT P (K2 st x) st K=some r):Goal u p q g st a w P o K r:=by
 have hvx:=S.ev x
 unfold FT at h
 split at h
 ·rename_i no hx
  rw [hx] at hvx
  have hvx:a.eval x = .pointer (some ⟨g.blk no,0,none⟩):=hvx
  split at h
  ·rename_i t mo xs0 hno
   split at h
   ·rename_i k e kt xs ht hmo
    split at h
    ·rename_i ik jj hlast
     have hb:=eq_of_beq (H8 h).1
     replace h:=(H8 h).2
     obtain⟨n,ns,⟨last,ks,rfl,i1,i2,i3⟩,k1⟩:=S.hp.ob _ _ hno
     obtain⟨es,clock,m1,m2,kb⟩:=S.hp.ob _ _ hmo
     have hlen:xs.length=es.size:=by rw [m2.length];simp
     have hn:n=es.size:=by
      simp only [Y,D.i] at hb
      omega
     have hc:clock=n:=by rw [kb.1,hn]
     subst hc
     obtain⟨j,rfl,j1⟩:=i3 _ _ hlast
     have hj:=i2 j ((i1 j).1 (List.mem_of_getLast? j1))
     simp only [E1] at h
     obtain⟨e',he,hE⟩:=F2.get m2 j _ (C2 (show j<xs.length by omega))
     have he:es[j]? = some e':=by simpa using he
     rw [C2 (show j<xs.length by omega),Option.getD_some] at h
     unfold typed at h
     have t1:=(H8 h).1
     replace h:=(H8 h).2
     replace h:=(show (bif I5 (zW P e)&&K0 (zW P e) (xs[j].at_ 1) then K (.tup [.d (H7 (.leaf (eX P k)) (xs[j].at_ 0)),.d (H7 (zW P e) (xs[j].at_ 1))]) st else none)=some r from h)
     have t2:=(H8 h).1
     replace h:=(H8 h).2
     simp only [A9] at t1 t2
     refine Goal.val S hpq h (v:= .tuple #[e'.key,e'.val]) (by simp only [execOp,ho,hvx];simp [Hv k1 m1 kb j1 he]) ⟨_,rfl,.cons (pA t1.2 hE.1) (.cons (pA t2.2 hE.2.1) .nil)⟩ (fun v hv=>?_)
     simp only [B7,List.not_mem_nil,or_false] at hv
     rcases hv with rfl|rfl<;>trivial
    ·cases h
   ·cases h
  ·cases h
 ·cases h
end
end Go.AE
namespace Go.AE
open Go.RowKit
section
variable {u:Nat→Option Obj} {p q:Nat→Prop} {g:G} {st:St} {h h':Nat→Option Ob} {a:Act} {w w':World} {P:Program} {o:Oper} {R:Type} {K:V→St→Option R} {r:R}
theorem YP {e sz n m:Nat}{v:Value}{us:List Value}(hown:w.ownsRow 0 e sz v n us)(hm:m≤n)(hok:CD P e=true){t:TypeId}(ht:P.underlying t=some (.slice e)){hi:Option Operand}{hh:Int}(S:At u p g st a w)(hhi:lJ n (hi.map (K2 st))=some hh)(hhm:hh.toNat=m)(h0:0≤hh) :
  ∃ v',(Instr.sliceAt t v ((none:Option Operand).map a.eval) (hi.map a.eval) none).run P w = .ok v' w∧w.ownsRow 0 e sz v' m (us.take (m*sz))∧∀ b,v'.ownBlock=some b→some b=v.ownBlock:=by
 have hl:lJ 0 ((none:Option Operand).map (K2 st))=some 0:=rfl
 have h3:hh≤(n:Int):=by omega
 have hlen:(us.take (m*sz)).length=m*sz:=by
  rw [D7,hown.1]
  exact Nat.min_eq_left (Nat.mul_le_mul_right _ hm)
 rcases S4 hown with ⟨k1,k2,k3⟩|⟨b,cap,cur,k1,k2,k3,k4,k5,k6,k7⟩
 ·subst k1;subst k2
  have hbd:=qF (P:=P) (b:=true) S hl hhi (Int.le_refl _) h0 h3 (B9 _)
  have hm0:m=0:=by omega
  refine⟨_,mV (A:=none) ht hok hbd,⟨hlen,.inl ⟨?_,hm0⟩⟩,fun b hb=>?_⟩
  ·simp [hhm,hm0]
  ·simp [Value.ownBlock] at hb
 ·subst k1
  have hbd:=qF (P:=P) (b:=true) S hl hhi (Int.le_refl _) h0 h3 k3
  have hA:(if cap=Int.toNat 0 then some (⟨b,0,none⟩:Addr) else (some (⟨b,0,none⟩:Addr)).map (·.add (Int.toNat 0*L6 P e)))=some ⟨b,0,none⟩:=by
   split
   ·rfl
   ·simp [K9]
  have hrun:=mV (A:=some ⟨b,0,none⟩) ht hok hbd
  rw [hA] at hrun
  simp only [Int.toNat_zero,Nat.sub_zero,hhm] at hrun
  refine⟨_,hrun,⟨hlen,.inr ⟨b,cap,cur,rfl,C4 _,k2,by omega,k4,k5,?_⟩⟩,fun b' hb'=>?_⟩
  ·rw [← k6,List.take_take,Nat.min_eq_left (Nat.mul_le_mul_right _ hm)]
  ·simp only [Value.ownBlock,B1] at hb'
   simp [Value.ownBlock,hb']
theorem Lx (S:At u p g st a w)(hpq:∀ x,p x→q x){nid:Nat}(hfr:iY p q nid){x:Operand}{hi:Option Operand}{t:TypeId}(ho:o.op = .slice t x none hi none)
  (h:HK P t (K2 st x) (hi.map (K2 st)) nid st K=some r):Goal u p q g st a w P o K r:=by
 have hv:=S.ev x
 have run:∀ v,(Instr.sliceAt t (a.eval x) ((none:Option Operand).map a.eval) (hi.map a.eval) none).run P w = .ok v w→(execOp a.eval o).run P w = .ok (.value v) w:=by
  intro v e
  simp only [execOp,ho]
  simp only [Option.map_none] at e ⊢
  simp [e]
 unfold HK at h
 split at h
 ·rename_i e ro k hh he hx hhi
  have ht:=lH he
  rw [hx] at hv
  have hv:a.eval x=g.hdr ro:=hv.1
  split at h
  ·rename_i e' sz xs hrow
   obtain⟨hc,h⟩:=H8 h
   simp only [A9,decide_eq_true_eq] at hc
   obtain⟨⟨⟨⟨c1,c2⟩,c3⟩,h1⟩,h2⟩:=hc
   have hee:e=e':=B0 c2
   subst hee
   obtain⟨us,hpos,hown,hf⟩:=S.hp.ob _ _ hrow
   have hpro:p ro:=(S.hp.use _ _ hrow).1
   have hne0:ro≠nid:=fun e=>hfr.zero.1 (e▸hpro)
   have hmn:hh.toNat≤xs.length:=by omega
   have hlt:(xs.take hh.toNat).length=hh.toNat:=by rw [D7];omega
   obtain⟨v',k1,k2,k5⟩:=YP (m:=hh.toNat) hown hmn c1 ht S (by rw [hhi];rfl) rfl h1
   obtain⟨g',m1,m2,m3,m4,m5⟩:=gB (e:=e) (sz:=sz) (xs:=xs.take hh.toNat) (v:=v') (us:=us.take (hh.toNat*sz)) (h':=(newRow (st.dG ro none) nid e sz (xs.take hh.toNat)).h) S.hp hpq hfr.zero.1 hfr.zero.2 (World.grownBy.refl w (g.hdr ro).ownBlock) (by rw [hlt];exact k2) hpos (qK hh.toNat hf)
    (fun b hb=>S.hp.sep ro _ b hrow hb) (fun b hb=> .inl (k5 b hb)) (fun o' x hx hne=>by
     rw [newRow,Q8,if_neg hne,Q8] at hx
     split at hx
     ·cases hx
     ·rename_i hne2
      exact⟨hx,fun b hb e=>hne2 (S.hp.inj o' ro _ _ b hx hrow hb e.symm)⟩) (by rw [newRow,Q8];simp)
   refine Goal.res h (run v' (by rw [hv];exact k1)) m5 m1 (yV (World.grownBy.refl w (g.hdr ro).ownBlock) m1) ⟨m4.symm,?_⟩ hfr.zero.2 rfl rfl
   rcases S4 k2 with ⟨rfl,_⟩|⟨_,_,_,rfl,_⟩<;>rfl
  ·cases h
 ·cases h
theorem Lq (S:At u p g st a w)(hpq:∀ x,p x→q x){x:Operand}{t:TypeId}{c:Call}(hop:o.op = .call c)(hcal:c.callee = .builtin .clear)(hargs:c.args=#[x])(hts:c.argTypes=#[t])
  (h:FO P t (K2 st x) st K=some r):Goal u p q g st a w P o K r:=by
 have hv:=S.ev x
 have exec:∀ v w',(Builtin.clear_ #[t] o.type #[a.eval x]).run P w = .ok v w'→(execOp a.eval o).run P w = .ok (.value v) w':=by
  intro v w' e
  simp only [execOp,hop,resolve,hcal,hargs,hts]
  simp [invoke,builtin,e]
 unfold FO at h
 split at h
 ·rename_i e ro z lo n he hx
  have ht:=lH he
  rw [hx] at hv
  obtain⟨hln,A,cap,hA,hn,hcm,hr⟩:=hv
  split at h
  ·rename_i e' sz xs d hrow hz
   obtain⟨hc,h⟩:=H8 h
   simp only [A9] at hc
   obtain⟨⟨⟨⟨c1,c2⟩,c3⟩,c4⟩,c5⟩:=hc
   have hs:sz=L6 P e:=B0 c3
   have hzs:z=sz:=B0 c4
   subst hzs
   have hle:lo+n≤xs.length:=B3 c5
   obtain⟨i,z',hi',hzv,hV⟩:=rR hz
   obtain⟨i2,z2,hi,hb1,hb2,hb3,hb4⟩:=tY c1
   rw [hi] at hi'
   cases hi'
   rw [hb3] at hzv
   cases hzv
   have hsi:L6 P e=i.size:=by simp [L6,hi]
   rw [hsi] at hs
   obtain⟨d1,d2⟩:=EI c2 (hV g.h)
   by_cases hn0:n=0
   ·subst hn0
    have hxy:xs.take lo++List.replicate 0 d++xs.drop (lo+0)=xs:=by simp
    rw [hxy] at h
    have hst:st.dG ro (some (.row e' z xs false))=st:=by
     have:(st.dG ro (some (.row e' z xs false))).h=st.h:=by
      funext y
      rw [Q8]
      split
      ·rename_i k;subst k;exact hrow.symm
      ·rfl
     show (⟨st.t,(st.dG ro (some (.row e' z xs false))).h,st.m⟩:St)=st
     rw [this]
    rw [hst] at h
    refine Goal.val S hpq h (exec (.tuple #[]) w ?_) trivial trivial
    rw [hA]
    cases A<;>simp [Builtin.clear_,run_underlying ht]
   ·rcases hr with hr|⟨b,hb,hA2⟩
    ·exact absurd hr hn0
    ·obtain⟨cap2,cur,q1,q2,q3,q4,q5,q6,q7⟩:=EU S.hp hrow hb
     have hzc:(Builtin.zeroCells z'.cells n).toList=(List.replicate n z'.cells.toList).flatten:=by
      have:=rC z'.cells (by rw [hb4];exact hb2) n
      exact this
     have hzl:((List.replicate n z'.cells.toList).flatten).length=n*z:=by simp [hb4,hs]
     have hf1:mY g.h z (List.replicate n d) (List.replicate n z'.cells.toList).flatten:=by
      rw [hs];exact oB hb4 d1 (hV g.h) n
     have hmul:(lo+n)*z≤cap2*z:=Nat.mul_le_mul_right _ (by omega)
     have hmul2:(lo+n)*z≤xs.length*z:=Nat.mul_le_mul_right _ hle
     have hadd:(lo+n)*z=lo*z+n*z:=Nat.add_mul _ _ _
     have hfit:lo*z+0+((List.replicate n z'.cells.toList).flatten).length≤cur.size:=by rw [hzl];omega
     have hst:=run_storeCells_at P b (lo*z) e' (List.replicate n z'.cells.toList).flatten 0 cur w q3 hfit (fun v hv=>CQ hf1 v hv)
     rw [Nat.add_zero,hzl] at hst
     have hrun:(Builtin.clear_ #[t] o.type #[a.eval x]).run P w = .ok (.tuple #[]) (w.setRow b (cur.toList.take (lo*z)++(List.replicate n z'.cells.toList).flatten++cur.toList.drop (lo*z+n*z)).toArray):=by
      rw [hA,hA2]
      obtain⟨m,rfl⟩:∃ m,n=m+1:=⟨n-1,by omega⟩
      simp [Builtin.clear_,run_underlying ht,HF hi hb3,hzc,hst]
     have hl:((List.replicate n d)).length=n:=by simp
     have hcl:cur.toList.length=cur.size:=E2
     have hf':mY g.h z (xs.take lo++List.replicate n d++xs.drop (lo+n)) ((cur.toList.take (lo*z)++(List.replicate n z'.cells.toList).flatten++cur.toList.drop (lo*z+n*z)).take (xs.length*z)):=by
      have t1:(cur.toList.take (lo*z)).length=lo*z:=by rw [D7];omega
      have e1:(cur.toList.take (lo*z)++(List.replicate n z'.cells.toList).flatten++cur.toList.drop (lo*z+n*z)).take (xs.length*z)=(cur.toList.take (xs.length*z)).take (lo*z)++(List.replicate n z'.cells.toList).flatten++(cur.toList.take (xs.length*z)).drop ((lo+n)*z):=by
       rw [List.take_append,List.take_append,List.take_of_length_le (l:=cur.toList.take (lo*z)) (by omega),List.take_of_length_le (l:=(List.replicate n z'.cells.toList).flatten) (by omega)]
       rw [List.take_take,Nat.min_eq_left (by omega),hadd,List.drop_take]
       congr 2
       simp only [A7,t1,hzl]
      rw [e1]
      exact qJ (qJ (qK lo q7) hf1) (tC (lo+n) q7)
     have hsim:=BZ (h':=(st.dG ro (some (.row e' z (xs.take lo++List.replicate n d++xs.drop (lo+n)) false))).h) (c':=(cur.toList.take (lo*z)++(List.replicate n z'.cells.toList).flatten++cur.toList.drop (lo*z+n*z)).toArray) S.hp hrow hb q3
      (by simp only [List.size_toArray,A7,D7,F6,hzl,hcl];omega)
      (by simp;omega) (by simpa using hf') (fun x=>Q8 _ _ _ _)
     refine Goal.res h (v:= .tuple #[]) (exec _ _ hrun) (hsim.more hpq) (L8.refl p g) (nP (L8.refl p g) _ _) trivial trivial rfl rfl
  ·cases h
 ·cases h
end
end Go.AE
namespace Go.AE
open Go.RowKit
theorem pT:∀ {ren:List (Nat×Nat)} {l o:Nat},O4 ren l=some o→Km ren o=true
 |[],_,_,h=>by cases h
 |(a,b)::r,l,o,h=>by
  simp only [O4] at h
  simp only [Km,Bool.or_eq_true]
  cases e:Nat.beq l a with
  |true=>rw [e] at h;simp only [cond_true,B1] at h;subst h;exact .inl (Nat.beq_refl b)
  |false=>rw [e] at h;exact .inr (pT h)
def rT (ren:List (Nat×Nat)):Prop:=∀ l l' o,O4 ren l=some o→O4 ren l'=some o→l=l'
theorem rB {ren:List (Nat×Nat)}{l o x:Nat}:O4 ((l,o)::ren) x=if x=l then some o else O4 ren x:=by
 simp only [O4]
 by_cases e:x=l
 ·rw [if_pos e,beq_iff.2 e];rfl
 ·rw [if_neg e]
  cases k:Nat.beq x l with
  |true=>exact absurd (beq_iff.1 k) e
  |false=>rfl
theorem CT {ren ren':List (Nat×Nat)}{l o:Nat}(h:Ad ren l o=some ren'):O4 ren' l=some o∧(∀ l' o',O4 ren l'=some o'→O4 ren' l'=some o')∧(rT ren→rT ren'):=by
 unfold Ad at h
 split at h
 ·rename_i o' e
  obtain⟨hb,h⟩:=H8 h
  cases h
  have:o=o':=beq_iff.1 hb
  subst this
  exact⟨e,fun _ _ h=>h,id⟩
 ·rename_i e
  obtain⟨hb,h⟩:=K1 h
  cases h
  refine⟨by rw [rB,if_pos rfl],fun l' o' hl'=>?_,fun h1=>?_⟩
  ·rw [rB,if_neg]
   ·exact hl'
   ·intro e';rw [e',e] at hl';cases hl'
  ·intro a b x ha hb'
   rw [rB] at ha hb'
   split at ha<;>split at hb'
   ·rename_i k1 k2;rw [k1,k2]
   ·rename_i k1 k2
    cases ha
    have:=pT hb'
    rw [hb] at this;cases this
   ·rename_i k1 k2
    cases hb'
    have:=pT ha
    rw [hb] at this;cases this
   ·exact h1 a b x ha hb'
theorem MS {n:Nat}:∀ {ren:List (Nat×Nat)},Dr n ren=true→∀ l o,O4 ren l=some o→l<n
 |[],_,_,_,h=>by cases h
 |(a,b)::r,h,l,o,hl=>by
  simp only [Dr,A9] at h
  rw [rB] at hl
  split at hl
  ·rename_i e;subst e
   have h1:Nat.ble (l+1) n=true:=h.1
   exact B3 h1
  ·exact MS h.2 l o hl
theorem PU {ren:List (Nat×Nat)}:∀ {os:List Nat},SJ ren os=true→∀ l o,O4 ren l=some o→o∉os
 |[],_,_,_,_=>by simp
 |o'::os,h,l,o,hl=>by
  simp only [SJ,A9,D8] at h
  intro hm
  rcases B7.1 hm with rfl|hm
  ·rw [pT hl] at h;simp at h
  ·exact PU h.2 l o hl hm
structure Le (c F:Cf):Prop where
 ds:∃ t,F.ds=c.ds++t
 fz:∀ o∈c.fz,o∈F.fz
 ren:∀ l o,O4 c.ren l=some o→O4 F.ren l=some o
theorem Le.refl (c:Cf):Le c c:=⟨⟨[],by simp⟩,fun _ h=>h,fun _ _ h=>h⟩
theorem Le.trans {a b c:Cf}(h:Le a b)(h':Le b c):Le a c:=by
 obtain⟨⟨t,ht⟩,h2,h3⟩:=h
 obtain⟨⟨t',ht'⟩,h2',h3'⟩:=h'
 exact⟨⟨t++t',by rw [ht',ht];simp⟩,fun o k=>h2' o (h2 o k),fun l o k=>h3' l o (h3 l o k)⟩
theorem NB:∀ (a:List D) (x:D) (t:List D),Y (a++x::t) a.length=x
 |[],_,_=>rfl
 |_::a,x,t=>by simpa [Y] using NB a x t
theorem Le.Y {c F:Cf}{x:D}(h:Le ⟨c.ds++[x],c.fz,c.ren⟩ F):AE.Y F.ds c.ds.length=x:=by
 obtain⟨t,ht⟩:=h.ds
 rw [ht]
 simp only [C1,List.singleton_append]
 exact NB _ _ _
def E0:Ty→D→D:=fun _ x=>x
def tA (g gF:G)(ren:List (Nat×Nat)):G:=⟨gF.h,fun l=>g.blk ((O4 ren l).getD 0),fun l=>g.hdr ((O4 ren l).getD 0)⟩
section
variable {u:Nat→Option Obj} {p q:Nat→Prop} {g gF:G} {h:Nat→Option Ob} {w:World} {F:Cf}
theorem Ld {cs:List V}{t o f:Nat}:gN cs≠ .bp t o f:=by
 unfold gN
 split<;>exact fun h=>by cases h
theorem Ph {E:Ty→D→D}{ds:List D}{s:SV}{j t o f:Nat}(h:(gI E ds s j).1 = .bp t o f):s = .bp t o f:=by
 match s,h with
 | .bp ..,h=>cases h;rfl
 | .agg ss,h=>exact absurd h Ld
 | .fn _ [],h=>cases h
 | .fn _ (_::_),h=>cases h
 | .d _,h=>cases h
 | .ptr ..,h=>cases h
 | .row ..,h=>cases h
 | .mp ..,h=>cases h
 | .x,h=>cases h
theorem xJ {E:Ty→D→D}{ds:List D}{t o f:Nat}:∀ {ss:List SV} {j:Nat},V.bp t o f∈(U6 E ds ss j).1→SV.bp t o f∈ss
 |[],j,h=>by cases h
 |s::ss,j,h=>by
  simp only [U6] at h
  rcases B7.1 h with h|h
  ·rw [Ph h.symm];exact B8 ..
  ·exact C0 _ (xJ h)
theorem DO {E:Ty→D→D}{ds:List D}{t o f:Nat}:∀ {ss:List SV} {j:Nat},SV.bp t o f∈ss→V.bp t o f∈(U6 E ds ss j).1
 |[],j,h=>by cases h
 |s::ss,j,h=>by
  simp only [U6]
  rcases B7.1 h with h|h
  ·subst h;exact B8 ..
  ·exact C0 _ (DO h)
theorem DB {h:Nat→Option Ob}{t l f:Nat}:∀ {ss:List SV} {cs:List V} {c c':Cf},jW h c ss cs=some c'→SV.bp t l f∈ss→∃ o f',V.bp t o f'∈cs
 |[],[],c,c',_,hm=>by cases hm
 |[],_::_,c,c',hc,hm=>by cases hm
 |_::_,[],c,c',hc,hm=>by cases hc
 |s::ss,v::vs,c,c',hc,hm=>by
  simp only [jW] at hc
  split at hc
  ·rename_i c1 h1
   rcases B7.1 hm with hm|hm
   ·subst hm
    match v,h1 with
    | .bp t' o f',h1=>
     simp only [ID] at h1
     obtain⟨hb,_⟩:=H8 h1
     simp only [A9] at hb
     rw [beq_iff.1 hb.1]
     exact⟨o,f',B8 ..⟩
    | .d (.agg _),h1=>simp [ID,jN] at h1
    | .d .top,h1 | .d (.bool _),h1 | .d (.int _ _),h1 | .d (.str _),h1 | .d (.Z _ _),h1 | .d (.nils _ _),h1 | .d .und,h1 | .d (.fn _),h1 | .d .nilp,h1 | .d .nilf,h1 | .d .nilm,h1 | .d .nili,h1 | .d .ub,h1 | .d (.iface _ _),h1 | .d (.meth ..),h1=>simp [ID,jN] at h1
    | .ptr ..,h1 | .el ..,h1 | .rp ..,h1 | .row _,h1 | .sub ..,h1 | .agg _,h1 | .fn _ _,h1 | .tup _,h1 | .mp _,h1=>simp [ID,jN] at h1
   ·obtain⟨o,f',h⟩:=DB hc hm
    exact⟨o,f',C0 _ h⟩
  ·cases hc
structure CX (u:Nat→Option Obj) (p q:Nat→Prop) (g gF:G) (h:Nat→Option Ob) (w:World) (F:Cf):Prop where
 S:P3 u p gF (V4 h F.fz) w
 a:L8 p g gF
 q:∀ l o,O4 F.ren l=some o→q l
theorem IC (X:CX u p q g gF h w F){c c':Cf}{s:SV}{v:V}(hc:jN h c s v=some c')(hF:Le c' F) :
  Le c c'∧c'.ds.length=(aM E0 F.ds s c.ds.length).2∧(rT c.ren→rT c'.ren)∧∀ val,VV g v val→v.T0 p→VL (tA g gF F.ren) (aM E0 F.ds s c.ds.length).1 val∧(aM E0 F.ds s c.ds.length).1.lX q:=by
 unfold jN at hc
 split at hc
 ·split at hc
  ·rename_i x fz hd
   cases hc
   rename_i t _
   refine⟨⟨⟨[BS t x],rfl⟩,fun o h=>by simp [h],fun _ _ h=>h⟩,by simp [aM],id,fun val hv hu=>?_⟩
   have hn:Y F.ds c.ds.length=BS t x:=by
    obtain⟨t,ht⟩:=hF.ds
    rw [ht]
    simp only [C1,List.singleton_append]
    exact NB _ _ _
   simp only [aM,E0,hn]
   have hv':VD gF.h (BS t x) val:=GR (CE hv hu hd (fun o ho=>hF.fz o (by simp [ho])) X.a X.S)
   exact⟨hv',trivial⟩
  ·cases hc
 ·obtain⟨hb,hc⟩:=H8 hc
  simp only [A9] at hb
  split at hc
  ·rename_i l f o f' _ _ r hr
   cases hc
   obtain⟨k1,k2,k3⟩:=CT hr
   refine⟨⟨⟨[],by simp⟩,fun _ h=>h,k2⟩,rfl,k3,fun val hv _=>?_⟩
   have hl:=hF.ren _ _ k1
   have hff:f=f':=beq_iff.1 hb.1
   subst hff
   refine⟨?_,X.q _ _ hl⟩
   show val=_
   simp only [tA,hl,Option.getD_some]
   exact hv
  ·cases hc
 ·obtain⟨hb,hc⟩:=H8 hc
  split at hc
  ·rename_i l o _ _ r hr
   cases hc
   obtain⟨k1,k2,k3⟩:=CT hr
   refine⟨⟨⟨[],by simp⟩,fun _ h=>h,k2⟩,rfl,k3,fun val hv _=>?_⟩
   have hl:=hF.ren _ _ k1
   refine⟨?_,X.q _ _ hl⟩
   show val=_∧_
   simp only [tA,hl,Option.getD_some]
   exact hv
  ·cases hc
 ·cases hc
  exact⟨Le.refl c,rfl,id,fun val _ _=>⟨(trivial:VD _ .top _),trivial⟩⟩
 ·obtain⟨hb,hc⟩:=H8 hc
  split at hc
  ·rename_i l o _ _ r hr
   cases hc
   obtain⟨k1,k2,k3⟩:=CT hr
   refine⟨⟨⟨[],by simp⟩,fun _ h=>h,k2⟩,rfl,k3,fun val hv _=>?_⟩
   have hl:=hF.ren _ _ k1
   refine⟨?_,X.q _ _ hl⟩
   show val=_
   simp only [tA,hl,Option.getD_some]
   exact hv
  ·cases hc
 ·obtain⟨hb,hc⟩:=H8 hc
  cases hc
  refine⟨Le.refl c,rfl,id,fun val hv _=>⟨?_,trivial⟩⟩
  rw [beq_iff.1 hb];exact hv
 ·obtain⟨hb,hc⟩:=H8 hc
  cases hc
  refine⟨Le.refl c,rfl,id,fun val hv _=>⟨?_,trivial⟩⟩
  rw [beq_iff.1 hb];exact hv
 ·cases hc
theorem wX (X:CX u p q g gF h w F):∀ {ss:List SV} {vs:List V} {c c':Cf},iH h c ss vs=some c'→Le c' F→
  Le c c'∧c'.ds.length=(O0 E0 F.ds ss c.ds.length).2∧(rT c.ren→rT c'.ren)∧∀ vals,F2 (VV g) vs vals→(∀ v∈vs,v.T0 p)→F2 (VL (tA g gF F.ren)) (O0 E0 F.ds ss c.ds.length).1 vals∧∀ v∈(O0 E0 F.ds ss c.ds.length).1,v.lX q
 |[],[],c,c',hc,hF=>by
  simp only [iH,B1] at hc
  subst hc
  exact⟨Le.refl c,rfl,id,fun vals hv _=>by cases hv;exact⟨.nil,fun v hv=>by cases hv⟩⟩
 |s::ss,v::vs,c,c',hc,hF=>by
  simp only [iH] at hc
  split at hc
  ·rename_i c1 h1
   obtain⟨a1,a2,a3,a4⟩:=wX X hc hF
   obtain⟨b1,b2,b3,b4⟩:=IC X h1 (a1.trans hF)
   have e1:O0 E0 F.ds (s::ss) c.ds.length=((aM E0 F.ds s c.ds.length).1::(O0 E0 F.ds ss c1.ds.length).1,(O0 E0 F.ds ss c1.ds.length).2):=by
    simp only [O0];rw [b2]
   refine⟨b1.trans a1,by rw [e1];exact a2,fun k=>a3 (b3 k),fun vals hv hu=>?_⟩
   rw [e1]
   cases hv with
   |cons hv1 hv2=>
    obtain⟨x1,x2⟩:=b4 _ hv1 (hu v (by simp))
    obtain⟨y1,y2⟩:=a4 _ hv2 (fun v' hv'=>hu v' (by simp [hv']))
    exact⟨.cons x1 y1,fun v' hv'=>by rcases B7.1 hv' with rfl|hv';exact x2;exact y2 v' hv'⟩
  ·cases hc
 |[],_::_,_,_,hc,_=>by simp [iH] at hc
 |_::_,[],_,_,hc,_=>by simp [iH] at hc
theorem jP {E:Ty→D→D}{ds:List D}:∀ (ss:List SV) (j:Nat),(O0 E ds ss j).1.length=ss.length
 |[],_=>rfl
 |s::ss,j=>by simp only [O0,A0];rw [jP ss]
theorem WZ (X:CX u p q g gF h w F){c c':Cf}{s:SV}{v:V}(hc:ID h c s v=some c')(hF:Le c' F) :
  Le c c'∧c'.ds.length=(gI E0 F.ds s c.ds.length).2∧(rT c.ren→rT c'.ren)∧∀ val,VV g v val→v.T0 p→VA (tA g gF F.ren) (gI E0 F.ds s c.ds.length).1 val∧(gI E0 F.ds s c.ds.length).1.V7 q:=by
 have leaf:gI E0 F.ds s c.ds.length=aM E0 F.ds s c.ds.length→jN h c s v=some c'→Le c c'∧c'.ds.length=(gI E0 F.ds s c.ds.length).2∧(rT c.ren→rT c'.ren)∧
   ∀ val,VV g v val→v.T0 p→VA (tA g gF F.ren) (gI E0 F.ds s c.ds.length).1 val∧(gI E0 F.ds s c.ds.length).1.V7 q:=by
  intro e hc
  obtain⟨a1,a2,a3,a4⟩:=IC X hc hF
  rw [e]
  refine⟨a1,a2,a3,fun val hv hu=>?_⟩
  obtain⟨x1,x2⟩:=a4 val hv hu
  exact⟨jF x1,lZ x1 x2⟩
 have aggs:∀ ss cs,s = .agg ss→iH h c ss cs=some c'→(∀ val,VV g v val→v.T0 p→∃ us:Array Value,val = .agg us∧F2 (VV g) cs us.toList∧∀ x∈cs,x.T0 p)→
   Le c c'∧c'.ds.length=(gI E0 F.ds s c.ds.length).2∧(rT c.ren→rT c'.ren)∧∀ val,VV g v val→v.T0 p→VA (tA g gF F.ren) (gI E0 F.ds s c.ds.length).1 val∧(gI E0 F.ds s c.ds.length).1.V7 q:=by
  intro ss cs hs hcc hval
  subst hs
  obtain⟨a1,a2,a3,a4⟩:=wX X hcc hF
  have e:gI E0 F.ds (.agg ss) c.ds.length=(gN (O0 E0 F.ds ss c.ds.length).1,(O0 E0 F.ds ss c.ds.length).2):=rfl
  rw [e]
  refine⟨a1,a2,a3,fun val hv hu=>?_⟩
  obtain⟨us,rfl,hF2,huse⟩:=hval val hv hu
  obtain⟨x1,x2⟩:=a4 us.toList hF2 huse
  have:=tN (x1.mono fun _ _ _ h=>jF h)
  rw [Array.toArray_toList] at this
  refine⟨this,nV fun y hy=>?_⟩
  obtain⟨b,_,hb⟩:=x1.mem y hy
  exact lZ hb (x2 y hy)
 unfold ID at hc
 split at hc
 ·rename_i f caps f' caps'
  obtain⟨hb,hcc⟩:=H8 hc
  have hff:f=f':=beq_iff.1 hb
  subst hff
  clear hc
  obtain⟨a1,a2,a3,a4⟩:=wX X hcc hF
  cases caps with
  |nil=>
   have hnil:caps'=[]:=by cases caps' with|nil=>rfl|cons=>simp [iH] at hcc
   subst hnil
   refine⟨a1,a2,a3,fun val hv _=>⟨hv,trivial⟩⟩
  |cons s0 caps=>
   cases caps' with
   |nil=>simp [iH] at hcc
   |cons v0 caps'=>
    have e:gI E0 F.ds (.fn f (s0::caps)) c.ds.length=(.fn f (O0 E0 F.ds (s0::caps) c.ds.length).1,(O0 E0 F.ds (s0::caps) c.ds.length).2):=rfl
    rw [e]
    refine⟨a1,a2,a3,fun val hv hu=>?_⟩
    obtain⟨us,rfl,hF2⟩:=hv
    have hu':∀ x∈v0::caps',x.T0 p:=fun x hx=>by
     obtain⟨b,_,hb⟩:=hF2.mem x hx
     exact cM (lZ hb (hu x hx))
    obtain⟨x1,x2⟩:=a4 us.toList (hF2.mono fun _ _ _ h=>eF (jF h)) hu'
    have hlen:=jP (E:=E0) (ds:=F.ds) (s0::caps) c.ds.length
    refine⟨?_,x2⟩
    generalize (O0 E0 F.ds (s0::caps) c.ds.length).1=vs at *
    cases vs with
    |nil=>simp at hlen
    |cons y ys=>exact⟨us,rfl,x1⟩
 ·rename_i t l f t' o f'
  obtain⟨hb,hc⟩:=H8 hc
  simp only [A9] at hb
  split at hc
  ·rename_i r hr
   cases hc
   obtain⟨k1,k2,k3⟩:=CT hr
   refine⟨⟨⟨[],by simp⟩,fun _ h=>h,k2⟩,rfl,k3,fun val hv _=>?_⟩
   have hl:=hF.ren _ _ k1
   have hff:f=f':=beq_iff.1 hb.2
   subst hff
   refine⟨?_,X.q _ _ hl⟩
   show val=_∨val=_
   simp only [tA,hl,Option.getD_some]
   exact hv
  ·cases hc
 ·rename_i ss cs
  refine aggs ss cs rfl hc (fun val hv hu=>?_)
  obtain⟨us,h1,h2⟩:=Ac hv
  refine⟨us,h1,h2.mono fun _ _ _ h=>eF (jF h),fun x hx=>?_⟩
  obtain⟨b,_,hb⟩:=h2.mem x hx
  exact cM (lZ hb (hu x hx))
 ·rename_i ss cs
  refine aggs ss _ rfl hc (fun val hv hu=>?_)
  obtain⟨us,h1,h2⟩:=hv
  refine⟨us,h1,F2.ED (((jG _ _ _).1 h2).mono fun _ _ _ h=>h),fun x hx=>?_⟩
  obtain⟨d,_,rfl⟩:=List.mem_map.1 hx;trivial
 ·rename_i h1 h2 h3
  refine leaf ?_ hc
  unfold gI
  split
  ·rename_i f s0 caps
   exfalso
   simp only [jN] at hc
   cases hc
  ·rename_i ss
   simp only [jN] at hc
   cases hc
  ·simp only [jN] at hc
   cases hc
  ·rfl
theorem DC (X:CX u p q g gF h w F):∀ {ss:List SV} {vs:List V} {c c':Cf},jW h c ss vs=some c'→Le c' F→
  Le c c'∧c'.ds.length=(U6 E0 F.ds ss c.ds.length).2∧(rT c.ren→rT c'.ren)∧∀ vals,F2 (VA g) vs vals→(∀ v∈vs,v.V7 p)→F2 (VA (tA g gF F.ren)) (U6 E0 F.ds ss c.ds.length).1 vals∧∀ v∈(U6 E0 F.ds ss c.ds.length).1,v.V7 q
 |[],[],c,c',hc,hF=>by
  simp only [jW,B1] at hc
  subst hc
  exact⟨Le.refl c,rfl,id,fun vals hv _=>by cases hv;exact⟨.nil,fun v hv=>by cases hv⟩⟩
 |s::ss,v::vs,c,c',hc,hF=>by
  simp only [jW] at hc
  split at hc
  ·rename_i c1 h1
   obtain⟨a1,a2,a3,a4⟩:=DC X hc hF
   obtain⟨b1,b2,b3,b4⟩:=WZ X h1 (a1.trans hF)
   have e1:U6 E0 F.ds (s::ss) c.ds.length=((gI E0 F.ds s c.ds.length).1::(U6 E0 F.ds ss c1.ds.length).1,(U6 E0 F.ds ss c1.ds.length).2):=by
    simp only [U6];rw [b2]
   refine⟨b1.trans a1,by rw [e1];exact a2,fun k=>a3 (b3 k),fun vals hv hu=>?_⟩
   rw [e1]
   cases hv with
   |cons hv1 hv2=>
    obtain⟨x1,x2⟩:=b4 _ (eF hv1) (cM (hu v (by simp)))
    obtain⟨y1,y2⟩:=a4 _ hv2 (fun v' hv'=>hu v' (by simp [hv']))
    exact⟨.cons x1 y1,fun v' hv'=>by rcases B7.1 hv' with rfl|hv';exact x2;exact y2 v' hv'⟩
  ·cases hc
 |[],_::_,_,_,hc,_=>by simp [jW] at hc
 |_::_,[],_,_,hc,_=>by simp [jW] at hc
theorem DD {st:St}(X:CX u p q g gF st.h w F){tm:Nat→Value}(ht:∀ t,VV g (st.t t) (tm t))(hu:∀ t,(st.t t).T0 p):∀ {sl:List (Nat×SV)} {c c':Cf},tJ st c sl=some c'→Le c' F→
  Le c c'∧c'.ds.length=(V9 E0 F.ds sl c.ds.length).2∧(rT c.ren→rT c'.ren)∧∀ t,VV (tA g gF F.ren) ((V9 E0 F.ds sl c.ds.length).1 t) (tm t)∧((V9 E0 F.ds sl c.ds.length).1 t).T0 q
 |[],c,c',hc,hF=>by
  simp only [tJ,B1] at hc
  subst hc
  exact⟨Le.refl c,rfl,id,fun t=>⟨(trivial:VD _ .top _),trivial⟩⟩
 |(t0,s)::sl,c,c',hc,hF=>by
  simp only [tJ] at hc
  split at hc
  ·rename_i c1 h1
   obtain⟨a1,a2,a3,a4⟩:=DD X ht hu hc hF
   obtain⟨b1,b2,b3,b4⟩:=WZ X h1 (a1.trans hF)
   obtain⟨x1,x2⟩:=b4 _ (ht t0) (hu t0)
   refine⟨b1.trans a1,?_,fun k=>a3 (b3 k),fun t=>?_⟩
   ·simp only [V9];rw [← b2];exact a2
   ·simp only [V9]
    rw [← b2]
    by_cases e:t=t0
    ·subst e
     rw [beq_iff.2 rfl]
     exact⟨eF x1,cM x2⟩
    ·have:Nat.beq t t0=false:=by
      cases k:Nat.beq t t0 with
      |true=>exact absurd (beq_iff.1 k) e
      |false=>rfl
     rw [this]
     exact a4 t
  ·cases hc
def Iz (g g0:G)(p q:Nat→Prop)(h:Nat→Option Ob)(w:World)(ren:List (Nat×Nat))(l:Nat)(x0:Ob):Prop:=
 OB g0 l x0 w∧x0.T0 q∧∃ o x,O4 ren l=some o∧h o=some x∧(∀ b,jY g0 l x0=some b→jY g o x=some b)
theorem nM (X:CX u p q g gF h w F)(S:P3 u p g h w):∀ {obs:List CO} {l:Nat} {c c':Cf},kZ h c l obs=some c'→Le c' F→(c'.fz=c.fz∨True)→
  Le c c'∧(rT c.ren→rT c'.ren)∧∀ l0 x0,P8 E0 F.ds obs l c.ds.length l0=some x0→Iz g (tA g gF F.ren) p q h w F.ren l0 x0
 |[],l,c,c',hc,hF,_=>by
  simp only [kZ,B1] at hc
  subst hc
  exact⟨Le.refl c,id,fun l0 x0 h0=>by simp [P8] at h0⟩
 | .gone::r,l,c,c',hc,hF,hz=>nM X S (obs:=r) (l:=l+1) hc hF hz
 | .var ss::r,l,c,c',hc,hF,_=>by
  simp only [kZ] at hc
  split at hc
  ·rename_i o hl
   split at hc
   ·rename_i cs ho
    split at hc
    ·rename_i c1 h1
     obtain⟨a1,a3,a4⟩:=nM X S hc hF (.inr trivial)
     obtain⟨b1,b2,b3,b4⟩:=DC X h1 (a1.trans hF)
     refine⟨b1.trans a1,fun k=>a3 (b3 k),fun l0 x0 h0=>?_⟩
     have e1:P8 E0 F.ds (.var ss::r) l c.ds.length l0=bif Nat.beq l0 l then some (.var (U6 E0 F.ds ss c.ds.length).1) else P8 E0 F.ds r (l+1) c1.ds.length l0:=by
      simp only [P8];rw [← b2]
     rw [e1] at h0
     cases e:Nat.beq l0 l with
     |false=>rw [e] at h0;exact a4 l0 x0 h0
     |true=>
      rw [e] at h0
      have e:l0=l:=beq_iff.1 e
      subst e
      simp only [cond_true,B1] at h0
      subst h0
      have hlF:=((b1.trans a1).trans hF).ren _ _ hl
      obtain⟨cc,ee,k1,k2,k3⟩:=S.ob _ _ ho
      obtain⟨x1,x2⟩:=b4 _ k2 (S.use _ _ ho).2
      have hblk:(tA g gF F.ren).blk l0=g.blk o:=by simp [tA,hlF]
      refine⟨⟨cc,ee,by rw [hblk];exact k1,x1,k3.1,fun t o' f hm=>by obtain⟨o'',f',hm'⟩:=DB h1 (xJ hm);exact k3.2 _ _ _ hm'⟩,x2,o,_,hlF,ho,fun b hb=>?_⟩
      simp only [jY,hblk] at hb
      exact hb
    ·cases hc
   ·cases hc
  ·cases hc
 | .row e sz m::r,l,c,c',hc,hF,_=>by
  simp only [kZ] at hc
  split at hc
  ·rename_i o hl
   split at hc
   ·rename_i e' sz' xs ho
    obtain⟨hb,hc⟩:=H8 hc
    simp only [A9] at hb
    have he:e=e':=beq_iff.1 hb.1
    have hsz:sz=sz':=beq_iff.1 hb.2
    obtain⟨a1,a3,a4⟩:=nM X S hc hF (.inr trivial)
    have b1:Le c ⟨c.ds++[.Z sz xs],c.fz,c.ren⟩:=⟨⟨_,rfl⟩,fun _ h=>h,fun _ _ h=>h⟩
    refine⟨b1.trans a1,a3,fun l0 x0 h0=>?_⟩
    have hn:Y F.ds c.ds.length = .Z sz xs:=Le.Y (a1.trans hF)
    have e1:P8 E0 F.ds (.row e sz m::r) l c.ds.length l0=bif Nat.beq l0 l then some (.row e sz xs false) else P8 E0 F.ds r (l+1) (c.ds.length+1) l0:=by
     simp only [P8,hn,D.l]
    rw [e1] at h0
    cases e2:Nat.beq l0 l with
    |false=>rw [e2] at h0;exact a4 l0 x0 (by simpa using h0)
    |true=>
     rw [e2] at h0
     have e2:l0=l:=beq_iff.1 e2
     subst e2
     simp only [cond_true,B1] at h0
     subst h0
     have hlF:=((b1.trans a1).trans hF).ren _ _ hl
     obtain⟨us,k1,k2,k3⟩:=S.ob _ _ ho
     have hhdr:(tA g gF F.ren).hdr l0=g.hdr o:=by simp [tA,hlF]
     refine⟨⟨us,by rw [hsz];exact k1,?_,?_⟩,trivial,o,_,hlF,ho,fun b hb'=>?_⟩
     ·rw [hhdr,he,hsz];exact k2
     ·rw [hsz];exact KH X.a.h _ _ _ k3
     ·simp only [jY,hhdr] at hb'
      exact hb'
   ·cases hc
  ·cases hc
 | .mp kt::r,l,c,c',hc,hF,_=>by
  simp only [kZ] at hc
  split at hc
  ·rename_i o hl
   split at hc
   ·rename_i kt' xs ho
    obtain⟨hb,hc⟩:=H8 hc
    have hk:kt=kt':=pI.KD hb
    obtain⟨a1,a3,a4⟩:=nM X S hc hF (.inr trivial)
    have b1:Le c ⟨c.ds++[.Z 2 xs],c.fz,c.ren⟩:=⟨⟨_,rfl⟩,fun _ h=>h,fun _ _ h=>h⟩
    refine⟨b1.trans a1,a3,fun l0 x0 h0=>?_⟩
    have hn:Y F.ds c.ds.length = .Z 2 xs:=Le.Y (a1.trans hF)
    have e1:P8 E0 F.ds (.mp kt::r) l c.ds.length l0=bif Nat.beq l0 l then some (.mp kt xs) else P8 E0 F.ds r (l+1) (c.ds.length+1) l0:=by
     simp only [P8,hn,D.l]
    rw [e1] at h0
    cases e2:Nat.beq l0 l with
    |false=>rw [e2] at h0;exact a4 l0 x0 (by simpa using h0)
    |true=>
     rw [e2] at h0
     have e2:l0=l:=beq_iff.1 e2
     subst e2
     simp only [cond_true,B1] at h0
     subst h0
     have hlF:=((b1.trans a1).trans hF).ren _ _ hl
     obtain⟨es,clock,k1,k2,kb⟩:=S.ob _ _ ho
     have hblk:(tA g gF F.ren).blk l0=g.blk o:=by simp [tA,hlF]
     refine⟨⟨es,clock,by rw [hblk];exact k1,?_,kb⟩,trivial,o,_,hlF,ho,fun b hb'=>?_⟩
     ·rw [hk];exact k2.mono fun _ _ _ k=>⟨jU X.a.h _ _ k.1,jU X.a.h _ _ k.2.1,k.2.2⟩
     ·simp only [jY,hblk] at hb'
      exact hb'
   ·cases hc
  ·cases hc
 | .it t l'::r,l,c,c',hc,hF,_=>by
  simp only [kZ] at hc
  split at hc
  ·rename_i o hl
   split at hc
   ·rename_i t' mo xs ho
    have hk:t=t':=beq_iff.1 (H8 hc).1
    replace hc:=(H8 hc).2
    subst hk
    split at hc
    ·rename_i ren hr
     obtain⟨r1,r2,r3⟩:=CT hr
     obtain⟨a1,a3,a4⟩:=nM X S hc hF (.inr trivial)
     have b1:Le c ⟨c.ds++[.Z 0 xs],c.fz,ren⟩:=⟨⟨_,rfl⟩,fun _ h=>h,r2⟩
     refine⟨b1.trans a1,fun k=>a3 (r3 k),fun l0 x0 h0=>?_⟩
     have hn:Y F.ds c.ds.length = .Z 0 xs:=Le.Y (c:=⟨c.ds,c.fz,ren⟩) (a1.trans hF)
     have e1:P8 E0 F.ds (.it t l'::r) l c.ds.length l0=bif Nat.beq l0 l then some (.it t l' xs) else P8 E0 F.ds r (l+1) (c.ds.length+1) l0:=by
      simp only [P8,hn,D.l]
     rw [e1] at h0
     cases e2:Nat.beq l0 l with
     |false=>rw [e2] at h0;exact a4 l0 x0 (by simpa using h0)
     |true=>
      rw [e2] at h0
      have e2:l0=l:=beq_iff.1 e2
      subst e2
      simp only [cond_true,B1] at h0
      subst h0
      have hlF:=((b1.trans a1).trans hF).ren _ _ hl
      have hmF:=(a1.trans hF).ren _ _ r1
      obtain⟨n,ns,k0,k1⟩:=S.ob _ _ ho
      have hblk:(tA g gF F.ren).blk l0=g.blk o:=by simp [tA,hlF]
      have hblm:(tA g gF F.ren).blk l'=g.blk mo:=by simp [tA,hmF]
      refine⟨⟨n,ns,k0,by rw [hblk,hblm];exact k1⟩,X.q _ _ hmF,o,_,hlF,ho,fun b hb'=>?_⟩
      simp only [jY,hblk] at hb'
      exact hb'
    ·cases hc
   ·cases hc
  ·cases hc
theorem Gm (E:Ty→D→D)(sk:Sk)(ds:List D):(M4 E sk ds).h=P8 E ds sk.objs 0 (V9 E ds sk.slots 0).2:=rfl
structure Cy (u:Nat→Option Obj) (p:Nat→Prop) (g gF:G) (st:St) (tm:Nat→Value) (w:World) (sk:Sk) (pre:List (Nat×Nat)) (cf:Cf):Prop where
 a:L8 p g gF
 blk:gF.blk=g.blk
 hdr:gF.hdr=g.hdr
 S:P3 u p gF (V4 st.h cf.fz) w
 tm:∀ t,VV (tA g gF cf.ren) ((M4 E0 sk cf.ds).t t) (tm t)
 nm:∀ t,((M4 E0 sk cf.ds).t t).T0 (·<sk.objs.length)
 ob:∀ l x0,(M4 E0 sk cf.ds).h l=some x0→Iz g (tA g gF cf.ren) p (·<sk.objs.length) st.h w cf.ren l x0
 one:rT cf.ren
 pre:∀ l o,O4 pre l=some o→O4 cf.ren l=some o
 lt:∀ l o,O4 cf.ren l=some o→o∉cf.fz∧l<sk.objs.length
theorem BE {sk:Sk}{pre:List (Nat×Nat)}{st:St}{tm:Nat→Value}{cf:Cf}(hc:SS sk pre st=some cf)(S:P3 u p g st.h w)(ht:∀ t,VV g (st.t t) (tm t))(hu:∀ t,(st.t t).T0 p)(hpre:rT pre) :
  ∃ gF,Cy u p g gF st tm w sk pre cf:=by
 unfold SS at hc
 split at hc
 ·rename_i c1 h1
  split at hc
  ·rename_i c2 h2
   obtain⟨hb,hc⟩:=H8 hc
   cases hc
   simp only [A9] at hb
   obtain⟨gF,f1,f2,f3,f4⟩:=S.freeze cf.fz
   have X:CX u p (·<sk.objs.length) g gF st.h w cf:=⟨f4,f1,fun l o h=>MS hb.2 l o h⟩
   obtain⟨a1,a2,a3⟩:=nM X S h2 (Le.refl cf) (.inr trivial)
   obtain⟨b1,b2,b3,b4⟩:=DD X ht hu h1 a1
   have e:(V9 E0 cf.ds sk.slots 0).2=c1.ds.length:=b2.symm
   refine⟨gF,f1,f2,f3,f4,fun t=>(b4 t).1,fun t=>(b4 t).2,fun l x0 h0=>?_,a2 (b3 hpre),fun l o h=>a1.ren l o (b1.ren l o h),fun l o h=>⟨PU hb.1 l o h,MS hb.2 l o h⟩⟩
   rw [Gm,e] at h0
   exact a3 l x0 h0
  ·cases hc
 ·cases hc
theorem Cy.Tq {sk:Sk}{pre:List (Nat×Nat)}{st:St}{tm:Nat→Value}{cf:Cf}(M:Cy u p g gF st tm w sk pre cf)(S0:P3 u p g st.h w) :
  P3 u (·<sk.objs.length) (tA g gF cf.ren) (M4 E0 sk cf.ds).h w:=by
 have blkn:∀ l x0 b,(M4 E0 sk cf.ds).h l=some x0→jY (tA g gF cf.ren) l x0=some b→∃ o x,O4 cf.ren l=some o∧V4 st.h cf.fz o=some x∧jY gF o x=some b:=by
  intro l x0 b h0 hb
  obtain⟨_,_,o,x,h1,h2,h3⟩:=M.ob l x0 h0
  refine⟨o,x,h1,by rw [oU _ _ _ (M.lt l o h1).1];exact h2,?_⟩
  rw [fN M.a (S0.use _ _ h2).1]
  exact h3 b hb
 refine⟨M.S.frz,M.S.unt,fun l x0 h0=>(M.ob l x0 h0).1,fun l x0 b h0 hb=>?_,fun l l' x0 x0' b h0 h0' hb hb'=>?_,fun l x0 h0=>?_,M.S.dj⟩
 ·obtain⟨o,x,_,h2,h3⟩:=blkn l x0 b h0 hb
  exact M.S.sep o x b h2 h3
 ·obtain⟨o,x,h1,h2,h3⟩:=blkn l x0 b h0 hb
  obtain⟨o',x',h1',h2',h3'⟩:=blkn l' x0' b h0' hb'
  have:=M.S.inj o o' x x' b h2 h2' h3 h3'
  subst this
  exact M.one l l' o h1 h1'
 ·obtain⟨_,h1,o,x,h2,_⟩:=M.ob l x0 h0
  exact⟨(M.lt l o h2).2,h1⟩
def Pos (ds:List D)(j:Nat)(rest:List D):Prop:=∃ pre,pre.length=j∧ds=pre++rest
def LV (g:G)(q:Nat→Prop)(x:V)(v:Value):Prop:=VL g x v∧x.lX q
def AV (g:G)(q:Nat→Prop)(x:V)(v:Value):Prop:=VA g x v∧x.V7 q
theorem XH {ds:List D}{s:SV}{v:Value}{j:Nat}{rest:List D}(hp:Pos ds j rest)(hc:(kX s rest).1=true)(h:LV g q (aM E0 ds s j).1 v) :
  LV g q (aM H7 ds s j).1 v∧Pos ds (aM E0 ds s j).2 (kX s rest).2∧(aM H7 ds s j).2=(aM E0 ds s j).2:=by
 match s,hc,h with
 | .d t,hc,h=>
  obtain⟨pre,hp1,hp2⟩:=hp
  cases rest with
  |nil=>simp [kX] at hc
  |cons x rest=>
   have hn:Y ds j=x:=by rw [hp2,← hp1];exact NB _ _ _
   simp only [aM,hn,E0] at h ⊢
   exact⟨⟨pA hc h.1,trivial⟩,⟨pre++[x],by simp [hp1],by rw [hp2];simp [kX]⟩,trivial⟩
 | .ptr ..,_,h=>exact⟨h,hp,rfl⟩
 | .row ..,_,h=>exact⟨h,hp,rfl⟩
 | .mp ..,_,h=>exact⟨h,hp,rfl⟩
 | .bp ..,_,h=>exact⟨h,hp,rfl⟩
 | .fn ..,_,h=>exact⟨h,hp,rfl⟩
 | .agg ..,_,h=>exact⟨h,hp,rfl⟩
 | .x,_,h=>exact⟨h,hp,rfl⟩
theorem LQ {ds:List D}:∀ {ss:List SV} {vs:List Value} {j:Nat} {rest:List D},Pos ds j rest→(kY ss rest).1=true→F2 (LV g q) (O0 E0 ds ss j).1 vs→
  F2 (LV g q) (O0 H7 ds ss j).1 vs∧Pos ds (O0 E0 ds ss j).2 (kY ss rest).2∧(O0 H7 ds ss j).2=(O0 E0 ds ss j).2
 |[],vs,j,rest,hp,_,h=>⟨h,hp,rfl⟩
 |s::ss,vs,j,rest,hp,hc,h=>by
  simp only [kY,A9] at hc
  simp only [O0] at h ⊢
  cases h with
  |cons h1 h2=>
   obtain⟨a1,a2,a3⟩:=XH hp hc.1 h1
   rw [a3]
   obtain⟨b1,b2,b3⟩:=LQ a2 hc.2 h2
   exact⟨.cons a1 b1,b2,b3⟩
def Iv (x:V):Prop:=mO x=x
theorem OV {E:Ty→D→D}{ds:List D}(s:SV)(j:Nat):Iv (aM E ds s j).1:=by cases s<;>rfl
theorem AN {E:Ty→D→D}{ds:List D}:∀ (ss:List SV) (j:Nat),∀ x∈(O0 E ds ss j).1,Iv x
 |[],_,x,h=>by cases h
 |s::ss,j,x,h=>by
  simp only [O0] at h
  rcases B7.1 h with rfl|h
  ·exact OV s j
  ·exact AN ss _ x h
theorem CU:∀ {cs:List V} {xs:List D},SI cs=some xs→cs=xs.map V.d
 |[],xs,h=>by simp only [SI,B1] at h;subst h;rfl
 |c::cs,xs,h=>by
  simp only [SI] at h
  split at h
  ·rename_i x xs' e
   simp only [B1] at h
   subst h
   rw [CU e];rfl
  ·cases h
theorem F2.both {α β:Type}{R:α→β→Prop}{S:α→Prop}{zs:List α}{bs:List β}(h:F2 R zs bs)(hs:∀ a∈zs,S a):F2 (fun a b=>R a b∧S a) zs bs:=by
 induction h with
 |nil=>exact .nil
 |cons h1 _ ih=>exact .cons ⟨h1,hs _ (by simp)⟩ (ih fun a ha=>hs a (by simp [ha]))
theorem Gx {cs:List V}{v:Value}(hl:∀ c∈cs,Iv c)(h:AV g q (gN cs) v):∃ us:Array Value,v = .agg us∧F2 (LV g q) cs us.toList:=by
 obtain⟨h1,h2⟩:=h
 unfold gN at h1 h2
 split at h1
 ·rename_i xs e
  obtain⟨us,rfl,h3⟩:=h1
  refine⟨us,rfl,?_⟩
  rw [CU e]
  exact F2.ED (((jG _ _ _).1 h3).mono fun _ _ _ h=>⟨h,trivial⟩)
 ·rename_i e
  rw [e] at h2
  have e2:cs.map mO=cs:=by
   conv=>rhs;rw [← List.map_id cs]
   exact List.map_congr_left fun c hc=>hl c hc
  simp only [e2] at h1 h2
  obtain⟨us,rfl,h3⟩:=h1
  exact⟨us,rfl,F2.both h3 h2⟩
theorem YB {cs:List V}{us:Array Value}(h:F2 (LV g q) cs us.toList):AV g q (gN cs) (.agg us):=by
 have:=tN (h.mono fun _ _ _ h=>jF h.1)
 rw [Array.toArray_toList] at this
 refine⟨this,nV fun y hy=>?_⟩
 obtain⟨b,_,hb⟩:=h.mem y hy
 exact lZ hb.1 hb.2
theorem Ri {ds:List D}{s:SV}{v:Value}{j:Nat}{rest:List D}(hp:Pos ds j rest)(hc:(OS s rest).1=true)(h:AV g q (gI E0 ds s j).1 v) :
  AV g q (gI H7 ds s j).1 v∧Pos ds (gI E0 ds s j).2 (OS s rest).2∧(gI H7 ds s j).2=(gI E0 ds s j).2:=by
 have leaf:∀ s,(∀ E,gI E ds s j=aM E ds s j)→OS s rest=kX s rest→(OS s rest).1=true→AV g q (gI E0 ds s j).1 v→
   AV g q (gI H7 ds s j).1 v∧Pos ds (gI E0 ds s j).2 (OS s rest).2∧(gI H7 ds s j).2=(gI E0 ds s j).2:=by
  intro s e1 e2 hc h
  rw [e1,e1,e2] at *
  have hl:LV g q (aM E0 ds s j).1 v:=by
   match s,h with
   | .d _,h=>exact h
   | .ptr ..,h=>exact h
   | .row ..,h=>exact h
   | .mp ..,h=>exact h
   | .bp ..,h=>exact h
   | .fn ..,h=>exact h
   | .agg ..,h=>exact h
   | .x,h=>exact h
  obtain⟨a1,a2,a3⟩:=XH hp hc hl
  exact⟨⟨jF a1.1,lZ a1.1 a1.2⟩,a2,a3⟩
 match s,hc,h with
 | .fn f [],hc,h=>
  refine leaf (.fn f []) (fun E=>rfl) ?_ hc h
  simp [OS,kX,kY]
 | .fn f (c::caps),hc,h=>
  have hc:(kY (c::caps) rest).1=true:=hc
  have e:∀ E,gI E ds (.fn f (c::caps)) j=(.fn f (O0 E ds (c::caps) j).1,(O0 E ds (c::caps) j).2):=fun E=>rfl
  rw [e,e] at *
  have hlen:=jP (E:=E0) (ds:=ds) (c::caps) j
  have hlen':=jP (E:=H7) (ds:=ds) (c::caps) j
  obtain⟨h1,h2⟩:=h
  have hF:∃ us:Array Value,v = .func (.func f) #[] us∧F2 (LV g q) (O0 E0 ds (c::caps) j).1 us.toList:=by
   simp only [] at h1 h2
   generalize (O0 E0 ds (c::caps) j).1=xs at *
   cases xs with
   |nil=>simp at hlen
   |cons x xs=>
    obtain⟨us,rfl,h3⟩:=h1
    exact⟨us,rfl,F2.both h3 h2⟩
  obtain⟨us,rfl,h3⟩:=hF
  obtain⟨a1,a2,a3⟩:=LQ hp hc h3
  refine⟨?_,a2,a3⟩
  simp only [] at *
  generalize (O0 H7 ds (c::caps) j).1=ys at *
  cases ys with
  |nil=>simp at hlen'
  |cons y ys=>
   refine⟨⟨us,rfl,a1.mono fun _ _ _ h=>h.1⟩,fun z hz=>?_⟩
   obtain⟨b,_,hb⟩:=a1.mem z hz
   exact hb.2
 | .agg ss,hc,h=>
  have hc:(kY ss rest).1=true:=hc
  have e:∀ E,gI E ds (.agg ss) j=(gN (O0 E ds ss j).1,(O0 E ds ss j).2):=fun E=>rfl
  rw [e,e] at *
  obtain⟨us,rfl,h3⟩:=Gx (AN ss j) h
  obtain⟨a1,a2,a3⟩:=LQ hp hc h3
  exact⟨YB a1,a2,a3⟩
 | .d t,hc,h=>exact leaf (.d t) (fun E=>rfl) rfl hc h
 | .ptr ..,hc,h=>exact leaf (.ptr ..) (fun E=>rfl) rfl hc h
 | .row ..,hc,h=>exact leaf (.row ..) (fun E=>rfl) rfl hc h
 | .mp ..,hc,h=>exact leaf (.mp ..) (fun E=>rfl) rfl hc h
 | .bp ..,_,h=>exact⟨h,hp,rfl⟩
 | .x,hc,h=>exact leaf .x (fun E=>rfl) rfl hc h
theorem QO {ds:List D}:∀ {ss:List SV} {vs:List Value} {j:Nat} {rest:List D},Pos ds j rest→(qQ ss rest).1=true→F2 (AV g q) (U6 E0 ds ss j).1 vs→
  F2 (AV g q) (U6 H7 ds ss j).1 vs
 |[],vs,j,rest,hp,_,h=>h
 |s::ss,vs,j,rest,hp,hc,h=>by
  simp only [qQ,A9] at hc
  simp only [U6] at h ⊢
  cases h with
  |cons h1 h2=>
   obtain⟨a1,a2,a3⟩:=Ri hp hc.1 h1
   rw [a3]
   exact .cons a1 (QO a2 hc.2 h2)
theorem YR {E:Ty→D→D}{ds:List D}{s:SV}{j:Nat}{rest:List D}(hp:Pos ds j rest)(hc:(kX s rest).1=true):Pos ds (aM E ds s j).2 (kX s rest).2∧(aM E ds s j).2=(aM E0 ds s j).2:=by
 match s,hc with
 | .d t,hc=>
  obtain⟨pre,hp1,hp2⟩:=hp
  cases rest with
  |nil=>simp [kX] at hc
  |cons x rest=>exact⟨⟨pre++[x],by simp [hp1,aM],by rw [hp2];simp [kX]⟩,rfl⟩
 | .ptr ..,_=>exact⟨hp,rfl⟩
 | .row ..,_=>exact⟨hp,rfl⟩
 | .mp ..,_=>exact⟨hp,rfl⟩
 | .bp ..,_=>exact⟨hp,rfl⟩
 | .fn ..,_=>exact⟨hp,rfl⟩
 | .agg ..,_=>exact⟨hp,rfl⟩
 | .x,_=>exact⟨hp,rfl⟩
theorem NL {E:Ty→D→D}{ds:List D}:∀ {ss:List SV} {j:Nat} {rest:List D},Pos ds j rest→(kY ss rest).1=true→Pos ds (O0 E ds ss j).2 (kY ss rest).2∧(O0 E ds ss j).2=(O0 E0 ds ss j).2
 |[],j,rest,hp,_=>⟨hp,rfl⟩
 |s::ss,j,rest,hp,hc=>by
  simp only [kY,A9] at hc
  simp only [O0]
  obtain⟨a1,a2⟩:=YR (E:=E) hp hc.1
  obtain⟨b1,b2⟩:=NL (E:=E) a1 hc.2
  exact⟨b1,by rw [b2,a2]⟩
theorem Md {E:Ty→D→D}{ds:List D}{s:SV}{j:Nat}{rest:List D}(hp:Pos ds j rest)(hc:(OS s rest).1=true):Pos ds (gI E ds s j).2 (OS s rest).2∧(gI E ds s j).2=(gI E0 ds s j).2:=by
 match s,hc with
 | .fn f [],hc=>exact⟨hp,rfl⟩
 | .fn f (c::caps),hc=>exact NL (ss:=c::caps) hp hc
 | .agg ss,hc=>exact NL (ss:=ss) hp hc
 | .d t,hc=>exact YR (s:= .d t) hp hc
 | .ptr ..,hc=>exact⟨hp,rfl⟩
 | .row ..,hc=>exact⟨hp,rfl⟩
 | .mp ..,hc=>exact⟨hp,rfl⟩
 | .bp ..,hc=>exact⟨hp,rfl⟩
 | .x,hc=>exact⟨hp,rfl⟩
theorem HB {E:Ty→D→D}{ds:List D}:∀ {ss:List SV} {j:Nat} {rest:List D},Pos ds j rest→(qQ ss rest).1=true→Pos ds (U6 E ds ss j).2 (qQ ss rest).2∧(U6 E ds ss j).2=(U6 E0 ds ss j).2
 |[],j,rest,hp,_=>⟨hp,rfl⟩
 |s::ss,j,rest,hp,hc=>by
  simp only [qQ,A9] at hc
  simp only [U6]
  obtain⟨a1,a2⟩:=Md (E:=E) hp hc.1
  obtain⟨b1,b2⟩:=HB (E:=E) a1 hc.2
  exact⟨b1,by rw [b2,a2]⟩
theorem Lc {cs:List V}{v:Value}(h:VV g (gN cs) v)(hu:(gN cs).T0 q):AV g q (gN cs) v:=by
 unfold gN at *
 split
 ·rename_i xs e;rw [e] at h;exact⟨h,trivial⟩
 ·rename_i e;rw [e] at h hu;exact⟨h,hu⟩
theorem Pg {E:Ty→D→D}{ds:List D}{s:SV}{j:Nat}{v:Value}(h:VV g (gI E ds s j).1 v)(hu:(gI E ds s j).1.T0 q):AV g q (gI E ds s j).1 v:=by
 match s,h,hu with
 | .fn f [],h,_=>exact⟨h,trivial⟩
 | .fn f (c::caps),h,hu=>
  simp only [gI,O0] at h hu ⊢
  exact⟨h,hu⟩
 | .agg ss,h,hu=>exact Lc h hu
 | .d t,h,_=>exact⟨h,trivial⟩
 | .ptr ..,h,hu=>exact⟨h,hu⟩
 | .row ..,h,hu=>exact⟨h,hu⟩
 | .mp ..,h,hu=>exact⟨h,hu⟩
 | .bp ..,h,hu=>exact⟨h,hu⟩
 | .x,h,_=>exact⟨h,trivial⟩
theorem QP {ds:List D}{tm:Nat→Value}:∀ {sl:List (Nat×SV)} {j:Nat} {rest:List D},Pos ds j rest→(tI sl rest).1=true→
  Pos ds (V9 E0 ds sl j).2 (tI sl rest).2∧(V9 H7 ds sl j).2=(V9 E0 ds sl j).2∧
  (∀ t,VV g ((V9 E0 ds sl j).1 t) (tm t)∧((V9 E0 ds sl j).1 t).T0 q→VV g ((V9 H7 ds sl j).1 t) (tm t)∧((V9 H7 ds sl j).1 t).T0 q)
 |[],j,rest,hp,_=>⟨hp,rfl,fun _=>id⟩
 |(t0,s)::sl,j,rest,hp,hc=>by
  simp only [tI,A9] at hc
  obtain⟨a1,_⟩:=Md (E:=E0) hp hc.1
  obtain⟨_,a2⟩:=Md (E:=H7) hp hc.1
  obtain⟨b1,b2,b3⟩:=QP (tm:=tm) a1 hc.2
  simp only [V9,tI]
  rw [a2]
  refine⟨b1,b2,fun t ht=>?_⟩
  by_cases e:t=t0
  ·subst e
   rw [beq_iff.2 rfl] at ht ⊢
   have h1:=Pg ht.1 ht.2
   obtain⟨c1,_,_⟩:=Ri hp hc.1 h1
   exact⟨eF c1.1,cM c1.2⟩
  ·have:Nat.beq t t0=false:=by
    cases k:Nat.beq t t0 with
    |true=>exact absurd (beq_iff.1 k) e
    |false=>rfl
   rw [this] at ht ⊢
   exact b3 t ht
theorem yU {ds:List D}{w:World}:∀ {obs:List CO} {l j:Nat} {rest:List D},Pos ds j rest→mI obs rest=true→∀ l0 x,P8 H7 ds obs l j l0=some x→
  ∃ x0,P8 E0 ds obs l j l0=some x0∧(OB g l0 x0 w→x0.T0 q→OB g l0 x w∧x.T0 q)∧(∀ b,jY g l0 x=some b→jY g l0 x0=some b)
 |[],l,j,rest,hp,hc,l0,x,h=>by simp [P8] at h
 | .gone::r,l,j,rest,hp,hc,l0,x,h=>yU (obs:=r) (l:=l+1) hp hc l0 x h
 | .var ss::r,l,j,rest,hp,hc,l0,x,h=>by
  simp only [mI,A9] at hc
  obtain⟨a1,_⟩:=HB (E:=E0) hp hc.1
  obtain⟨_,a2⟩:=HB (E:=H7) hp hc.1
  simp only [P8] at h ⊢
  rw [a2] at h
  cases e:Nat.beq l0 l with
  |false=>rw [e] at h;simpa using yU a1 hc.2 l0 x (by simpa using h)
  |true=>
   rw [e] at h
   simp only [cond_true,B1] at h
   subst h
   refine⟨_,rfl,fun ho hu=>?_,fun b hb=>hb⟩
   obtain⟨c,ee,k1,k2,k3⟩:=ho
   have h1:F2 (AV g q) (U6 E0 ds ss j).1 c.toList:=F2.both k2 hu
   have h2:=QO hp hc.1 h1
   refine⟨⟨c,ee,k1,h2.mono fun _ _ _ h=>h.1,k3.1,fun t o' f hm=>k3.2 _ _ _ (DO (xJ hm))⟩,fun y hy=>?_⟩
   obtain⟨b,_,hb⟩:=h2.mem y hy
   exact hb.2
 | .row e sz m::r,l,j,[],hp,hc,l0,x,h=>by simp [mI] at hc
 | .row e sz m::r,l,j,y::rest,hp,hc,l0,x,h=>by
  simp only [mI,A9] at hc
  obtain⟨pre,hp1,hp2⟩:=hp
  have a1:Pos ds (j+1) rest:=⟨pre++[y],by simp [hp1],by rw [hp2];simp⟩
  simp only [P8] at h ⊢
  cases e2:Nat.beq l0 l with
  |false=>rw [e2] at h;simpa using yU a1 hc.2 l0 x (by simpa using h)
  |true=>
   rw [e2] at h
   simp only [cond_true,B1] at h
   subst h
   exact⟨_,rfl,fun ho hu=>⟨ho,hu⟩,fun b hb=>hb⟩
 | .it t l'::r,l,j,[],hp,hc,l0,x,h=>by simp [mI] at hc
 | .it t l'::r,l,j,y::rest,hp,hc,l0,x,h=>by
  simp only [mI,A9] at hc
  obtain⟨pre,hp1,hp2⟩:=hp
  have a1:Pos ds (j+1) rest:=⟨pre++[y],by simp [hp1],by rw [hp2];simp⟩
  simp only [P8] at h ⊢
  cases e2:Nat.beq l0 l with
  |false=>rw [e2] at h;simpa using yU a1 hc.2 l0 x (by simpa using h)
  |true=>
   rw [e2] at h
   simp only [cond_true,B1] at h
   subst h
   exact⟨_,rfl,fun ho hu=>⟨ho,hu⟩,fun b hb=>hb⟩
 | .mp kt::r,l,j,[],hp,hc,l0,x,h=>by simp [mI] at hc
 | .mp kt::r,l,j,y::rest,hp,hc,l0,x,h=>by
  simp only [mI,A9] at hc
  obtain⟨pre,hp1,hp2⟩:=hp
  have a1:Pos ds (j+1) rest:=⟨pre++[y],by simp [hp1],by rw [hp2];simp⟩
  simp only [P8] at h ⊢
  cases e2:Nat.beq l0 l with
  |false=>rw [e2] at h;simpa using yU a1 hc.2 l0 x (by simpa using h)
  |true=>
   rw [e2] at h
   simp only [cond_true,B1] at h
   subst h
   exact⟨_,rfl,fun ho hu=>⟨ho,hu⟩,fun b hb=>hb⟩
theorem Dl {u:Nat→Option Obj}{sk:Sk}{ds:List D}{tm:Nat→Value}{w:World}(hc:I7 sk ds=true)(S:P3 u q g (M4 E0 sk ds).h w)(ht:∀ t,VV g ((M4 E0 sk ds).t t) (tm t)∧((M4 E0 sk ds).t t).T0 q) :
  P3 u q g (cI sk ds).h w∧∀ t,VV g ((cI sk ds).t t) (tm t)∧((cI sk ds).t t).T0 q:=by
 unfold I7 at hc
 simp only [A9] at hc
 obtain⟨a1,a2,a3⟩:=QP (g:=g) (q:=q) (tm:=tm) (ds:=ds) (j:=0) (rest:=ds) ⟨[],rfl,rfl⟩ hc.1
 refine⟨?_,fun t=>a3 t (ht t)⟩
 have hob:∀ l x,(cI sk ds).h l=some x→∃ x0,(M4 E0 sk ds).h l=some x0∧(OB g l x0 w→x0.T0 q→OB g l x w∧x.T0 q)∧(∀ b,jY g l x=some b→jY g l x0=some b):=by
  intro l x h
  have h:P8 H7 ds sk.objs 0 (V9 H7 ds sk.slots 0).2 l=some x:=h
  rw [a2] at h
  exact yU a1 hc.2 l x h
 refine⟨S.frz,S.unt,fun o x h=>?_,fun o x b h hb=>?_,fun o o' x x' b h h' hb hb'=>?_,fun o x h=>?_,S.dj⟩
 ·obtain⟨x0,h0,h1,_⟩:=hob o x h
  exact (h1 (S.ob _ _ h0) (S.use _ _ h0).2).1
 ·obtain⟨x0,h0,_,h2⟩:=hob o x h
  exact S.sep o x0 b h0 (h2 b hb)
 ·obtain⟨x0,h0,_,h2⟩:=hob o x h
  obtain⟨x0',h0',_,h2'⟩:=hob o' x' h'
  exact S.inj o o' x0 x0' b h0 h0' (h2 b hb) (h2' b hb')
 ·obtain⟨x0,h0,h1,_⟩:=hob o x h
  exact⟨(S.use _ _ h0).1,(h1 (S.ob _ _ h0) (S.use _ _ h0).2).2⟩
end
end Go.AE
namespace Go.AE
open Go.RowKit
open Classical in
noncomputable def vT (g0:G) (h0:Nat→Option Ob) (w:World):Nat→Option Obj:=fun b=>
 if ∃ l x0,h0 l=some x0∧jY g0 l x0=some b then none else if g0.h b=none then w.heap[b]? else none
section
variable {u:Nat→Option Obj} {p q q1 q2:Nat→Prop} {gH g0 g1 g2:G} {hold h0 h1 h2:Nat→Option Ob} {w w1:World} {R:Nat→Nat→Prop} {f:Nat→Nat}
theorem NR {b:Nat}{y:Obj}(h:vT g0 h0 w b=some y):(¬ ∃ l x0,h0 l=some x0∧jY g0 l x0=some b)∧g0.h b=none∧w.heap[b]? = some y:=by
 unfold vT at h
 split at h
 ·cases h
 ·rename_i k
  split at h
  ·rename_i k';exact⟨k,k',h⟩
  ·cases h
theorem ET {b:Nat}{y:Obj}(h1:¬ ∃ l x0,h0 l=some x0∧jY g0 l x0=some b)(h2:g0.h b=none)(h3:w.heap[b]? = some y):vT g0 h0 w b=some y:=by
 unfold vT
 rw [if_neg h1,if_pos h2];exact h3
structure Pass (u:Nat→Option Obj) (p q:Nat→Prop) (gH g0:G) (hold h0:Nat→Option Ob) (w:World) (R:Nat→Nat→Prop):Prop where
 S:P3 u p gH hold w
 S0:P3 u q g0 h0 w
 sub:∀ b x,gH.h b=some x→g0.h b=some x
 ob:∀ l x0,h0 l=some x0→∃ o x,R l o∧hold o=some x∧∀ b,jY g0 l x0=some b→jY gH o x=some b
theorem Pass.Tq (X:Pass u p q gH g0 hold h0 w R):P3 (vT g0 h0 w) q g0 h0 w:=by
 refine⟨X.S0.frz,fun b x h=>(NR h).2.2,X.S0.ob,fun o x b h hb=>⟨(X.S0.sep o x b h hb).1,?_⟩,X.S0.inj,X.S0.use,fun b=>?_⟩
 ·unfold vT;rw [if_pos ⟨o,x,h,hb⟩]
 ·cases e:vT g0 h0 w b with
  |none=>exact .inr rfl
  |some y=>exact .inl (NR e).2.1
theorem Pass.back (X:Pass u p q gH g0 hold h0 w R)(S1:P3 (vT g0 h0 w) q1 g1 h1 w1)(hext:∀ b x,g0.h b=some x→g1.h b=some x)(ha:L8 p gH g2)(hsub:∀ b x,g2.h b=some x→g1.h b=some x)
  (hpq:∀ x,p x→q2 x)
  (hobs:∀ x ob,h2 x=some ob→
   (hold x=some ob∧(∀ l x0,h0 l=some x0→¬ R l x)∧(∀ b,jY gH x ob=some b→g0.h b=none∨g2.h b=none))∨
   (∃ l ob1,h1 l=some ob1∧x=f l∧OB g2 x ob w1∧(∀ b,jY g2 x ob=some b→jY g1 l ob1=some b)∧q2 x∧ob.T0 q2)):P3 u q2 g2 h2 w1:=by
 have notPassed:∀ x ob b,hold x=some ob→(∀ l x0,h0 l=some x0→¬ R l x)→jY gH x ob=some b→¬ ∃ l x0,h0 l=some x0∧jY g0 l x0=some b:=by
  rintro x ob b h1 h2 hb ⟨l,x0,h3,h4⟩
  obtain⟨o,x',k1,k2,k3⟩:=X.ob l x0 h3
  have:=X.S.inj x o ob x' b h1 k2 hb (k3 b h4)
  subst this
  exact h2 l x0 h3 k1
 have key:∀ x ob b,hold x=some ob→(∀ l x0,h0 l=some x0→¬ R l x)→(∀ b,jY gH x ob=some b→g0.h b=none∨g2.h b=none)→jY gH x ob=some b→
   w1.heap[b]? = w.heap[b]?∧g2.h b=none∧u b=none∧∀ l ob1,h1 l=some ob1→jY g1 l ob1≠some b:=by
  intro x ob b h1 h2 h3 hb
  have hlt:=UL (X.S.ob _ _ h1) hb
  obtain⟨y,hy⟩:∃ y,w.heap[b]? = some y:=⟨_,C8 hlt⟩
  have hnp:=notPassed x ob b h1 h2 hb
  refine⟨?_,?_,(X.S.sep x ob b h1 hb).2,?_⟩
  ·cases e:g0.h b with
   |none=>rw [S1.unt b y (ET hnp e hy),hy]
   |some y'=>rw [S1.frz b y' (hext b y' e),X.S0.frz b y' e]
  ·cases e:g0.h b with
   |none=>
    have h4:=ET hnp e hy
    cases e2:g2.h b with
    |none=>rfl
    |some y2=>
     have:=hsub b y2 e2
     rcases S1.dj b with k|k
     ·rw [this] at k;cases k
     ·rw [h4] at k;cases k
   |some y'=>
    rcases h3 b hb with k|k
    ·rw [e] at k;cases k
    ·exact k
  ·intro l ob1 h5 h6
   obtain⟨k1,k2⟩:=S1.sep l ob1 b h5 h6
   cases e:g0.h b with
   |none=>rw [ET hnp e hy] at k2;cases k2
   |some y'=>rw [hext b y' e] at k1;cases k1
 have ublock:∀ b x,u b=some x→vT g0 h0 w b=some x:=by
  intro b x hb
  refine ET ?_ ?_ (X.S.unt b x hb)
  ·rintro ⟨l,x0,h3,h4⟩
   obtain⟨o,x',k1,k2,k3⟩:=X.ob l x0 h3
   have:=(X.S.sep o x' b k2 (k3 b h4)).2
   rw [hb] at this;cases this
  ·rcases X.S0.dj b with k|k
   ·exact k
   ·rw [hb] at k;cases k
 have agr:∀ x ob,hold x=some ob→jY g2 x ob=jY gH x ob:=fun x ob h=>fN ha (X.S.use _ _ h).1
 refine⟨fun b x h=>S1.frz b x (hsub b x h),fun b x h=>S1.unt b x (ublock b x h),fun x ob h=>?_,fun x ob b h hb=>?_,fun x x' ob ob' b h h' hb hb'=>?_,fun x ob h=>?_,fun b=>?_⟩
 ·rcases hobs x ob h with ⟨k1,k2,k3⟩|⟨l,ob1,k1,k2,k3,_⟩
  ·exact (X.S.ob _ _ k1).keep ha (X.S.use _ _ k1).1 (X.S.use _ _ k1).2 fun b hb=>(key x ob b k1 k2 k3 hb).1
  ·exact k3
 ·rcases hobs x ob h with ⟨k1,k2,k3⟩|⟨l,ob1,k1,k2,k3,k4,_⟩
  ·rw [agr x ob k1] at hb
   exact⟨(key x ob b k1 k2 k3 hb).2.1,(key x ob b k1 k2 k3 hb).2.2.1⟩
  ·obtain⟨j1,j2⟩:=S1.sep l ob1 b k1 (k4 b hb)
   constructor
   ·cases e:g2.h b with
    |none=>rfl
    |some y=>rw [hsub b y e] at j1;cases j1
   ·cases e:u b with
    |none=>rfl
    |some y=>rw [ublock b y e] at j2;cases j2
 ·rcases hobs x ob h with ⟨k1,k2,k3⟩|⟨l,ob1,k1,k2,k3,k4,_⟩
  ·rw [agr x ob k1] at hb
   rcases hobs x' ob' h' with ⟨k1',k2',k3'⟩|⟨l',ob1',k1',_,_,k4',_⟩
   ·rw [agr x' ob' k1'] at hb'
    exact X.S.inj x x' ob ob' b k1 k1' hb hb'
   ·exact absurd (k4' b hb') ((key x ob b k1 k2 k3 hb).2.2.2 l' ob1' k1')
  ·rcases hobs x' ob' h' with ⟨k1',k2',k3'⟩|⟨l',ob1',k1',k2',_,k4',_⟩
   ·rw [agr x' ob' k1'] at hb'
    exact absurd (k4 b hb) ((key x' ob' b k1' k2' k3' hb').2.2.2 l ob1 k1)
   ·have:=S1.inj l l' ob1 ob1' b k1 k1' (k4 b hb) (k4' b hb')
    rw [k2,k2',this]
 ·rcases hobs x ob h with ⟨k1,_⟩|⟨l,ob1,_,_,_,_,k5,k6⟩
  ·exact⟨hpq _ (X.S.use _ _ k1).1,(X.S.use _ _ k1).2.mono hpq⟩
  ·exact⟨k5,k6⟩
 ·cases e:g2.h b with
  |none=>exact .inl rfl
  |some y=>
   right
   cases e':u b with
   |none=>rfl
   |some y'=>
    rcases S1.dj b with k|k
    ·rw [hsub b y e] at k;cases k
    ·rw [ublock b y' e'] at k;cases k
end
end Go.AE
namespace Go.AE
open Go.RowKit
def tX (d:D):Prop:=∀ h h' v,VD h d v→VD h' d v
theorem FZ (b:Bool):tX (.bool b):=fun _ _ _ h=>h
theorem MB (k:IntKind)(n:Int):tX (.int k n):=fun _ _ _ h=>h
theorem ME (s:F9):tX (.str s):=fun _ _ _ h=>h
theorem xH:tX .top:=fun _ _ _ h=>h
theorem Dp (f:Nat):tX (.fn f):=fun _ _ _ h=>h
theorem WC {h h':Nat→Option Obj}:∀ {xs:List D} {us:List Value},(∀ x∈xs,tX x)→vW h xs us→vW h' xs us
 |[],us,_,e=>e
 |x::xs,us,hf,e=>by
  obtain⟨v,r,rfl,h1,h2⟩:=e
  exact⟨v,r,rfl,hf x (by simp) _ _ _ h1,WC (fun y hy=>hf y (by simp [hy])) h2⟩
theorem LZ {cs:List D}(h:∀ c∈cs,tX c):tX (.agg cs):=fun _ _ _ ⟨us,h1,h2⟩=>⟨us,h1,WC h h2⟩
theorem WA {h h':Nat→Option Obj}{sz:Nat}:∀ {xs:List D} {us:List Value},(∀ x∈xs,tX x)→mY h sz xs us→mY h' sz xs us
 |[],us,_,e=>e
 |x::xs,us,hf,e=>by
  obtain⟨v,r,rfl,h1,h2,h3,h4⟩:=e
  exact⟨v,r,rfl,h1,h2,hf x (by simp) _ _ _ h3,WA (fun y hy=>hf y (by simp [hy])) h4⟩
theorem xG {t:pI}(h:tO t=true)(x:D):tX (JV t x):=by
 cases t<;>simp [tO] at h
 ·exact FZ _
 ·exact MB _ _
 ·exact ME _
theorem xF:∀ {ts:List pI} {x:D} {j:Nat},ts.all tO=true→∀ c∈qG ts x j,tX c
 |[],_,_,_,c,hc=>by cases hc
 |t::ts,x,j,h,c,hc=>by
  simp only [List.all_cons,A9] at h
  simp only [qG] at hc
  rcases B7.1 hc with rfl|hc
  ·exact xG h.1 _
  ·exact xF h.2 c hc
theorem TI {t:Ty}(h:KC t=true)(x:D):tX (H7 t x):=by
 cases t with
 |leaf t=>exact xG h x
 |agg ts=>exact LZ (xF h)
 |ifc t ts=>cases h
theorem XK {x:D}(h:UZ x=true):tX x:=by
 cases x with
 |bool b=>exact FZ b
 |int k n=>exact MB k n
 |str s=>exact ME s
 |agg cs=>
  refine LZ fun c hc=>?_
  have:=B6.1 (show cs.all _=true from h) c hc
  cases c<;>first|exact FZ _|exact MB _ _|exact ME _|cases this
 |_=>cases h
def SD:V→Prop
 | .d _=>True
 | .ptr _ _=>True
 | .row _=>True
 | .mp _=>True
 |_=>False
def OO:V→Prop
 | .fn _ (c::cs)=>∀ x∈c::cs,SD x
 | .agg cs=>∀ x∈cs,SD x
 | .bp ..=>True
 |x=>SD x
def FE (P:D→Prop):V→Prop
 | .d d=>P d
 |_=>True
def ON (P:D→Prop):V→Prop
 | .fn _ cs=>∀ x∈cs,FE P x
 | .agg cs=>∀ x∈cs,FE P x
 |x=>FE P x
theorem FE.mono {P Q:D→Prop}(h:∀ d,P d→Q d){x:V}(hx:FE P x):FE Q x:=by
 cases x<;>first|exact h _ hx|trivial
theorem ON.mono {P Q:D→Prop}(h:∀ d,P d→Q d){x:V}(hx:ON P x):ON Q x:=by
 cases x with
 |fn f cs=>exact fun y hy=>(hx y hy).mono h
 |agg cs=>exact fun y hy=>(hx y hy).mono h
 |d _=>exact FE.mono (x:= .d _) h hx
 |_=>trivial
theorem OW {E:Ty→D→D}{ds:List D}(s:SV)(j:Nat):SD (aM E ds s j).1:=by cases s<;>trivial
theorem oF {E:Ty→D→D}{ds:List D}:∀ (ss:List SV) (j:Nat),∀ x∈(O0 E ds ss j).1,SD x
 |[],_,x,h=>by cases h
 |s::ss,j,x,h=>by
  simp only [O0] at h
  rcases B7.1 h with rfl|h
  ·exact OW s j
  ·exact oF ss _ x h
theorem DX {x:V}(h:SD x):mO x=x:=by cases x<;>first|rfl|exact h.elim
theorem YC {cs:List V}(h:∀ x∈cs,SD x):OO (gN cs):=by
 unfold gN
 split
 ·trivial
 ·intro x hx
  obtain⟨c,hc,rfl⟩:=List.mem_map.1 hx
  rw [DX (h c hc)];exact h c hc
theorem ML {E:Ty→D→D}{ds:List D}(s:SV)(j:Nat):OO (gI E ds s j).1:=by
 match s with
 | .fn f []=>trivial
 | .fn f (c::caps)=>
  have e:(gI E ds (.fn f (c::caps)) j).1 = .fn f (O0 E ds (c::caps) j).1:=rfl
  rw [e]
  have h1:=oF (E:=E) (ds:=ds) (c::caps) j
  have h2:=jP (E:=E) (ds:=ds) (c::caps) j
  generalize (O0 E ds (c::caps) j).1=xs at *
  cases xs with
  |nil=>simp at h2
  |cons x xs=>exact h1
 | .agg ss=>exact YC (oF ss j)
 | .d t=>trivial
 | .ptr ..=>trivial
 | .row ..=>trivial
 | .mp ..=>trivial
 | .bp ..=>trivial
 | .x=>trivial
theorem qW {E:Ty→D→D}{ds:List D}:∀ (ss:List SV) (j:Nat),∀ x∈(U6 E ds ss j).1,OO x
 |[],_,x,h=>by cases h
 |s::ss,j,x,h=>by
  simp only [U6] at h
  rcases B7.1 h with rfl|h
  ·exact ML s j
  ·exact qW ss _ x h
theorem xK {E:Ty→D→D}{ds:List D}:∀ (sl:List (Nat×SV)) (j:Nat) (t:Nat),OO ((V9 E ds sl j).1 t)
 |[],_,_=>trivial
 |(t0,s)::sl,j,t=>by
  simp only [V9]
  cases Nat.beq t t0 with
  |true=>exact ML s j
  |false=>exact xK sl _ t
theorem MC {ds:List D}{s:SV}{j:Nat}(h:xV s=true):FE tX (aM H7 ds s j).1:=by
 cases s with
 |d t=>exact TI h _
 |fn f cs=>exact Dp f
 |agg _=>exact xH
 |x=>exact xH
 |bp _ _ _=>exact xH
 |_=>trivial
theorem GA {ds:List D}:∀ {ss:List SV} {j:Nat},ss.all xV=true→∀ x∈(O0 H7 ds ss j).1,FE tX x
 |[],_,_,x,h=>by cases h
 |s::ss,j,hp,x,h=>by
  simp only [List.all_cons,A9] at hp
  simp only [O0] at h
  rcases B7.1 h with rfl|h
  ·exact MC hp.1
  ·exact GA hp.2 x h
theorem Kf {ds:List D}{s:SV}{j:Nat}(h:zF s=true):ON tX (gI H7 ds s j).1:=by
 match s,h with
 | .fn f [],_=>exact Dp f
 | .fn f (c::caps),h=>exact GA (ss:=c::caps) h
 | .agg ss,h=>
  have hl:=GA (ds:=ds) (ss:=ss) (j:=j) h
  have e:(gI H7 ds (.agg ss) j).1=gN (O0 H7 ds ss j).1:=rfl
  rw [e]
  have hs:=oF (E:=H7) (ds:=ds) ss j
  generalize (O0 H7 ds ss j).1=cs at *
  unfold gN
  split
  ·rename_i xs e
   refine LZ fun c hc=>?_
   have:=hl (.d c) (by rw [CU e];exact List.mem_map.2 ⟨c,hc,rfl⟩)
   exact this
  ·intro x hx
   obtain⟨c,hc,rfl⟩:=List.mem_map.1 hx
   rw [DX (hs c hc)];exact hl c hc
 | .d t,h=>exact MC (s:= .d t) h
 | .ptr ..,_=>trivial
 | .row ..,_=>trivial
 | .mp ..,_=>trivial
 | .bp ..,_=>trivial
 | .x,_=>exact xH
theorem MA {ds:List D}:∀ {ss:List SV} {j:Nat},ss.all zF=true→∀ x∈(U6 H7 ds ss j).1,ON tX x
 |[],_,_,x,h=>by cases h
 |s::ss,j,hp,x,h=>by
  simp only [List.all_cons,A9] at hp
  simp only [U6] at h
  rcases B7.1 h with rfl|h
  ·exact Kf hp.1
  ·exact MA hp.2 x h
theorem MD {ds:List D}:∀ {sl:List (Nat×SV)} {j:Nat},(sl.all fun p=>zF p.2)=true→∀ t,ON tX ((V9 H7 ds sl j).1 t)
 |[],_,_,t=>xH
 |(t0,s)::sl,j,hp,t=>by
  simp only [List.all_cons,A9] at hp
  simp only [V9]
  cases Nat.beq t t0 with
  |true=>exact Kf hp.1
  |false=>exact MD hp.2 t
section
variable {p q2:Nat→Prop} {g1 g2:G} {f:Nat→Nat} {n1:Nat} {w:World}
structure Names (n1:Nat) (q2:Nat→Prop) (g1 g2:G) (f:Nat→Nat):Prop where
 blk:∀ l,l<n1→g2.blk (f l)=g1.blk l
 hdr:∀ l,l<n1→g2.hdr (f l)=g1.hdr l
 q:∀ l,l<n1→q2 (f l)
def vL (g1 g2:G)(d:D):Prop:=∀ v,VD g1.h d v→VD g2.h d v
theorem uS (N:Names n1 q2 g1 g2 f){x:V}{v:Value}(hs:SD x)(hd:FE (vL g1 g2) x)(h:VL g1 x v)(hu:x.lX (·<n1)):VL g2 (uR f x) v∧(uR f x).lX q2:=by
 match x,hs,hd,h,hu with
 | .d d,_,hd,h,_=>exact⟨hd v h,trivial⟩
 | .ptr o off,_,_,h,hu=>
  have hu:o<n1:=hu
  refine⟨?_,N.q o hu⟩
  show v=_
  rw [N.blk o hu];exact h
 | .row o,_,_,h,hu=>
  have hu:o<n1:=hu
  refine⟨?_,N.q o hu⟩
  show v=_∧_
  rw [N.hdr o hu];exact h
 | .mp o,_,_,h,hu=>
  have hu:o<n1:=hu
  refine⟨?_,N.q o hu⟩
  show v=_
  rw [N.blk o hu];exact h
theorem BY (N:Names n1 q2 g1 g2 f):∀ {xs:List V} {vs:List Value},(∀ x∈xs,SD x)→(∀ x∈xs,FE (vL g1 g2) x)→F2 (VL g1) xs vs→(∀ x∈xs,x.lX (·<n1))→
  F2 (VL g2) (xs.map (uR f)) vs∧∀ x∈xs.map (uR f),x.lX q2
 |[],_,_,_,h,_=>by cases h;exact⟨.nil,fun x hx=>by cases hx⟩
 |x::xs,_,hs,hd,h,hu=>by
  cases h with
  |cons h1 h2=>
   obtain⟨a1,a2⟩:=uS N (hs x (by simp)) (hd x (by simp)) h1 (hu x (by simp))
   obtain⟨b1,b2⟩:=BY N (fun y hy=>hs y (by simp [hy])) (fun y hy=>hd y (by simp [hy])) h2 (fun y hy=>hu y (by simp [hy]))
   exact⟨.cons a1 b1,fun y hy=>by
    simp only [List.map_cons] at hy
    rcases B7.1 hy with rfl|hy
    ·exact a2
    ·exact b2 y hy⟩
theorem Ei (N:Names n1 q2 g1 g2 f){x:V}{v:Value}(hs:OO x)(hd:ON (vL g1 g2) x)(h:VA g1 x v)(hu:x.V7 (·<n1)):VA g2 (VG f x) v∧(VG f x).V7 q2:=by
 match x,hs,hd,h,hu with
 | .fn _ [],hs,_,h,_=>exact hs.elim
 | .fn fn (c::cs),hs,hd,h,hu=>
  obtain⟨us,rfl,h1⟩:=h
  obtain⟨a1,a2⟩:=BY N hs hd h1 hu
  exact⟨⟨us,rfl,a1⟩,a2⟩
 | .agg cs,hs,hd,h,hu=>
  obtain⟨us,rfl,h1⟩:=h
  obtain⟨a1,a2⟩:=BY N hs hd h1 hu
  exact⟨⟨us,rfl,a1⟩,a2⟩
 | .d d,hs,hd,h,hu=>exact⟨hd v h,trivial⟩
 | .ptr o off,hs,hd,h,hu=>
  obtain⟨a1,a2⟩:=uS N (x:= .ptr o off) hs hd h hu
  exact⟨a1,a2⟩
 | .row o,hs,hd,h,hu=>
  obtain⟨a1,a2⟩:=uS N (x:= .row o) hs hd h hu
  exact⟨a1,a2⟩
 | .mp o,hs,hd,h,hu=>
  obtain⟨a1,a2⟩:=uS N (x:= .mp o) hs hd h hu
  exact⟨a1,a2⟩
 | .bp t o off,_,_,h,hu=>
  have hu:o<n1:=hu
  refine⟨?_,N.q o hu⟩
  show v=_∨v=_
  rw [N.blk o hu];exact h
theorem IZ (N:Names n1 q2 g1 g2 f):∀ {xs:List V} {vs:List Value},(∀ x∈xs,OO x)→(∀ x∈xs,ON (vL g1 g2) x)→F2 (VA g1) xs vs→(∀ x∈xs,x.V7 (·<n1))→
  F2 (VA g2) (xs.map (VG f)) vs∧∀ x∈xs.map (VG f),x.V7 q2
 |[],_,_,_,h,_=>by cases h;exact⟨.nil,fun x hx=>by cases hx⟩
 |x::xs,_,hs,hd,h,hu=>by
  cases h with
  |cons h1 h2=>
   obtain⟨a1,a2⟩:=Ei N (hs x (by simp)) (hd x (by simp)) h1 (hu x (by simp))
   obtain⟨b1,b2⟩:=IZ N (fun y hy=>hs y (by simp [hy])) (fun y hy=>hd y (by simp [hy])) h2 (fun y hy=>hu y (by simp [hy]))
   exact⟨.cons a1 b1,fun y hy=>by
    simp only [List.map_cons] at hy
    rcases B7.1 hy with rfl|hy
    ·exact a2
    ·exact b2 y hy⟩
theorem Qq {fr:Nat→Nat}{t o' f:Nat}{cs:List V}(h:V.bp t o' f∈cs.map (VG fr)):∃ o,V.bp t o f∈cs:=by
 obtain⟨x,hx,e⟩:=List.mem_map.1 h
 match x,hx,e with
 | .bp t2 o2 f2,hx,e=>cases e;exact⟨_,hx⟩
 | .fn _ _,_,e=>cases e
 | .agg _,_,e=>cases e
 | .d _,_,e=>cases e
 | .ptr ..,_,e=>cases e
 | .el ..,_,e=>cases e
 | .rp ..,_,e=>cases e
 | .row _,_,e=>cases e
 | .sub ..,_,e=>cases e
 | .tup _,_,e=>cases e
 | .mp _,_,e=>cases e
def Sa (g1 g2:G):Ob→Prop
 | .var cs=>(∀ x∈cs,OO x)∧∀ x∈cs,ON (vL g1 g2) x
 | .row _ _ xs _=>∀ h us sz,h=g1.h→mY h sz xs us→mY g2.h sz xs us
 | .mp _ xs=>∀ x∈xs,vL g1 g2 (x.at_ 0)∧vL g1 g2 (x.at_ 1)
 | .it ..=>True
theorem Mg (N:Names n1 q2 g1 g2 f){l:Nat}{ob:Ob}(hl:l<n1)(ho:Sa g1 g2 ob)(hfz:∀ e sz xs,ob≠ .row e sz xs true)(h:OB g1 l ob w)(hu:ob.T0 (·<n1)) :
  OB g2 (f l) (xZ f ob) w∧(xZ f ob).T0 q2∧∀ b,jY g2 (f l) (xZ f ob)=some b→jY g1 l ob=some b:=by
 match ob,ho,hfz,h,hu with
 | .var cs,ho,_,h,hu=>
  obtain⟨c,e,k1,k2,k3⟩:=h
  obtain⟨a1,a2⟩:=IZ N ho.1 ho.2 k2 hu
  refine⟨⟨c,e,by rw [N.blk l hl];exact k1,a1,k3.1,fun t o' f' hm=>by obtain⟨o,hm'⟩:=Qq hm;exact k3.2 _ _ _ hm'⟩,a2,fun b hb=>?_⟩
  simp only [xZ,jY,N.blk l hl] at hb
  exact hb
 | .row e sz xs false,ho,_,h,hu=>
  obtain⟨us,k1,k2,k3⟩:=h
  refine⟨⟨us,k1,by rw [N.hdr l hl];exact k2,ho _ _ _ rfl k3⟩,trivial,fun b hb=>?_⟩
  simp only [xZ,jY,N.hdr l hl] at hb
  exact hb
 | .row e sz xs true,_,hfz,_,_=>exact absurd rfl (hfz e sz xs)
 | .mp kt xs,ho,_,h,hu=>
  obtain⟨es,clock,k1,k2,kb⟩:=h
  refine⟨⟨es,clock,by rw [N.blk l hl];exact k1,k2.mono fun x hx _ k=>⟨(ho x hx).1 _ k.1,(ho x hx).2 _ k.2.1,k.2.2⟩,kb⟩,trivial,fun b hb=>?_⟩
  simp only [xZ,jY,N.blk l hl] at hb
  exact hb
 | .it t mo xs,ho,_,h,hu=>
  obtain⟨n,ns,k0,k1⟩:=h
  have hu:mo<n1:=hu
  refine⟨⟨n,ns,k0,by rw [N.blk l hl,N.blk mo hu];exact k1⟩,N.q mo hu,fun b hb=>?_⟩
  simp only [xZ,jY,N.blk l hl] at hb
  exact hb
end
end Go.AE
namespace Go.AE
open Go.RowKit
def QW:CO→Bool
 | .var _=>true
 | .row _ _ m=>Nat.beq m 1
 | .gone=>false
 | .mp _=>true
 | .it ..=>true
def uJ:CO→Bool
 | .gone=>true
 |_=>false
theorem beq_false {x y:Nat}(h:x≠y):Nat.beq x y=false:=by
 cases k:Nat.beq x y with
 |true=>exact absurd (beq_iff.1 k) h
 |false=>rfl
theorem Bw (l0:Nat)(s:CO)(r:List CO):aG l0 (s::r)=if QW s=true then (l0,l0)::aG (l0+1) r else aG (l0+1) r:=by
 cases s with
 |var _=>rfl
 |row e sz m=>
  have h1:aG l0 (.row e sz m::r)=bif QW (.row e sz m) then (l0,l0)::aG (l0+1) r else aG (l0+1) r:=rfl
  rw [h1]
  cases QW (.row e sz m)<;>rfl
 |gone=>rfl
 |mp _=>rfl
 |it _ _=>rfl
theorem lT:∀ {objs:List CO} {l0 l o:Nat},O4 (aG l0 objs) l=some o↔o=l∧∃ k s,l=l0+k∧objs[k]? = some s∧QW s=true
 |[],l0,l,o=>by simp [aG,O4]
 |s::r,l0,l,o=>by
  rw [Bw]
  have ih:=@lT r (l0+1) l o
  by_cases hs:QW s=true
  ·rw [if_pos hs,rB]
   by_cases e:l=l0
   ·subst e
    rw [if_pos rfl]
    constructor
    ·intro h;cases h;exact⟨rfl,0,s,rfl,rfl,hs⟩
    ·rintro ⟨rfl,_⟩;rfl
   ·rw [if_neg e,ih]
    constructor
    ·rintro ⟨h1,k,s',h2,h3,h4⟩;exact⟨h1,k+1,s',by omega,by simpa using h3,h4⟩
    ·rintro ⟨h1,k,s',h2,h3,h4⟩
     cases k with
     |zero=>omega
     |succ k=>exact⟨h1,k,s',by omega,by simpa using h3,h4⟩
  ·rw [if_neg hs,ih]
   constructor
   ·rintro ⟨h1,k,s',h2,h3,h4⟩;exact⟨h1,k+1,s',by omega,by simpa using h3,h4⟩
   ·rintro ⟨h1,k,s',h2,h3,h4⟩
    cases k with
    |zero=>simp at h3;subst h3;exact absurd h4 hs
    |succ k=>exact⟨h1,k,s',by omega,by simpa using h3,h4⟩
theorem gX {E:Ty→D→D}{ds:List D}:∀ {objs:List CO} {l0 j l:Nat} {x:Ob},P8 E ds objs l0 j l=some x→
  ∃ k s,l=l0+k∧objs[k]? = some s∧uJ s=false∧(∀ cs,x = .var cs→∀ c∈cs,OO c)∧(∀ e sz xs,x≠ .row e sz xs true)
 |[],_,_,_,_,h=>by simp [P8] at h
 | .gone::r,l0,j,l,x,h=>by
  obtain⟨k,s,h1,h2,h3⟩:=gX (objs:=r) h
  exact⟨k+1,s,by omega,by simpa using h2,h3⟩
 | .var ss::r,l0,j,l,x,h=>by
  simp only [P8] at h
  by_cases e:l=l0
  ·rw [beq_iff.2 e] at h
   simp only [cond_true,B1] at h
   subst h
   exact⟨0,_,by omega,rfl,rfl,fun cs hcs=>by cases hcs;exact qW ss j,fun _ _ _ hc=>by cases hc⟩
  ·rw [beq_false e] at h
   obtain⟨k,s,h1,h2,h3⟩:=gX (objs:=r) h
   exact⟨k+1,s,by omega,by simpa using h2,h3⟩
 | .row e' sz m::r,l0,j,l,x,h=>by
  simp only [P8] at h
  by_cases e:l=l0
  ·rw [beq_iff.2 e] at h
   simp only [cond_true,B1] at h
   subst h
   exact⟨0,_,by omega,rfl,rfl,fun cs hcs=>(by cases hcs),fun _ _ _ hc=>by cases hc⟩
  ·rw [beq_false e] at h
   obtain⟨k,s,h1,h2,h3⟩:=gX (objs:=r) h
   exact⟨k+1,s,by omega,by simpa using h2,h3⟩
 | .mp kt::r,l0,j,l,x,h=>by
  simp only [P8] at h
  by_cases e:l=l0
  ·rw [beq_iff.2 e] at h
   simp only [cond_true,B1] at h
   subst h
   exact⟨0,_,by omega,rfl,rfl,fun cs hcs=>(by cases hcs),fun _ _ _ hc=>by cases hc⟩
  ·rw [beq_false e] at h
   obtain⟨k,s,h1,h2,h3⟩:=gX (objs:=r) h
   exact⟨k+1,s,by omega,by simpa using h2,h3⟩
 | .it t l'::r,l0,j,l,x,h=>by
  simp only [P8] at h
  by_cases e:l=l0
  ·rw [beq_iff.2 e] at h
   simp only [cond_true,B1] at h
   subst h
   exact⟨0,_,by omega,rfl,rfl,fun cs hcs=>(by cases hcs),fun _ _ _ hc=>by cases hc⟩
  ·rw [beq_false e] at h
   obtain⟨k,s,h1,h2,h3⟩:=gX (objs:=r) h
   exact⟨k+1,s,by omega,by simpa using h2,h3⟩
theorem lP {E:Ty→D→D}{ds:List D}:∀ {objs:List CO} {l0 j k:Nat} {s:CO},objs[k]? = some s→uJ s=false→∃ x,P8 E ds objs l0 j (l0+k)=some x
 |[],_,_,_,_,h,_=>by simp at h
 |s0::r,l0,j,0,s,h,hg=>by
  simp at h
  subst h
  cases s0 with
  |gone=>cases hg
  |var ss=>simp only [P8,Nat.add_zero,beq_iff.2 rfl];exact⟨_,rfl⟩
  |row e sz m=>simp only [P8,Nat.add_zero,beq_iff.2 rfl];exact⟨_,rfl⟩
  |mp kt=>simp only [P8,Nat.add_zero,beq_iff.2 rfl];exact⟨_,rfl⟩
  |it t l=>simp only [P8,Nat.add_zero,beq_iff.2 rfl];exact⟨_,rfl⟩
 |s0::r,l0,j,k+1,s,h,hg=>by
  have h:r[k]? = some s:=by simpa using h
  cases s0 with
  |gone=>
   obtain⟨x,hx⟩:=lP (E:=E) (ds:=ds) (objs:=r) (k:=k) (l0:=l0+1) (j:=j) h hg
   exact⟨x,by simp only [P8];rw [show l0+(k+1)=l0+1+k from by omega];exact hx⟩
  |var ss=>
   obtain⟨x,hx⟩:=lP (E:=E) (ds:=ds) (objs:=r) (k:=k) (l0:=l0+1) (j:=(U6 E ds ss j).2) h hg
   exact⟨x,by simp only [P8];rw [beq_false (by omega),cond_false,show l0+(k+1)=l0+1+k from by omega];exact hx⟩
  |row e sz m=>
   obtain⟨x,hx⟩:=lP (E:=E) (ds:=ds) (objs:=r) (k:=k) (l0:=l0+1) (j:=j+1) h hg
   exact⟨x,by simp only [P8];rw [beq_false (by omega),cond_false,show l0+(k+1)=l0+1+k from by omega];exact hx⟩
  |mp kt=>
   obtain⟨x,hx⟩:=lP (E:=E) (ds:=ds) (objs:=r) (k:=k) (l0:=l0+1) (j:=j+1) h hg
   exact⟨x,by simp only [P8];rw [beq_false (by omega),cond_false,show l0+(k+1)=l0+1+k from by omega];exact hx⟩
  |it t l=>
   obtain⟨x,hx⟩:=lP (E:=E) (ds:=ds) (objs:=r) (k:=k) (l0:=l0+1) (j:=j+1) h hg
   exact⟨x,by simp only [P8];rw [beq_false (by omega),cond_false,show l0+(k+1)=l0+1+k from by omega];exact hx⟩
theorem Du:∀ {ds:List D} {j:Nat} {sz:Nat} {xs:List D},Y ds j = .Z sz xs→ .Z sz xs∈ds
 |[],_,_,_,h=>by simp [Y] at h
 |x::r,0,_,_,h=>by simp only [Y] at h;simp [h]
 |x::r,j+1,_,_,h=>by simp only [Y] at h;simp [Du h]
theorem Mj {sk:Sk}{ds:List D}(h:cS sk ds=true)(j:Nat):∀ x∈(Y ds j).l,tX x:=by
 intro x hx
 cases e:Y ds j with
 |Z sz xs=>
  rw [e] at hx
  have:=B6.1 (show ds.all _=true from h) _ (Du e)
  exact XK (B6.1 this x hx)
 |_=>rw [e] at hx;cases hx
theorem sD {P:Program}{sk:Sk}{ds:List D}(hd:cS sk ds=true){g1 g2:G}:∀ {objs:List CO} {l0 j l:Nat} {x:Ob},
  (objs.all fun | .var ss=>ss.all zF | .row e _ _=>KC (zW P e) | .gone=>true | .mp _=>false | .it ..=>false)=true→P8 H7 ds objs l0 j l=some x→Sa g1 g2 x
 |[],_,_,_,_,_,h=>by simp [P8] at h
 | .gone::r,l0,j,l,x,hp,h=>sD hd (objs:=r) (by simpa using hp) h
 | .var ss::r,l0,j,l,x,hp,h=>by
  simp only [List.all_cons,A9] at hp
  simp only [P8] at h
  by_cases e:l=l0
  ·rw [beq_iff.2 e] at h
   simp only [cond_true,B1] at h
   subst h
   exact⟨qW ss j,fun y hy=>(MA hp.1 y hy).mono fun d hd v hv=>hd _ _ v hv⟩
  ·rw [beq_false e] at h
   exact sD hd hp.2 h
 | .row e' sz m::r,l0,j,l,x,hp,h=>by
  simp only [List.all_cons,A9] at hp
  simp only [P8] at h
  by_cases e:l=l0
  ·rw [beq_iff.2 e] at h
   simp only [cond_true,B1] at h
   subst h
   exact fun _ us sz _ hf=>WA (Mj hd j) hf
  ·rw [beq_false e] at h
   exact sD hd hp.2 h
 | .mp kt::r,l0,j,l,x,hp,h=>by simp at hp
 | .it t l'::r,l0,j,l,x,hp,h=>by simp at hp
theorem AQ {f:Nat→Nat}{h' h:Nat→Option Ob}:∀ {objs:List CO} {l0 x:Nat} {ob:Ob},mR f h' h l0 objs x=some ob→
  (∃ k s ob1,objs[k]? = some s∧uJ s=false∧x=f (l0+k)∧h' (l0+k)=some ob1∧ob=xZ f ob1)∨(h x=some ob∧∀ k s,objs[k]? = some s→uJ s=false→x≠f (l0+k))
 |[],l0,x,ob,hm=> .inr ⟨hm,fun k s h=>by simp at h⟩
 |s0::r,l0,x,ob,hm=>by
  have rest:mR f h' h (l0+1) r x=some ob→(uJ s0=false→x≠f l0)→(∃ k s ob1,(s0::r)[k]? = some s∧uJ s=false∧x=f (l0+k)∧h' (l0+k)=some ob1∧ob=xZ f ob1)∨
    (h x=some ob∧∀ k s,(s0::r)[k]? = some s→uJ s=false→x≠f (l0+k)):=by
   intro hm hx
   rcases AQ hm with ⟨k,s,ob1,h1,h2,h3,h4,h5⟩|⟨h1,h2⟩
   ·exact .inl ⟨k+1,s,ob1,by simpa using h1,h2,by rw [h3];congr 1;omega,by rw [← h4];congr 1;omega,h5⟩
   ·refine .inr ⟨h1,fun k s hk hg=>?_⟩
    cases k with
    |zero=>simp at hk;subst hk;exact hx hg
    |succ k=>have:=h2 k s (by simpa using hk) hg;rwa [show l0+(k+1)=l0+1+k from by omega]
  have here:uJ s0=false→mR f h' h l0 (s0::r) x=(bif Nat.beq x (f l0) then (match h' l0 with|some ob=>some (xZ f ob)|none=>none) else mR f h' h (l0+1) r x):=by
   intro hg;cases s0<;>first|rfl|cases hg
  cases hg:uJ s0 with
  |true=>
   cases s0 with
   |gone=>exact rest hm (fun h=>by rw [hg] at h;cases h)
   |_=>cases hg
  |false=>
   rw [here hg] at hm
   by_cases e:x=f l0
   ·rw [beq_iff.2 e] at hm
    simp only [cond_true] at hm
    split at hm
    ·rename_i ob1 h1
     simp only [B1] at hm
     exact .inl ⟨0,s0,ob1,rfl,hg,e,h1,hm.symm⟩
    ·cases hm
   ·rw [beq_false e] at hm
    exact rest hm fun _=>e
theorem AJ {sk:Sk}{ren pre:List (Nat×Nat)}{h:Nat→Option Ob}:∀ {objs:List CO} {l0 x:Nat} {ob:Ob},oS sk ren pre h l0 objs x=some ob→
  h x=some ob∧∀ k e sz m,objs[k]? = some (.row e sz m)→O4 pre (l0+k)=none→O4 ren (l0+k)≠some x
 |[],l0,x,ob,hd=>⟨hd,fun k e sz m h=>by simp at h⟩
 |s0::r,l0,x,ob,hd=>by
  have rest:oS sk ren pre h (l0+1) r x=some ob→(∀ e sz m,s0 = .row e sz m→O4 pre l0=none→O4 ren l0≠some x)→
    h x=some ob∧∀ k e sz m,(s0::r)[k]? = some (.row e sz m)→O4 pre (l0+k)=none→O4 ren (l0+k)≠some x:=by
   intro hm hx
   obtain⟨h1,h2⟩:=AJ hm
   refine⟨h1,fun k e sz m hk hp=>?_⟩
   cases k with
   |zero=>simp at hk;exact hx e sz m hk hp
   |succ k=>have:=h2 k e sz m (by simpa using hk);rw [show l0+(k+1)=l0+1+k from by omega] at hp ⊢;exact this hp
  cases s0 with
  |var ss=>exact rest hd (fun _ _ _ h=>by cases h)
  |gone=>exact rest hd (fun _ _ _ h=>by cases h)
  |mp kt=>exact rest hd (fun _ _ _ h=>by cases h)
  |it t l=>exact rest hd (fun _ _ _ h=>by cases h)
  |row e sz m=>
   simp only [oS] at hd
   obtain⟨hb,hd⟩:=K1 hd
   refine rest hd fun _ _ _ _ hp hr=>?_
   rw [hp,hr] at hb
   simp only [beq_iff.2 rfl] at hb
   cases hb
end Go.AE
namespace Go.AE
open Go.RowKit
def uT (sl:List (Nat×SV))(tm:Nat→Value):Value:=
 match sl.map fun x=>tm x.1 with
 |[v]=>v
 |vs=> .tuple vs.toArray
def FF (CL:FuncId→Array Value→World→(Ending→World→Prop)→Prop)(c:oA)(f:Nat)(sk:Sk)(ds out:List D):Prop:=
 ∀ fn,c.P.funcs[f]? = some fn→∀ (u:Nat→Option Obj) (g:G),c.FD g.h→∀ (args:Array Value) (w:World),args.size=sk.slots.length→
  P3 u (·<sk.objs.length) g (M4 E0 sk ds).h w→(∀ t,VV g ((M4 E0 sk ds).t t) (args.getD t undef)∧((M4 E0 sk ds).t t).T0 (·<sk.objs.length))→
  CL f args w fun e w'=>∃ v,e = .returned v∧∃ g' tm',P3 u (·<(cF c.P (c.dres f) fn.resultTypes.toList sk).objs.length) g' (M4 E0 (cF c.P (c.dres f) fn.resultTypes.toList sk) out).h w'∧
   (∀ t,VV g' ((M4 E0 (cF c.P (c.dres f) fn.resultTypes.toList sk) out).t t) (tm' t)∧((M4 E0 (cF c.P (c.dres f) fn.resultTypes.toList sk) out).t t).T0 (·<(cF c.P (c.dres f) fn.resultTypes.toList sk).objs.length))∧
   Ext g w g' w'∧(∀ l o,O4 (aG 0 sk.objs) l=some o→g'.blk l=g.blk l∧g'.hdr l=g.hdr l)∧v=uT (cF c.P (c.dres f) fn.resultTypes.toList sk).slots tm'
def fO (c:oA)(f:Nat)(sk:Sk)(ds out:List D):Prop:=FF (Calls c.P) c f sk ds out
def Rb (P:Program)(f:FuncId)(args:Array Value)(w:World)(R:Ending→World→Prop):Prop:=CallsD P f args .returning w fun e u' w'=>u' = .returning∧R e w'
def Fg (c:oA)(f:Nat)(sk:Sk)(ds out:List D):Prop:=FF (Rb c.P) c f sk ds out
theorem Ny {g:G}{q:Nat→Prop}{x:V}{v:Value}(hs:OO x)(h:VV g x v)(hu:x.T0 q):VA g x v∧x.V7 q:=by
 match x,hs,h,hu with
 | .fn _ [],hs,_,_=>exact hs.elim
 | .fn _ (_::_),_,h,hu=>exact⟨h,hu⟩
 | .agg _,_,h,hu=>exact⟨h,hu⟩
 | .d _,_,h,_=>exact⟨h,trivial⟩
 | .ptr ..,_,h,hu=>exact⟨h,hu⟩
 | .row _,_,h,hu=>exact⟨h,hu⟩
 | .mp _,_,h,hu=>exact⟨h,hu⟩
 | .bp ..,_,h,hu=>exact⟨h,hu⟩
 | .tup _,hs,_,_=>exact hs.elim
theorem NG:∀ {objs:List CO} {k:Nat} {s:CO},objs[k]? = some s→QW s=true→(xT objs)[k]? = some s
 |[],_,_,h,_=>by simp at h
 |s0::r,0,s,h,hp=>by
  simp at h;subst h
  cases s0 with
  |var _=>rfl
  |mp _=>rfl
  |it _ _=>rfl
  |gone=>cases hp
  |row e sz m=>
   have:m=1:=beq_iff.1 hp
   subst this
   rfl
 |s0::r,k+1,s,h,hp=>by
  have:=NG (objs:=r) (k:=k) (by simpa using h) hp
  cases s0<;>simpa [xT] using this
theorem Bp (P:Program)(dres:Nat→Nat)(ts:List TypeId)(sk:Sk):∃ b,(cF P dres ts sk).objs=xT sk.objs++b:=⟨_,rfl⟩
section
variable {u:Nat→Option Obj} {p q:Nat→Prop} {g gF gH g':G} {st:St} {hold:Nat→Option Ob} {tm tm':Nat→Value} {w w':World} {P:Program} {sk H9:Sk} {cf:Cf} {out:List D} {nid:Nat}
theorem Lb (M:Cy u p g gF st tm w sk [] cf)(SH:P3 u p gH hold w)(S0:P3 u p g st.h w)(aH:L8 p g gH)(bH:gH.blk=g.blk)(dH:gH.hdr=g.hdr)(sub:∀ b x,gH.h b=some x→gF.h b=some x)
  (hhold:∀ o x,o∉cf.fz→st.h o=some x→hold o=some x) (hnew:∀ k,k<16→¬ p (nid+k)∧q (nid+k)) (hpq:∀ x,p x→q x)
  (hosk:∃ b,H9.objs=xT sk.objs++b) (hlen:H9.objs.length≤16)
  (hmode:(∀ b,gF.h b≠none→gH.h b≠none)∨(zG P H9=true∧cS H9 out=true)) (hchk:I7 H9 out=true)
  (S1:P3 (vT (tA g gF cf.ren) (M4 E0 sk cf.ds).h w) (·<H9.objs.length) g' (M4 E0 H9 out).h w')
  (T1:∀ t,VV g' ((M4 E0 H9 out).t t) (tm' t)∧((M4 E0 H9 out).t t).T0 (·<H9.objs.length))
  (X1:Ext (tA g gF cf.ren) w g' w') (hkeep:∀ l o,O4 (aG 0 sk.objs) l=some o→g'.blk l=(tA g gF cf.ren).blk l∧g'.hdr l=(tA g gF cf.ren).hdr l) :
  ∃ g2,P3 u q g2 (mR (AM cf.ren (aG 0 sk.objs) nid) (cI H9 out).h (oS sk cf.ren (aG 0 sk.objs) hold 0 sk.objs) 0 H9.objs) w'∧L8 p gH g2∧Ext gH w g2 w'∧
   VV g2 (UN (oG (AM cf.ren (aG 0 sk.objs) nid) (cI H9 out).t H9.slots)) (uT H9.slots tm')∧(UN (oG (AM cf.ren (aG 0 sk.objs) nid) (cI H9 out).t H9.slots)).T0 q:=by
 obtain⟨S2,T2⟩:=Dl hchk S1 T1
 let f:=AM cf.ren (aG 0 sk.objs) nid
 let g0:=tA g gF cf.ren
 have hpre:∀ l o,O4 (aG 0 sk.objs) l=some o→∃ x0 ox x,(M4 E0 sk cf.ds).h l=some x0∧O4 cf.ren l=some ox∧st.h ox=some x∧f l=ox∧p ox:=by
  intro l o h
  obtain⟨_,k,s,hk,hs,hp⟩:=lT.1 h
  obtain⟨x0,hx0⟩:=lP (E:=E0) (ds:=cf.ds) (l0:=0) (j:=(V9 E0 cf.ds sk.slots 0).2) hs (by cases s<;>first|rfl|cases hp)
  rw [← hk] at hx0
  obtain⟨_,_,ox,x,h1,h2,_⟩:=M.ob l x0 hx0
  refine⟨x0,ox,x,hx0,h1,h2,?_,(S0.use _ _ h2).1⟩
  show AM cf.ren (aG 0 sk.objs) nid l=ox
  unfold AM
  rw [h]
  simp [h1]
 have hfnew:∀ l,O4 (aG 0 sk.objs) l=none→f l=nid+l:=by
  intro l h
  show AM cf.ren (aG 0 sk.objs) nid l=nid+l
  unfold AM
  rw [h]
 let g2:G:=⟨fun b=>if gF.h b≠none∧gH.h b=none then none else g'.h b,fun x=>if nid≤x∧x<nid+16 then g'.blk (x-nid) else gH.blk x,fun x=>if nid≤x∧x<nid+16 then g'.hdr (x-nid) else gH.hdr x⟩
 have notnew:∀ x,p x→¬ (nid≤x∧x<nid+16):=by
  intro x hx ⟨h1,h2⟩
  have:=(hnew (x-nid) (by omega)).1
  rw [show nid+(x-nid)=x from by omega] at this
  exact this hx
 have ha:L8 p gH g2:=by
  refine⟨fun b x h=>?_,fun x hx=>?_,fun x hx=>?_⟩
  ·show (if gF.h b≠none∧gH.h b=none then none else g'.h b)=some x
   rw [if_neg (by rw [h];simp)]
   exact X1.h b x (sub b x h)
  ·show (if nid≤x∧x<nid+16 then g'.blk (x-nid) else gH.blk x)=gH.blk x
   rw [if_neg (notnew x hx)]
  ·show (if nid≤x∧x<nid+16 then g'.hdr (x-nid) else gH.hdr x)=gH.hdr x
   rw [if_neg (notnew x hx)]
 have hsub:∀ b x,g2.h b=some x→g'.h b=some x:=by
  intro b x h
  have h:(if gF.h b≠none∧gH.h b=none then none else g'.h b)=some x:=h
  split at h
  ·cases h
  ·exact h
 have N:Names H9.objs.length q g' g2 f:=by
  have both:∀ l,l<H9.objs.length→(g2.blk (f l)=g'.blk l∧g2.hdr (f l)=g'.hdr l)∧q (f l):=by
   intro l hl
   cases hp:O4 (aG 0 sk.objs) l with
   |some o=>
    obtain⟨x0,ox,x,h1,h2,h3,h4,h5⟩:=hpre l o hp
    rw [h4]
    obtain⟨k1,k2⟩:=hkeep l o hp
    refine⟨⟨?_,?_⟩,hpq _ h5⟩
    ·rw [ha.blk ox h5,bH,k1];simp [tA,h2]
    ·rw [ha.hdr ox h5,dH,k2];simp [tA,h2]
   |none=>
    rw [hfnew l hp]
    have hc:nid≤nid+l∧nid+l<nid+16:=by omega
    refine⟨⟨?_,?_⟩,(hnew l (by omega)).2⟩
    ·show (if nid≤nid+l∧nid+l<nid+16 then g'.blk (nid+l-nid) else gH.blk (nid+l))=_
     rw [if_pos hc,Nat.add_sub_cancel_left]
    ·show (if nid≤nid+l∧nid+l<nid+16 then g'.hdr (nid+l-nid) else gH.hdr (nid+l))=_
     rw [if_pos hc,Nat.add_sub_cancel_left]
  exact⟨fun l hl=>(both l hl).1.1,fun l hl=>(both l hl).1.2,fun l hl=>(both l hl).2⟩
 have same:(∀ b,gF.h b≠none→gH.h b≠none)→g2.h=g'.h:=by
  intro hm
  funext b
  show (if gF.h b≠none∧gH.h b=none then none else g'.h b)=g'.h b
  rw [if_neg]
  rintro ⟨h1,h2⟩
  exact hm b h1 h2
 have hslots:∀ t,ON (vL g' g2) ((cI H9 out).t t):=by
  intro t
  rcases hmode with hm|⟨hm,_⟩
  ·have e:=same hm
   have hk:∀ d,vL g' g2 d:=fun d v hv=>by rw [e];exact hv
   have allL:∀ x,FE (vL g' g2) x:=fun x=>by cases x<;>first|exact hk _|trivial
   cases (cI H9 out).t t with
   |fn f cs=>exact fun y _=>allL y
   |agg cs=>exact fun y _=>allL y
   |d _=>exact hk _
   |_=>trivial
  ·unfold zG at hm
   simp only [A9] at hm
   exact (MD hm.1 t).mono fun d hd v hv=>hd _ _ v hv
 have hobj:∀ l x,(cI H9 out).h l=some x→Sa g' g2 x:=by
  intro l x hx
  rcases hmode with hm|⟨hm,hm2⟩
  ·have e:=same hm
   have hk:∀ d,vL g' g2 d:=fun d v hv=>by rw [e];exact hv
   have allL:∀ x,FE (vL g' g2) x:=fun x=>by cases x<;>first|exact hk _|trivial
   obtain⟨_,_,_,_,_,k1,_⟩:=gX (E:=H7) hx
   cases x with
   |row e' sz xs fz=>exact fun h us sz' hh hf=>by rw [hh] at hf;rw [e];exact hf
   |mp kt xs=>exact fun x _=>⟨hk _,hk _⟩
   |it t mo xs=>trivial
   |var cs=>
    refine⟨k1 cs rfl,fun y _=>?_⟩
    cases y with
    |fn f cs=>exact fun y _=>allL y
    |agg cs=>exact fun y _=>allL y
    |d _=>exact hk _
    |_=>trivial
  ·unfold zG at hm
   simp only [A9] at hm
   exact sD (P:=P) hm2 hm.2 hx
 have hpass:Pass u p (·<sk.objs.length) gH g0 hold (M4 E0 sk cf.ds).h w (fun l o=>O4 cf.ren l=some o):=by
  refine⟨SH,M.Tq S0,sub,fun l x0 h0=>?_⟩
  obtain⟨_,_,o,x,h1,h2,h3⟩:=M.ob l x0 h0
  refine⟨o,x,h1,hhold o x (M.lt l o h1).1 h2,fun b hb=>?_⟩
  rw [fN aH (S0.use _ _ h2).1]
  exact h3 b hb
 refine⟨g2,hpass.back S2 X1.h ha hsub hpq (f:=f) (fun x ob hx=>?_),ha,⟨ha.h,X1.os,X1.tape,X1.output,X1.size⟩,?_⟩
 ·rcases AQ hx with ⟨k,s,ob1,h1,h2,h3,h4,h5⟩|⟨h1,h2⟩
  ·right
   rw [C5] at h3 h4
   have hk:k<H9.objs.length:=(List.getElem?_eq_some_iff.1 h1).1
   obtain⟨_,_,_,_,_,_,k2⟩:=gX (E:=H7) h4
   obtain⟨r1,r2,r3⟩:=Mg N hk (hobj k ob1 h4) k2 (S2.ob _ _ h4) (S2.use _ _ h4).2
   refine⟨k,ob1,h4,h3,?_,?_,?_,?_⟩
   ·rw [h3,h5];exact r1
   ·rw [h3,h5];exact r3
   ·rw [h3];exact N.q k hk
   ·rw [h5];exact r2
  ·left
   obtain⟨d1,d2⟩:=AJ h1
   refine⟨d1,fun l x0 h0 hr=>?_,fun b hb=>?_⟩
   ·obtain⟨k,s,hk,hs,hg,_⟩:=gX (E:=E0) h0
    rw [C5] at hk
    subst hk
    cases hp:O4 (aG 0 sk.objs) l with
    |some o=>
     obtain⟨_,ox,_,_,j1,_,j2,_⟩:=hpre l o hp
     rw [hr] at j1
     cases j1
     obtain⟨_,k',s',hk',hs',hp'⟩:=lT.1 hp
     rw [C5] at hk'
     subst hk'
     obtain⟨b,hb⟩:=hosk
     have hget:H9.objs[l]? = some s':=by
      have e1:=NG hs' hp'
      have hlt:=(List.getElem?_eq_some_iff.1 e1).1
      rw [hb,List.getElem?_append_left hlt];exact e1
     have:=h2 l s' hget (by cases s'<;>first|rfl|cases hp')
     rw [C5] at this
     exact this j2.symm
    |none=>
     cases s with
     |gone=>cases hg
     |var ss=>
      have:O4 (aG 0 sk.objs) l=some l:=lT.2 ⟨rfl,l,_,by omega,hs,rfl⟩
      rw [hp] at this;cases this
     |mp kt=>
      have:O4 (aG 0 sk.objs) l=some l:=lT.2 ⟨rfl,l,_,by omega,hs,rfl⟩
      rw [hp] at this;cases this
     |it t l0=>
      have:O4 (aG 0 sk.objs) l=some l:=lT.2 ⟨rfl,l,_,by omega,hs,rfl⟩
      rw [hp] at this;cases this
     |row e sz m=>
      have:=d2 l e sz m hs (by rw [C5];exact hp)
      rw [C5] at this
      exact this hr
   ·have hsep:=(SH.sep x ob b d1 hb).1
    cases e:gF.h b with
    |none=>exact .inl e
    |some y=>
     right
     show (if gF.h b≠none∧gH.h b=none then none else g'.h b)=none
     rw [if_pos ⟨by rw [e];simp,hsep⟩]
 ·have hone:∀ t,VA g2 (VG f ((cI H9 out).t t)) (tm' t)∧(VG f ((cI H9 out).t t)).V7 q:=by
   intro t
   have hshape:OO ((cI H9 out).t t):=xK _ _ _
   obtain⟨v1,v2⟩:=Ny hshape (T2 t).1 (T2 t).2
   exact Ei N hshape (hslots t) v1 v2
  have hlist:∀ sl:List (Nat×SV),F2 (VA g2) (oG f (cI H9 out).t sl) (sl.map fun x=>tm' x.1)∧∀ x∈oG f (cI H9 out).t sl,x.V7 q:=by
   intro sl
   induction sl with
   |nil=>exact⟨.nil,fun x hx=>by cases hx⟩
   |cons s sl ih=>
    obtain⟨i,s⟩:=s
    exact⟨.cons (hone i).1 ih.1,fun x hx=>by
     simp only [oG] at hx
     rcases B7.1 hx with rfl|hx
     ·exact (hone i).2
     ·exact ih.2 x hx⟩
  obtain⟨l1,l2⟩:=hlist H9.slots
  show VV g2 (UN (oG f (cI H9 out).t H9.slots)) _∧(UN (oG f (cI H9 out).t H9.slots)).T0 q
  unfold uT
  generalize oG f (cI H9 out).t H9.slots=xs at *
  generalize (H9.slots.map fun x=>tm' x.1)=vs at *
  cases l1 with
  |nil=>exact⟨⟨#[],rfl,.nil⟩,fun x hx=>by cases hx⟩
  |cons h1 h2=>
   cases h2 with
   |nil=>
    have e1:∀ x:V,UN [x]=x:=fun _=>rfl
    rw [e1] at *
    exact⟨eF h1,cM (l2 _ (C3.2 rfl))⟩
   |cons h3 h4=>exact⟨⟨_,rfl,.cons h1 (.cons h3 h4)⟩,l2⟩
theorem Jd {own:Nat→Nat}(hnew:∀ k,k<16→¬ p (nid+16+k)):∀ {ts:List TypeId} {i:Nat} {xs:List V} {vals:List Value} {h:Nat→Option Ob} {g:G},i+ts.length≤16→
  P3 u (fun x=>p x∨(nid+16≤x∧x<nid+16+i)) g h w→F2 (VV g) xs vals→(∀ x∈xs,x.T0 fun x=>p x∨(nid+16≤x∧x<nid+16+i))→
  ∃ g1,P3 u (fun x=>p x∨(nid+16≤x∧x<nid+32)) g1 (eG P own nid i ts xs h).2 w∧L8 (fun x=>p x∨(nid+16≤x∧x<nid+16+i)) g g1∧g1.h=g.h∧g1.blk=g.blk∧
   F2 (VV g1) (eG P own nid i ts xs h).1 vals∧(∀ x∈(eG P own nid i ts xs h).1,x.T0 fun x=>p x∨(nid+16≤x∧x<nid+32)):=by
 intro ts
 induction ts with
 |nil=>
  intro i xs vals h g hi S hF hu
  have e:eG P own nid i [] xs h=(xs,h):=by cases xs<;>rfl
  rw [e]
  have hm:∀ x,(p x∨(nid+16≤x∧x<nid+16+i))→(p x∨(nid+16≤x∧x<nid+32)):=by
   intro x hx
   rcases hx with hx|hx
   ·exact .inl hx
   ·simp only [A8] at hi;exact .inr (by omega)
  exact⟨g,S.more hm,L8.refl _ g,rfl,rfl,hF,fun x hx=>(hu x hx).mono hm⟩
 |cons t ts ih=>
  intro i xs vals h g hi S hF hu
  simp only [A0] at hi
  cases hF with
  |nil=>
   have e:eG P own nid i (t::ts) [] h=([],h):=rfl
   rw [e]
   have hm:∀ x,(p x∨(nid+16≤x∧x<nid+16+i))→(p x∨(nid+16≤x∧x<nid+32)):=by
    intro x hx
    rcases hx with hx|hx
    ·exact .inl hx
    ·exact .inr (by omega)
   exact⟨g,S.more hm,L8.refl _ g,rfl,rfl,.nil,fun x hx=>by cases hx⟩
  |@cons x v xs vals hx hxs=>
   have hm1:∀ x,(p x∨(nid+16≤x∧x<nid+16+i))→(p x∨(nid+16≤x∧x<nid+16+(i+1))):=by
    intro x hx
    rcases hx with hx|hx
    ·exact .inl hx
    ·exact .inr (by omega)
   have hmi:∀ x,(p x∨(nid+16≤x∧x<nid+16+i))→(p x∨(nid+16≤x∧x<nid+32)):=by
    intro x hx
    rcases hx with hx|hx
    ·exact .inl hx
    ·exact .inr (by omega)
   have keep:∀ x':V,VV g x' v→x'.T0 (fun x=>p x∨(nid+16≤x∧x<nid+16+i))→∃ g1,P3 u (fun x=>p x∨(nid+16≤x∧x<nid+32)) g1 (eG P own nid (i+1) ts xs h).2 w∧
     L8 (fun x=>p x∨(nid+16≤x∧x<nid+16+i)) g g1∧g1.h=g.h∧g1.blk=g.blk∧F2 (VV g1) (x'::(eG P own nid (i+1) ts xs h).1) (v::vals)∧
     (∀ y∈x'::(eG P own nid (i+1) ts xs h).1,y.T0 fun x=>p x∨(nid+16≤x∧x<nid+32)):=by
    intro x' hx' hux'
    obtain⟨g1,a1,a2,a3,a4,a5,a6⟩:=ih (i:=i+1) (by omega) (S.more hm1) hxs (fun y hy=>(hu y (by simp [hy])).mono hm1)
    have a2':L8 (fun x=>p x∨(nid+16≤x∧x<nid+16+i)) g g1:=⟨a2.h,fun o ho=>a2.blk o (hm1 o ho),fun o ho=>a2.hdr o (hm1 o ho)⟩
    refine⟨g1,a1,a2',a3,a4,.cons (hx'.agree a2' hux') a5,fun y hy=>?_⟩
    rcases B7.1 hy with rfl|hy
    ·exact hux'.mono hmi
    ·exact a6 y hy
   have plain:eG P own nid i (t::ts) (x::xs) h=(x::(eG P own nid (i+1) ts xs h).1,(eG P own nid (i+1) ts xs h).2)→∃ g1,P3 u (fun x=>p x∨(nid+16≤x∧x<nid+32)) g1 (eG P own nid i (t::ts) (x::xs) h).2 w∧
     L8 (fun x=>p x∨(nid+16≤x∧x<nid+16+i)) g g1∧g1.h=g.h∧g1.blk=g.blk∧F2 (VV g1) (eG P own nid i (t::ts) (x::xs) h).1 (v::vals)∧
     (∀ y∈(eG P own nid i (t::ts) (x::xs) h).1,y.T0 fun x=>p x∨(nid+16≤x∧x<nid+32)):=by
    intro e
    rw [e]
    exact keep x hx (hu x (by simp))
   by_cases hnil:∃ a b,x = .d (.nils a b)
   ·obtain⟨a,b,rfl⟩:=hnil
    cases he:iK P t with
    |none=>exact plain (by simp only [eG,he])
    |some e=>
     cases ho:Nat.beq (own i) 0 with
     |true=>
      have e1:eG P own nid i (t::ts) (.d (.nils a b)::xs) h=(.d (.Z (L6 P e) [])::(eG P own nid (i+1) ts xs h).1,(eG P own nid (i+1) ts xs h).2):=by simp only [eG,he,ho,cond_true]
      rw [e1]
      refine keep _ ?_ trivial
      have hx:v = .slice none 0 0:=hx
      subst hx
      exact⟨none,0,rfl,B9 _,C4 _,.inl rfl⟩
     |false=>
      cases hz:Nat.blt 0 (L6 P e) with
      |false=>exact plain (by simp only [eG,he,ho,hz,cond_false])
      |true=>
       have e1:eG P own nid i (t::ts) (.d (.nils a b)::xs) h=(.row (nid+16+i)::(eG P own nid (i+1) ts xs (fun x=>bif Nat.beq x (nid+16+i) then some (.row e (L6 P e) [] false) else h x)).1,
         (eG P own nid (i+1) ts xs (fun x=>bif Nat.beq x (nid+16+i) then some (.row e (L6 P e) [] false) else h x)).2):=by simp only [eG,he,ho,hz,cond_true,cond_false]
       rw [e1]
       have hx:v = .slice none 0 0:=hx
       subst hx
       have hsz:0<L6 P e:=by have h1:Nat.ble 1 (L6 P e)=true:=hz;exact B3 h1
       have hnp:¬ (p (nid+16+i)∨(nid+16≤nid+16+i∧nid+16+i<nid+16+i)):=by
        rintro (k|k)
        ·exact hnew i (by omega) k
        ·omega
       obtain⟨g1,b1,b2,b3,b4,b5⟩:=gB (h':=fun x=>bif Nat.beq x (nid+16+i) then some (.row e (L6 P e) [] false) else h x) S hm1 hnp (.inr (by omega)) (e:=e) (sz:=L6 P e) (xs:=[]) (v:= .slice none 0 0) (us:=[]) (row:=none) (qV w none) (World.ownsRow_nil w 0 e (L6 P e)) hsz rfl
        (fun b hb=>by cases hb) (fun b hb=>by cases hb) (fun o' x hx hne=>by rw [beq_false hne] at hx;exact⟨hx,fun _ _ e=>by cases e⟩) (by rw [beq_iff.2 rfl];rfl)
       obtain⟨g2,a1,a2,a3,a4,a5,a6⟩:=ih (i:=i+1) (by omega) b5 (F2.mono hxs fun y hy z hz=>VV.agree b1 (hu y (by simp [hy])) hz) (fun y hy=>(hu y (by simp [hy])).mono hm1)
       have ha:L8 (fun x=>p x∨(nid+16≤x∧x<nid+16+i)) g g2:=⟨fun b x k=>a2.h b x (b1.h b x k),fun o ho=>(a2.blk o (hm1 o ho)).trans (b1.blk o ho),fun o ho=>(a2.hdr o (hm1 o ho)).trans (b1.hdr o ho)⟩
       refine⟨g2,a1,ha,a3.trans b2,a4.trans b3,.cons ⟨?_,rfl⟩ a5,fun y hy=>?_⟩
       ·rw [a2.hdr _ (.inr (by omega)),b4]
       ·rcases B7.1 hy with rfl|hy
        ·exact .inr (by omega)
        ·exact a6 y hy
   ·refine plain ?_
    match x,hnil with
    | .d (.nils a b),hnil=>exact absurd ⟨a,b,rfl⟩ hnil
    | .d .top,_ | .d (.bool _),_ | .d (.int _ _),_ | .d (.str _),_ | .d (.Z _ _),_ | .d .und,_ | .d (.agg _),_ | .d (.fn _),_ | .d .nilp,_ | .d .nilf,_ | .d .nilm,_ | .d .nili,_ | .d .ub,_ | .d (.iface _ _),_ | .d (.meth ..),_=>simp only [eG]
    | .ptr ..,_ | .el ..,_ | .rp ..,_ | .row _,_ | .sub ..,_ | .agg _,_ | .fn ..,_ | .tup _,_ | .mp _,_ | .bp ..,_=>simp only [eG]
end
end Go.AE
namespace Go.AE
open Go.RowKit
section
variable {u:Nat→Option Obj} {p q:Nat→Prop} {g:G} {st:St} {a:Act} {w:World} {c:oA} {o:Oper} {R:Type} {K:V→St→Option R} {r:R} {nid:Nat} {rec:Task→Out}
def tB (c:oA)(rec:Task→Out):Prop:=∀ f sk ds out,rec (.call f sk ds)=some (true,out)→fO c f sk ds out∧(c.CK f sk ds=none→Fg c f sk ds out)
theorem UI:∀ {xs:List V} {vals:List Value},F2 (VV g) xs vals→∀ t,VV g (OZ xs t) (vals.getD t undef)
 |[],_,h,t=>by cases h;exact (trivial:VD _ .top _)
 |x::xs,_,h,t=>by
  cases h with
  |cons h1 h2=>
   cases t with
   |zero=>exact h1
   |succ t=>exact UI h2 t
theorem GU:∀ {xs:List V},(∀ x∈xs,x.T0 p)→∀ t,(OZ xs t).T0 p
 |[],_,t=>trivial
 |x::xs,h,t=>by
  cases t with
  |zero=>exact h x (by simp)
  |succ t=>exact GU (xs:=xs) (fun y hy=>h y (by simp [hy])) t
theorem JB {h:Nat→Option Ob}{all:List Nat}:∀ (xs:List V) (i:Nat),(KE h all i xs).length=xs.length
 |[],_=>rfl
 |x::xs,i=>by simp [KE,JB xs]
theorem SR {h:Nat→Option Ob}{own:Nat→Nat}{xs:List V}:(KU h own xs).slots.length=xs.length:=by
 unfold KU
 exact JB xs 0
def Is (c:oA):Prop:=∀ h h':Nat→Option Obj,(∀ b x,h b=some x→h' b=some x)→c.FD h→c.FD h'
theorem IE {CL:FuncId→Array Value→World→(Ending→World→Prop)→Prop}(hmono:∀ f a w R R',CL f a w R→(∀ e w',R e w'→R' e w')→CL f a w R'){no:Bool}(hm:Is c)(hg:c.FD g.h){fid:Nat}
  (hrec:∀ sk ds out,rec (.call fid sk ds)=some (true,out)→(no=true→c.CK fid sk ds=none)→FF CL c fid sk ds out) (S:P3 u p g st.h w) (hpq:∀ x,p x→q x) (hfr:iY p q nid) {args0:List V} {vals:List Value} (hF:F2 (VV g) args0 vals) (hu:∀ x∈args0,x.T0 p)
  (h:qS c rec no fid args0 nid st K=some r):∃ fn,c.P.funcs[fid]? = some fn∧fn.body.isSome=true∧∃ vv st1,K vv st1=some r∧CL fid vals.toArray w fun e w'=>∃ v,e = .returned v∧Rc u p q g st w vv st1 v w':=by
 unfold qS at h
 split at h
 ·cases h
 ·rename_i fn hfn
  obtain⟨hb,h⟩:=K1 h
  rw [Bool.not_eq_false',A9] at hb
  have hparams:fn.params.toList.length≤16:=by simpa using B3 hb.2
  have hp0:∀ x,p x→(p x∨(nid+16≤x∧x<nid+16+0)):=fun x hx=> .inl hx
  obtain⟨g1,A1,A2,A3,A4,A5,A6⟩:=Jd (P:=c.P) (own:=c.own fid) (p:=p) (nid:=nid) (fun k hk=>by have:=(hfr (16+k) (by omega)).1;rwa [← Nat.add_assoc] at this) (ts:=fn.params.toList) (i:=0) (xs:=args0) (vals:=vals) (h:=st.h) (g:=g) (by omega)
   (S.more hp0) hF (fun x hx=>(hu x hx).mono hp0)
  have A2':L8 p g g1:=⟨A2.h,fun o ho=>A2.blk o (.inl ho),fun o ho=>A2.hdr o (.inl ho)⟩
  generalize hargs:eG c.P (c.own fid) nid 0 fn.params.toList args0 st.h=ah at h A1 A5 A6
  obtain⟨args,h0⟩:=ah
  simp only [] at h A1 A5 A6
  split at h
  ·cases h
  ·rename_i cf hcf
   obtain⟨hno,h⟩:=K1 h
   have hno':no=true→c.CK fid (KU h0 (c.own fid) args) cf.ds=none:=by
    intro e
    rw [e,Bool.true_and] at hno
    simpa using hno
   unfold H3 at h
   split at h
   ·rename_i out hout
    have hspec:=hrec _ _ _ hout hno' fn hfn
    generalize hsk:KU h0 (c.own fid) args=sk at h hcf hout hspec
    obtain⟨gF,M⟩:=BE (tm:=fun t=>vals.getD t undef) hcf A1 (UI A5) (GU A6) (fun l l' o h=>by cases h)
    have hlen:vals.toArray.size=sk.slots.length:=by
     rw [← hsk,SR];simp [A5.length]
    let p1:Nat→Prop:=fun x=>p x∨(nid+16≤x∧x<nid+32)
    have hpass:Pass u p1 (·<sk.objs.length) gF (tA g1 gF cf.ren) (V4 h0 cf.fz) (M4 E0 sk cf.ds).h w (fun l o=>O4 cf.ren l=some o):=by
     refine⟨M.S,M.Tq A1,fun _ _ h=>h,fun l x0 h0'=>?_⟩
     obtain⟨_,_,o,x,h1,h2,h3⟩:=M.ob l x0 h0'
     refine⟨o,x,h1,by rw [oU _ _ _ (M.lt l o h1).1];exact h2,fun b hb=>?_⟩
     rw [fN M.a (A1.use _ _ h2).1]
     exact h3 b hb
    have hcalls:=hspec (vT (tA g1 gF cf.ren) (M4 E0 sk cf.ds).h w) (tA g1 gF cf.ren) (hm g.h gF.h (fun b x k=>M.a.h b x (A2'.h b x k)) hg) vals.toArray w hlen hpass.Tq (fun t=>⟨by simpa using M.tm t,M.nm t⟩)
    let H9:=cF c.P (c.dres fid) fn.resultTypes.toList sk
    obtain⟨hol,h⟩:=K1 h
    rw [Bool.not_eq_false'] at hol
    have hol:H9.objs.length≤16:=B3 hol
    have hnew:∀ k,k<16→¬ p1 (nid+k)∧q (nid+k):=by
     intro k hk
     refine⟨?_,(hfr k (by omega)).2⟩
     rintro (k1|k1)
     ·exact (hfr k (by omega)).1 k1
     ·omega
    have hpq1:∀ x,p1 x→q x:=by
     intro x hx
     rcases hx with hx|⟨k1,k2⟩
     ·exact hpq x hx
     ·have:=(hfr (x-nid) (by omega)).2
      rwa [show nid+(x-nid)=x from by omega] at this
    have fin:∀ (gH:G) (hold:Nat→Option Ob) (st1:St),P3 u p1 gH hold w→L8 p1 g1 gH→gH.blk=g1.blk→gH.hdr=g1.hdr→(∀ b x,gH.h b=some x→gF.h b=some x)→
      (∀ o x,o∉cf.fz→h0 o=some x→hold o=some x)→((∀ b,gF.h b≠none→gH.h b≠none)∨(zG c.P H9=true∧cS H9 out=true))→I7 H9 out=true→
      st1.h=hold→st1.t=st.t→st1.m=st.m→
      K (merge sk H9 cf.ren (aG 0 sk.objs) nid st1 out).1 (merge sk H9 cf.ren (aG 0 sk.objs) nid st1 out).2=some r→
       ∃ fn,c.P.funcs[fid]? = some fn∧fn.body.isSome=true∧∃ vv st1,K vv st1=some r∧CL fid vals.toArray w fun e w'=>∃ v,e = .returned v∧Rc u p q g st w vv st1 v w':=by
     intro gH hold st1 SH aH bH dH sub hhold hmode hchk e1 e2 e3 hk
     refine⟨fn,hfn,hb.1,_,_,hk,hmono _ _ _ _ _ hcalls ?_⟩
     rintro e w' ⟨v,rfl,g',tm',S1,T1,X1,hkeep,rfl⟩
     refine⟨_,rfl,?_⟩
     obtain⟨g2,m1,m2,m3,m4,m5⟩:=Lb (P:=c.P) (H9:=H9) (nid:=nid) (q:=q) M SH A1 aH bH dH sub hhold hnew hpq1 (Bp _ _ _ _) hol hmode hchk S1 T1 X1 hkeep
     have hm2:(merge sk H9 cf.ren (aG 0 sk.objs) nid st1 out).2.h=mR (AM cf.ren (aG 0 sk.objs) nid) (cI H9 out).h (oS sk cf.ren (aG 0 sk.objs) hold 0 sk.objs) 0 H9.objs:=by rw [← e1];rfl
     refine⟨g2,by rw [hm2];exact m1,⟨fun b x k=>m2.h b x (aH.h b x (A2.h b x k)),fun x hx=>?_,fun x hx=>?_⟩,⟨fun b x k=>m2.h b x (aH.h b x (A2.h b x k)),m3.os,m3.tape,m3.output,m3.size⟩,m4,m5,e2,e3⟩
     ·rw [m2.blk x (.inl hx),aH.blk x (.inl hx),A2'.blk x hx]
     ·rw [m2.hdr x (.inl hx),aH.hdr x (.inl hx),A2'.hdr x hx]
    have gFh:∀ b x,g1.h b=some x→gF.h b=some x:=M.a.h
    cases hfz:cf.fz.isEmpty with
    |true=>
     rw [hfz] at h
     simp only [cond_true] at h
     obtain⟨hchk,h⟩:=H8 h
     have hnil:cf.fz=[]:=by simpa using hfz
     have hS:P3 u p1 gF h0 w:=by have:=M.S;rw [hnil] at this;exact this
     exact fin gF h0 { st with h:=h0 } hS M.a M.blk M.hdr (fun _ _ h=>h) (fun _ _ _ h=>h) (.inl fun _ h=>h) hchk rfl rfl rfl h
    |false=>
     rw [hfz] at h
     simp only [cond_false] at h
     cases hpl:zG c.P (cF c.P (c.dres fid) fn.resultTypes.toList sk) with
     |true=>
      rw [hpl] at h
      simp only [cond_true] at h
      obtain⟨hchk,h⟩:=H8 h
      simp only [A9] at hchk
      exact fin g1 h0 { st with h:=h0 } A1 (L8.refl _ g1) rfl rfl gFh (fun _ _ _ h=>h) (.inr ⟨hpl,hchk.2⟩) hchk.1 rfl rfl rfl h
     |false=>
      rw [hpl] at h
      simp only [cond_false] at h
      obtain⟨hchk,h⟩:=H8 h
      exact fin gF (V4 h0 cf.fz) (St.freeze { st with h:=h0 } cf.fz) M.S M.a M.blk M.hdr (fun _ _ h=>h) (fun o x ho hx=>by rw [oU _ _ _ ho];exact hx) (.inl fun _ h=>h) hchk rfl rfl rfl h
   ·cases h
theorem FR (hm:Is c)(hg:c.FD g.h)(hrec:tB c rec)(S:At u p g st a w)(hpq:∀ x,p x→q x)(hfr:iY p q nid){fid:Nat}{args0:List V}{vals:List Value}(hF:F2 (VV g) args0 vals)(hu:∀ x∈args0,x.T0 p)
  (hrun:∀ fn,c.P.funcs[fid]? = some fn→fn.body.isSome=true→(execOp a.eval o).run c.P w = .ok (.enter fid vals.toArray) w)
  (h:qS c rec false fid args0 nid st K=some r):Goal u p q g st a w c.P o K r:=by
 obtain⟨fn,hfn,hb,vv,st1,hk,hc⟩:=IE (CL:=Calls c.P) (fun f a w R R' h hr=>h.mono hr) hm hg (fun sk ds out h _=>(hrec _ _ _ _ h).1) S.hp hpq hfr hF hu h
 exact⟨vv,st1,hk,.inr (.inr ⟨fid,vals.toArray,w,hrun fn hfn hb,hc⟩)⟩
end
end Go.AE
namespace Go.AE
open Go.RowKit
section
variable {u:Nat→Option Obj} {p q:Nat→Prop} {g:G} {st:St} {a:Act} {w:World} {c:oA} {o:Oper} {R:Type} {K:V→St→Option R} {r:R} {nid:Nat} {rec:Task→Out}
def Cw (c:oA):Prop:=∀ (f:Nat) (ds r:List D),c.ext f ds=some (true,r)→∀ (g:G) (vals:Array Value) (w:World),F2 (VV g) (ds.map V.d) vals.toList→
 ∃ v,(callFunc f vals).run c.P w = .ok (.value v) w∧VV g (UN (r.map V.d)) v
def VZ (c:oA):Prop:=∀ (n:Nat) (xs:List D),c.glob n=some xs→∀ h,c.FD h→Aa h 1 xs ⟨n,0,none⟩
def Ip (c:oA):Prop:=∀ f,c.cc f=true→∀ e off,c.bld e=some off→∀ (w:World) (b:Nat) (cells:Array Value) (v0:Value),w.heap[b]? = some (.cells cells e (0,0))→cells.size=L6 c.P e→cells.toList[off]? = some v0→
 (v0 = .pointer none∨v0 = .pointer (some ⟨b,off,none⟩))→(∃ fn,c.P.funcs[f]? = some fn∧fn.body.isSome=true)∧Calls c.P f #[.pointer (some ⟨b,off,none⟩)] w fun ex w'=>ex = .returned (.tuple #[])∧
  (w'=w∨w'=w.setRow b (cells.setIfInBounds off (.pointer (some ⟨b,off,none⟩))))
def VX (c:oA):Prop:=∀ f,c.bstr f=true→∀ e off,c.bld e=some off→∀ (w:World) (b:Nat) (cells:Array Value) (v:Value) (l:F9),w.heap[b]? = some (.cells cells e (0,0))→cells.toList[off+1]? = some v→
 w.ownsRow 0 c.bty 1 v l.length (l.map fun x=>Value.int .u8 x.toNat)→v.ownBlock≠some b→l.length≤maxLen→
 (∃ fn,c.P.funcs[f]? = some fn∧fn.body.isSome=true)∧Calls c.P f #[.pointer (some ⟨b,off,none⟩)] w fun ex w'=>ex = .returned (.string ⟨l.toArray⟩)∧w'.os=w.os∧w'.tape=w.tape∧w'.output=w.output∧w.heap.size≤w'.heap.size∧
  ∀ k,k<w.heap.size→some k≠v.ownBlock→w'.heap[k]? = w.heap[k]?
def fP (c:oA):Prop:=(∀ (f:Nat) (fn:Func),c.P.funcs[f]? = some fn→(fn.name=="runtime.NumGoroutine")=false)∧Cw c∧Is c∧VZ c∧Ip c∧VX c
theorem Dk (S:At u p g st a w):∀ xs:List Operand,F2 (VV g) (xs.map (K2 st)) (xs.map a.eval)
 |[]=> .nil
 |x::xs=> .cons (S.ev x) (Dk S xs)
theorem HD (hn:fP c){fid:Nat}{fn:Func}(hf:c.P.funcs[fid]? = some fn)(hb:fn.body.isSome=true){q:Call}{fo:Operand}(ho:o.op = .call q)(hc:q.callee = .value fo){caps:Array Value}(hv:a.eval fo = .func (.func fid) #[] caps) :
  (execOp a.eval o).run c.P w = .ok (.enter fid (q.args.map a.eval++caps)) w:=by
 have hname:=hn.1 fid fn hf
 have hname:fn.name≠"runtime.NumGoroutine":=by simpa using hname
 have hbn:fn.body≠none:=by intro h;rw [h] at hb;cases hb
 simp only [execOp,ho,resolve,hc,hv,Deferred.ofValue]
 simp [invoke,callFunc,hf,hname,hbn]
theorem F2.Wd {α β:Type}{R:α→β→Prop}{zs:List α}{bs:List β}(h:F2 R zs bs):∀ {j:Nat} {a:α} {b:β},zs[j]? = some a→R a b→F2 R zs (bs.set j b):=by
 induction h with
 |nil=>intro j a b hb;simp at hb
 |cons hr hs ih=>
  intro j a b hb ha
  cases j with
  |zero=>simp at hb;subst hb;exact .cons ha hs
  |succ j=>exact .cons hr (ih (by simpa using hb) ha)
theorem AS:∀ {xs:List D} {us:List Value} {h:Nat→Option Obj},KB xs=true→mY h 1 xs us→us=(xs.map toByte).map fun x=>Value.int .u8 x.toNat
 |[],us,h,_,hv=>by cases hv;rfl
 | .int .u8 n::xs,us,h,hb,hv=>by
  simp only [KB,A9,decide_eq_true_eq] at hb
  obtain⟨v,r,rfl,_,_,hv1,hv2⟩:=hv
  have hv1:v = .int .u8 n:=hv1
  subst hv1
  have e:((UInt8.ofNat n.toNat).toNat:Int)=n:=by
   rw [UInt8.toNat_ofNat_of_lt' (by show n.toNat<256;omega)]
   omega
  rw [AS hb.2 hv2]
  simp only [List.map_cons,toByte,e]
  rfl
theorem Mr (hcc:Ip c)(hbs:VX c)(S:P3 u p g st.h w)(hpq:∀ x,p x→q x){fid:Nat}{args:List V}{vals:List Value}{vv:V}{st':St}(hF:F2 (VV g) args vals)(hx:Mq c fid args st=some (true,vv,st')) :
  (∃ fn,c.P.funcs[fid]? = some fn∧fn.body.isSome=true)∧Calls c.P fid vals.toArray w fun ex w'=>∃ v,ex = .returned v∧Rc u p q g st w vv st' v w':=by
 unfold Mq at hx
 split at hx
 ·rename_i o off
  split at hx
  ·rename_i cs hcs
   split at hx
   ·rename_i t o' f hbp
    replace hx:=H8 hx
    obtain⟨hb,hx⟩:=hx
    simp only [A9] at hb
    obtain⟨⟨⟨hb1,hb2⟩,hb3⟩,hb4⟩:=hb
    have ho:o'=o:=B0 hb1
    have hf:f=off:=B0 hb2
    subst ho;subst hf
    have hbld:c.bld t=some f:=by
     split at hb3
     ·rename_i k hk
      rw [hk,B0 hb3]
     ·cases hb3
    obtain⟨cells,e,hbk,hFc,h1,h2⟩:=S.ob _ _ hcs
    have he:e=t:=h2 _ _ _ (List.mem_of_getElem? hbp)
    subst he
    have hsz:cells.size=L6 c.P e:=by rw [← E2,← hFc.length];exact B0 hb4
    obtain⟨v0,hv0,hr0⟩:=hFc.get f _ hbp
    have hr0:v0 = .pointer none∨v0 = .pointer (some ⟨g.blk o',f,none⟩):=hr0
    cases hF with
    |cons ha hF=>
    cases hF
    have ha:=FG ha
    subst ha
    have hpo:p o':=(S.use _ _ hcs).1
    cases hc1:c.cc fid with
    |true=>
     rw [hc1] at hx
     simp only [cond_true,B1,C7,true_and] at hx
     obtain⟨rfl,rfl⟩:=hx
     obtain⟨hfn,hcall⟩:=hcc fid hc1 e f hbld w (g.blk o') cells v0 hbk hsz hv0 hr0
     refine⟨hfn,hcall.mono fun ex w' ⟨hex,hw⟩=>⟨_,hex,?_⟩⟩
     have hV:VV g (.tup []) (.tuple #[]):=⟨#[],rfl,.nil⟩
     rcases hw with rfl|rfl
     ·exact⟨g,S.more hpq,L8.refl p g,Ext.refl g _,hV,(fun z hz=>by cases hz),rfl,rfl⟩
     ·have hn:VA g (.bp e o' f) (.pointer (some ⟨g.blk o',f,none⟩)):=Or.inr rfl
      have hsim:=vK (h':=st.h) (cs':=cs) (c':=cells.setIfInBounds f (.pointer (some ⟨g.blk o',f,none⟩))) S hcs hbk (by rw [Array.toList_setIfInBounds];exact hFc.Wd hbp hn)
       (by
        intro y hy
        rw [Array.toList_setIfInBounds] at hy
        rcases List.mem_or_eq_of_mem_set hy with hy|rfl
        ·exact h1 y hy
        ·rfl) (S.use _ _ hcs).2 h2 (fun x=>by
         by_cases e:x=o'
         ·subst e;rw [if_pos rfl];exact hcs
         ·rw [if_neg e])
      exact⟨g,hsim.more hpq,L8.refl p g,nP (L8.refl p g) _ _,hV,(fun z hz=>by cases hz),rfl,rfl⟩
    |false=>
     rw [hc1] at hx
     simp only [cond_false] at hx
     cases hc2:c.bstr fid with
     |false=>rw [hc2] at hx;cases hx
     |true=>
      rw [hc2] at hx
      simp only [cond_true] at hx
      split at hx
      ·rename_i ro hro
       split at hx
       ·rename_i e2 sz xs hrow
        simp only [B1,C7,A9] at hx
        obtain⟨hb,hx⟩:=hx
        obtain⟨⟨k1,k2⟩,k3⟩:=hb
        have k2:sz=1:=B0 k2
        have k3:e2=c.bty:=B0 k3
        subst k2;subst k3
        obtain⟨rfl,rfl⟩:=hx
        obtain⟨v1,hv1,hr1⟩:=hFc.get (f+1) _ hro
        have hr1:v1=g.hdr ro:=hr1.1
        subst hr1
        obtain⟨us,hpos,hown,hf⟩:=S.ob _ _ hrow
        have hus:=AS k1 hf
        subst hus
        have hne:(g.hdr ro).ownBlock≠some (g.blk o'):=by
         intro e
         have:=S.inj ro o' _ _ (g.blk o') hrow hcs e rfl
         subst this
         rw [hrow] at hcs;cases hcs
        have hml:xs.length≤maxLen:=by
         rcases S4 hown with ⟨_,h0,_⟩|⟨_,cap,_,_,_,_,h4,h5,_⟩
         ·rw [h0];exact C4 _
         ·omega
        obtain⟨hfn,hcall⟩:=hbs fid hc2 e f hbld w (g.blk o') cells _ (xs.map toByte) hbk hv1 (by rw [List.length_map];exact hown) hne (by rw [List.length_map];exact hml)
        refine⟨hfn,hcall.mono fun ex w' ⟨hex,a1,a2,a3,a4,a5⟩=>⟨_,hex,g,?_,L8.refl p g,⟨fun _ _ h=>h,a1,a2,a3,a4⟩,⟨_,rfl,rfl⟩,trivial,rfl,rfl⟩⟩
        refine S.update (L8.refl p g) rfl (g.hdr ro).ownBlock a5 (fun b hb=>S.sep ro _ b hrow hb) hpq ro ?_ ?_
        ·intro o1 x hx hne1
         rw [Q8,if_neg hne1] at hx
         exact⟨hx,fun b hb e=>hne1 (S.inj o1 ro _ _ b hx hrow hb e.symm)⟩
        ·intro x hx
         rw [Q8,if_pos rfl] at hx
         cases hx
       ·cases hx
      ·cases hx
   ·cases hx
  ·cases hx
 ·cases hx
theorem Qd (hn:fP c)(hg:c.FD g.h)(hrec:tB c rec)(S:At u p g st a w)(hpq:∀ x,p x→q x)(hfr:iY p q nid){q':Call}{fo:Operand}(ho:o.op = .call q')(hc:q'.callee = .value fo)
  (h:QC c rec (K2 st fo) (q'.args.toList.map (K2 st)) nid st K=some r):Goal u p q g st a w c.P o K r:=by
 have hvf:=S.ev fo
 have huf:=S.Z7 fo
 have hargs:=Dk S q'.args.toList
 have hua:∀ x∈q'.args.toList.map (K2 st),x.T0 p:=fun x hx=>by obtain⟨y,_,rfl⟩:=List.mem_map.1 hx;exact S.Z7 y
 unfold QC at h
 split at h
 ·rename_i fid he
  rw [he] at hvf
  split at h
  ·rename_i b1 vv1 st1 hx
   obtain⟨hb1,h⟩:=H8 h
   subst hb1
   obtain⟨⟨fn,hfn,hbd⟩,hc1⟩:=Mr hn.2.2.2.2.1 hn.2.2.2.2.2 S.hp hpq (vals:=q'.args.toList.map a.eval) hargs hx
   refine⟨vv1,st1,h,.inr (.inr ⟨fid,(q'.args.toList.map a.eval).toArray,w,?_,hc1⟩)⟩
   rw [HD hn hfn hbd ho hc hvf]
   congr 2
   apply Array.ext'
   simp
  split at h
  ·rename_i b r' hx
   split at hx
   ·rename_i ds hds
    obtain⟨hb,h⟩:=H8 h
    subst hb
    have hl:=CU hds
    rw [hl] at hargs
    obtain⟨v,h1,h2⟩:=hn.2.1 fid ds r' hx g (q'.args.map a.eval) w (by simpa using hargs)
    refine Goal.val S hpq h (v:=v) ?_ h2 ?_
    ·simp only [execOp,ho,resolve,hc,show a.eval fo=_ from hvf,Deferred.ofValue]
     simp [invoke,h1]
    ·cases r' with
     |nil=>intro z hz;cases hz
     |cons x r'=>cases r' with
      |nil=>trivial
      |cons y r'=>intro z hz;obtain⟨d,_,rfl⟩:=List.mem_map.1 (show z∈(x::y::r').map V.d from hz);trivial
   ·cases hx
  refine FR hn.2.2.1 hg hrec S hpq hfr hargs hua (fun fn hf hb=>?_) h
  rw [HD hn hf hb ho hc hvf]
  congr 2
  apply Array.ext'
  simp
 ·rename_i fid caps he
  rw [he] at hvf huf
  have hcaps:∃ us:Array Value,a.eval fo = .func (.func fid) #[] us∧F2 (VV g) caps us.toList∧∀ x∈caps,x.T0 p:=by
   cases caps with
   |nil=>exact⟨#[],hvf,.nil,fun x hx=>by cases hx⟩
   |cons c0 caps=>
    obtain⟨us,h1,h2⟩:=hvf
    refine⟨us,h1,h2.mono fun _ _ _ h=>eF (jF h),fun x hx=>?_⟩
    obtain⟨b,_,hb⟩:=h2.mem x hx
    exact cM (lZ hb (huf x hx))
  obtain⟨us,h1,h2,h3⟩:=hcaps
  refine FR hn.2.2.1 hg hrec S hpq hfr (hargs.append h2) (fun x hx=>?_) (fun fn hf hb=>?_) h
  ·rcases D3.1 hx with hx|hx
   ·exact hua x hx
   ·exact h3 x hx
  ·rw [HD hn hf hb ho hc h1]
   congr 2
   apply Array.ext'
   simp
 ·cases h
theorem Bi (S:At u p g st a w)(hpq:∀ x,p x→q x)(hfr:iY p q nid){q':Call}{b:Builtin}(ho:o.op = .call q')(hc:q'.callee = .builtin b)
  (h:qN c b q'.argTypes (q'.args.toList.map (K2 st)) nid st K=some r):Goal u p q g st a w c.P o K r:=by
 unfold qN at h
 have one:∀ v,q'.args.toList.map (K2 st)=[v]→∃ x,q'.args=#[x]∧K2 st x=v:=by
  intro v hv
  cases ha:q'.args.toList with
  |nil=>rw [ha] at hv;cases hv
  |cons x xs=>
   rw [ha] at hv
   simp only [List.map_cons,List.cons.injEq,List.map_eq_nil_iff] at hv
   obtain⟨h1,h2⟩:=hv
   subst h2
   exact⟨x,by apply Array.ext';simpa using ha,h1⟩
 have two:∀ v v',q'.args.toList.map (K2 st)=[v,v']→∃ x y,q'.args=#[x,y]∧K2 st x=v∧K2 st y=v':=by
  intro v v' hv
  cases ha:q'.args.toList with
  |nil=>rw [ha] at hv;cases hv
  |cons x xs=>
   rw [ha] at hv
   simp only [List.map_cons,List.cons.injEq] at hv
   obtain⟨h1,h2⟩:=hv
   cases xs with
   |nil=>cases h2
   |cons y ys=>
    simp only [List.map_cons,List.cons.injEq,List.map_eq_nil_iff] at h2
    obtain⟨h2,h3⟩:=h2
    subst h3
    exact⟨x,y,by apply Array.ext';simpa using ha,h1,h2⟩
 split at h
 ·rename_i x hx
  obtain⟨x',h1,rfl⟩:=one _ hx
  split at h
  ·rename_i t ht
   exact Tf S hpq ho hc h1 rfl ht h
  ·cases h
 ·rename_i s x hx
  obtain⟨x',y',h1,rfl,rfl⟩:=two _ _ hx
  split at h
  ·rename_i t t' hts
   cases htb:Nat.beq t t' with
   |true=>
    rw [htb] at h
    simp only [cond_true] at h
    have htt:t=t':=beq_iff.1 htb
    rw [← htt] at hts
    exact Hg S hpq hfr ho hc h1 (by apply Array.ext';simpa using hts) h
   |false=>
    rw [htb] at h
    simp only [cond_false] at h
    obtain⟨hst,h⟩:=H8 h
    split at h
    ·rename_i s' hs'
     have hu:c.P.underlying t'=some .string:=by
      split at hst
      ·rename_i k;exact k
      ·cases hst
     exact Bh S hpq hfr ho hc h1 (by apply Array.ext';simpa using hts) hu hs' h
    ·cases h
  ·cases h
 ·rename_i d x hx
  obtain⟨x',y',h1,rfl,rfl⟩:=two _ _ hx
  split at h
  ·rename_i t t' hts
   split at h
   ·rename_i e he
    obtain⟨hb,h⟩:=H8 h
    simp only [A9] at hb
    exact Qe S hpq ho hc h1 rfl (by apply Array.ext';simpa using hts) he hb.1 h (beq_iff.1 hb.2)
   ·cases h
  ·cases h
 ·rename_i x hx
  obtain⟨x',h1,rfl⟩:=one _ hx
  split at h
  ·rename_i t hts
   exact Lq S hpq ho hc h1 (by apply Array.ext';simpa using hts) h
  ·cases h
 ·rename_i k n k' m hx
  obtain⟨x',y',h1,h2,h3⟩:=two _ _ hx
  obtain⟨hb,h⟩:=H8 h
  exact (RJ S hpq ho hc h1 h2 h3 (E5 hb)).1 rfl h
 ·rename_i k n k' m hx
  obtain⟨x',y',h1,h2,h3⟩:=two _ _ hx
  obtain⟨hb,h⟩:=H8 h
  exact (RJ S hpq ho hc h1 h2 h3 (E5 hb)).2 rfl h
 ·cases h
theorem Bl (hn:VZ c)(hg:c.FD g.h)(S:At u p g st a w)(hpq:∀ x,p x→q x){x i:Operand}{t:TypeId}(ho:o.op = .indexAddr t x i)
  (h:oW c t x (K2 st x) (K2 st i) st K=some r):Goal u p q g st a w c.P o K r:=by
 unfold oW at h
 split at h
 ·rename_i n
  have hvi:=S.ev i
  split at h
  ·rename_i xs len e k m hx ht hi
   obtain⟨hb,h⟩:=H8 h
   simp only [A9,decide_eq_true_eq] at hb
   obtain⟨⟨⟨⟨h1,h2⟩,h3⟩,h4⟩,h5⟩:=hb
   rw [hi] at hvi
   have hvi:=sP hvi
   obtain⟨d,info,hd,hinfo,_,hsz⟩:=gS h1
   have hl:len=xs.length:=B0 h3
   have hs:L6 c.P e=1:=B0 h2
   have hE:c.P.elem t=e:=by simp [Program.elem,ht]
   have hL:c.P.arrayLen t=len:=by simp [Program.arrayLen,ht]
   have run:(execOp a.eval o).run c.P w = .ok (.value (.pointer (some ((⟨n,0,none⟩:Addr).add (m.toNat*1))))) w:=by
    have e0:a.eval (.global n) = .pointer (some ⟨n,0,none⟩):=rfl
    simp only [execOp,ho,e0,hvi]
    simp [run_indexAt_array w t ⟨n,0,none⟩ k m (by rw [hL,hE];exact ht),h4,hL,hl,h5,hE,fY hinfo,← hsz,hs]
   refine Goal.val S hpq h run ?_ trivial
   exact⟨⟨n,0,none⟩,hn n xs hx _ hg,by omega,by rw [Nat.add_zero]⟩
  ·cases h
 ·split at h
  ·rename_i vo off k m hx hi
   have hvx:=S.ev x
   have hux:=S.Z7 x
   have hvi:=S.ev i
   rw [hx] at hvx hux
   rw [hi] at hvi
   have hvi:=sP hvi
   have hvx:a.eval x = .pointer (some ⟨g.blk vo,off,none⟩):=hvx
   unfold JU at h
   split at h
   ·rename_i len e ht
    obtain⟨hb,h⟩:=H8 h
    simp only [A9,decide_eq_true_eq] at hb
    obtain⟨⟨h1,h4⟩,h5⟩:=hb
    obtain⟨d,info,hd,hinfo,_,hsz⟩:=gS h1
    have hE:c.P.elem t=e:=by simp [Program.elem,ht]
    have hL:c.P.arrayLen t=len:=by simp [Program.arrayLen,ht]
    have run:(execOp a.eval o).run c.P w = .ok (.value (.pointer (some ((⟨g.blk vo,off,none⟩:Addr).add (m.toNat*L6 c.P e))))) w:=by
     simp only [execOp,ho,hvx,hvi]
     simp [run_indexAt_array w t ⟨g.blk vo,off,none⟩ k m (by rw [hL,hE];exact ht),h4,hL,h5,hE,fY hinfo,← hsz]
    rw [K9] at run
    exact Goal.val S hpq h run rfl hux
   ·cases h
  ·exact UP S hpq ho h
theorem MW {P:Program}{t f:Nat}{nm:String}(h:EE P t nm=some f):∃ i d m,P.info? t=some i∧P.underlying t=some d∧(∀ e,d≠ .pointer e)∧i.methods.find? (·.name==nm)=some m∧m.path=#[]∧m.func=some (f,false):=by
 unfold EE at h
 split at h
 ·cases h
 ·rename_i i d hnp hi hd
  split at h
  ·rename_i m hm
   obtain⟨hp,h⟩:=H8 h
   split at h
   ·rename_i f' hf
    cases h
    exact⟨i,d,m,hi,hd,fun e he=>hnp e he,hm,by simpa using hp,hf⟩
   ·cases h
  ·cases h
 ·cases h
theorem YT {P:Program}{t f k:Nat}{nm:String}{v:Value}{w:World}{i:TypeInfo}{m:Method}{d:TypeDesc}(hd:P.underlying t=some d)(hnp:∀ e,d≠ .pointer e)(hi:P.info? t=some i)(hm:i.methods.find? (·.name==nm)=some m)(hp:m.path=#[])(hf:m.func=some (f,false)):(method (k+1) t v nm).run P w = .ok (f,v) w:=by
 have ht:(typeInfo t).run P w = .ok i w:=by simp [typeInfo,hi]
 have h1:∀ x,(receiverAt t (.val v) false x).run P w = .ok v w:=by
  intro x
  unfold receiverAt
  simp only [Sem.run_bind,run_underlying hd,Result.andThen_ok]
  cases d with
  |pointer e=>exact absurd rfl (hnp e)
  |_=>rfl
 have h2:(follow m.path.toList t (Place.val v)).run P w = .ok (t,Place.val v) w:=by rw [hp];rfl
 unfold method
 rw [Sem.run_bind,ht]
 simp only [Result.andThen_ok,hm]
 rw [Sem.run_bind,h2]
 simp only [Result.andThen_ok,hf]
 rw [Sem.run_bind,h1]
 rfl
theorem PH {P:Program}{t f k:Nat}{nm:String}{v:Value}{w:World}{i:TypeInfo}{m:Method}{d:TypeDesc}(hd:P.underlying t=some d)(hnp:∀ e,d≠ .pointer e)(hi:P.info? t=some i)(hm:i.methods.find? (·.name==nm)=some m)(hp:m.path=#[])(hf:m.func=some (f,false)):(nilAhead (k+1) t v nm).run P w = .ok (some false) w:=by
 have ht:(typeInfo t).run P w = .ok i w:=by simp [typeInfo,hi]
 have h2:(followBlind m.path.toList t (some v)).run P w = .ok (.ok (t,some v)) w:=by rw [hp];rfl
 unfold nilAhead
 rw [Sem.run_bind,ht]
 simp only [Result.andThen_ok,hm]
 rw [Sem.run_bind,h2]
 simp only [Result.andThen_ok,hf]
 rw [Sem.run_bind,run_underlying hd]
 simp only [Result.andThen_ok]
 cases d with
 |pointer e=>exact absurd rfl (hnp e)
 |_=>rfl
theorem Cd {P:Program}{t f k:Nat}{nm:String}{v:Value}(h:EE P t nm=some f):(method (k+1) t v nm).run P w = .ok (f,v) w:=by
 obtain⟨i,d,m,hi,hd,hnp,hm,hp,hf⟩:=MW h
 exact YT hd hnp hi hm hp hf
theorem VJ {P:Program}{t f k:Nat}{nm:String}{v:Value}(h:EE P t nm=some f):(nilAhead (k+1) t v nm).run P w = .ok (some false) w:=by
 obtain⟨i,d,m,hi,hd,hnp,hm,hp,hf⟩:=MW h
 exact PH hd hnp hi hm hp hf
theorem Hl (S:At u p g st a w)(hpq:∀ x,p x→q x){nm:String}{first captured:Array Operand}(ho:o.op = .makeFunc (.method nm) first captured){r0:Operand}(hf:first.toList=[r0])(hc:captured.isEmpty=true){t:Nat}{d:D}(hx:K2 st r0 = .d (.iface t d))
  (h:K (.d (.meth t nm d)) st=some r):Goal u p q g st a w c.P o K r:=by
 have hv:=S.ev r0
 rw [hx] at hv
 obtain⟨u',hu,hd⟩:=hv
 have e1:first=#[r0]:=by apply Array.ext';simpa using hf
 have e2:captured=#[]:=by simpa using hc
 have run:(execOp a.eval o).run c.P w = .ok (.value (.func (.method nm) #[.iface t u'] #[])) w:=by
  simp only [execOp,ho,e1,e2]
  simp [Instr.makeFunc,hu]
 exact Goal.val S hpq h run ⟨u',rfl,hd⟩ trivial
theorem US (S:At u p g st a w)(hpq:∀ x,p x→q x){x:Operand}(ho:o.op = .nilCheck x){t:Nat}{nm:String}{d:D}(hx:K2 st x = .d (.meth t nm d))(hm:(EE c.P t nm).isSome=true)
  (h:K (.d (.meth t nm d)) st=some r):Goal u p q g st a w c.P o K r:=by
 have hv:=S.ev x
 rw [hx] at hv
 obtain⟨u',hu,hd⟩:=hv
 obtain⟨f,hf⟩:=Option.isSome_iff_exists.1 hm
 have run:(execOp a.eval o).run c.P w = .ok (.value (a.eval x)) w:=by
  have hn:=VJ (w:=w) (k:=c.P.types.size+(Made.depth-1)) (v:=u') hf
  have e:c.P.types.size+(Made.depth-1)+1=c.P.types.size+Made.depth:=by simp [Made.depth]
  rw [e] at hn
  simp only [execOp,ho,hu]
  simp [hn]
 rw [hu] at run
 exact Goal.val S hpq h run ⟨u',rfl,hd⟩ trivial
theorem Cb (hn:fP c){fid t:Nat}{fn:Func}{nm:String}{u':Value}(hf:c.P.funcs[fid]? = some fn)(hb:fn.body.isSome=true){q:Call}{x:Operand}(ho:o.op = .call q)(hc:q.callee = .invoke x nm)(hv:a.eval x = .iface t u')(hm:EE c.P t nm=some fid) :
  (execOp a.eval o).run c.P w = .ok (.enter fid (#[u']++q.args.map a.eval)) w:=by
 have hname:=hn.1 fid fn hf
 have hname:fn.name≠"runtime.NumGoroutine":=by simpa using hname
 have hbn:fn.body≠none:=by intro h;rw [h] at hb;cases hb
 have hr:=Cd (w:=w) (k:=c.P.types.size+(Made.depth-1)) (v:=u') hm
 have e:c.P.types.size+(Made.depth-1)+1=c.P.types.size+Made.depth:=by simp [Made.depth]
 rw [e] at hr
 have h0:(#[Value.iface t u']++Array.map a.eval q.args)[0]? = some (.iface t u'):=by
  rw [Array.getElem?_append_left (by simp)];rfl
 simp only [execOp,ho,resolve,hc,hv]
 simp only [Sem.run_bind,Sem.run_pure,Result.andThen_ok,invoke,h0]
 have hx:(q.args.map a.eval).extract 0 q.args.size=q.args.map a.eval:=by
  apply Array.ext'
  simp only [Array.toList_extract,Array.toList_map,List.extract_eq_take_drop,List.drop_zero,Nat.sub_zero]
  exact List.take_of_length_le (by simp)
 simp [callMethod,hr,callFunc,hf,hname,hbn,hx]
theorem Hj (hn:fP c)(hg:c.FD g.h)(hrec:tB c rec)(S:At u p g st a w)(hpq:∀ x,p x→q x)(hfr:iY p q nid){q':Call}{x:Operand}{nm:String}(ho:o.op = .call q')(hc:q'.callee = .invoke x nm){t fid:Nat}{d:D}(hx:K2 st x = .d (.iface t d))(hm:EE c.P t nm=some fid)
  (h:qS c rec false fid (.d d::q'.args.toList.map (K2 st)) nid st K=some r):Goal u p q g st a w c.P o K r:=by
 have hv:=S.ev x
 rw [hx] at hv
 obtain⟨u',hu,hd⟩:=hv
 have hargs:=Dk S q'.args.toList
 have hua:∀ x∈q'.args.toList.map (K2 st),x.T0 p:=fun x hx=>by obtain⟨y,_,rfl⟩:=List.mem_map.1 hx;exact S.Z7 y
 refine FR (vals:=u'::q'.args.toList.map a.eval) hn.2.2.1 hg hrec S hpq hfr (.cons (show VV g (.d d) u' from hd) hargs) (fun y hy=>?_) (fun fn hf hb=>?_) h
 ·rcases B7.1 hy with rfl|hy
  ·trivial
  ·exact hua y hy
 ·rw [Cb hn hf hb ho hc hu hm]
  congr 2
  apply Array.ext'
  simp
theorem Lt (S:At u p g st a w)(hpq:∀ x,p x→q x){x:Operand}{t:TypeId}(ho:o.op = .makeInterface t x){d:D}{ds:TypeDesc}(ht:c.P.underlying t=some ds)(hni:∀ i,ds≠ .interface i)(hx:K2 st x = .d d)
  (h:K (.d (.iface t d)) st=some r):Goal u p q g st a w c.P o K r:=by
 have hv:=S.ev x
 rw [hx] at hv
 have run:(execOp a.eval o).run c.P w = .ok (.value (.iface t (a.eval x))) w:=by
  simp only [execOp,ho]
  have:(Instr.makeInterface t (a.eval x)).run c.P w = .ok (.iface t (a.eval x)) w:=by
   simp only [Instr.makeInterface,Sem.run_bind,run_underlying ht,Result.andThen_ok]
   cases ds<;>first|rfl|exact absurd rfl (hni _)
  simp [this]
 exact Goal.val S hpq h run ⟨_,rfl,hv⟩ trivial
theorem Hi (S:At u p g st a w)(hpq:∀ x,p x→q x){x:Operand}{t:TypeId}(ho:o.op = .makeInterface t x){d:D}{fz:List Nat}{ds:TypeDesc}(ht:c.P.underlying t=some ds)(hni:∀ i,ds≠ .interface i)(hx:Qv st.h (K2 st x)=some (d,fz))
  (h:K (.d (.iface t d)) (st.freeze fz)=some r):Goal u p q g st a w c.P o K r:=by
 have run:(execOp a.eval o).run c.P w = .ok (.value (.iface t (a.eval x))) w:=by
  simp only [execOp,ho]
  have:(Instr.makeInterface t (a.eval x)).run c.P w = .ok (.iface t (a.eval x)) w:=by
   simp only [Instr.makeInterface,Sem.run_bind,run_underlying ht,Result.andThen_ok]
   cases ds<;>first|rfl|exact absurd rfl (hni _)
  simp [this]
 obtain⟨g1,a1,b1,c1,s1⟩:=S.hp.freeze fz
 have hv:=CE (S.ev x) (S.Z7 x) hx (fun o ho=>ho) a1 s1
 exact Goal.res h run (s1.more hpq) a1 ⟨a1.h,rfl,rfl,rfl,B9 _⟩ ⟨_,rfl,hv⟩ trivial rfl rfl
theorem YK (hn:fP c)(hg:c.FD g.h)(hrec:tB c rec)(S:At u p g st a w)(hpq:∀ x,p x→q x)(hfr:iY p q nid)(h:Im c rec o nid st K=some r):Goal u p q g st a w c.P o K r:=by
 unfold Im at h
 simp only [] at h
 split at h
 ·rename_i x ho
  rw [nQ] at h
  exact⟨_,_,h,Dz S hpq (.inl ho)⟩
 ·rename_i x ho;exact Hh S hpq hfr ho h
 ·rename_i x y z ho
  split at h
  ·rename_i b hb
   have hp:=Qh (P:=c.P) S hpq ho hb
   cases b with
   |true=>simp only [cond_true] at h;rw [nQ] at h;exact⟨_,_,h,by simpa using hp⟩
   |false=>simp only [cond_false] at h;rw [nQ] at h;exact⟨_,_,h,by simpa using hp⟩
  ·cases h
 ·rename_i t ho;exact Ln S hpq hfr ho h
 ·rename_i t x ho;exact Te S hpq hfr ho h
 ·rename_i t ps ho;exact Lp S hpq ho h
 ·rename_i t n ps ho;exact PA S hpq hfr ho h
 ·rename_i t x ho;exact Qf S hpq ho h
 ·rename_i t x y ho;exact Lw S hpq hfr ho h
 ·rename_i x ho
  split at h
  ·rename_i q f he;have:=pB (P:=c.P) S hpq ho (.inl ⟨q,f,he⟩);rw [he] at this;exact⟨_,_,h,this⟩
  ·rename_i sz xs i f he;have:=pB (P:=c.P) S hpq ho (.inr (.inl ⟨sz,xs,i,f,he⟩));rw [he] at this;exact⟨_,_,h,this⟩
  ·rename_i q sz i f he;have:=pB (P:=c.P) S hpq ho (.inr (.inr (.inl ⟨q,sz,i,f,he⟩)));rw [he] at this;exact⟨_,_,h,this⟩
  ·rename_i f he;have:=pB (P:=c.P) S hpq ho (.inr (.inr (.inr (.inl ⟨f,he⟩))));rw [he] at this;exact⟨_,_,h,this⟩
  ·rename_i f cs he;have:=pB (P:=c.P) S hpq ho (.inr (.inr (.inr (.inr ⟨f,cs,he⟩))));rw [he] at this;exact⟨_,_,h,this⟩
  ·rename_i t nm d he
   obtain⟨hm,h⟩:=H8 h
   exact US S hpq ho he hm h
  ·cases h
 ·rename_i op t x y z ho
  split at h
  ·rename_i d e hx hy;exact Lo (b:=true) S hpq ⟨z,ho⟩ hx hy h
  ·cases h
 ·rename_i op t x ho
  split at h
  ·rename_i d hx;exact Qi S hpq ho hx h
  ·cases h
 ·rename_i src dst x ho;exact Bj S hpq ho h
 ·rename_i nm first captured ho
  split at h
  ·rename_i r0 hf
   obtain⟨hc,h⟩:=H8 h
   split at h
   ·rename_i t d hx
    exact Hl S hpq ho hf hc hx h
   ·cases h
  ·cases h
 ·rename_i f first captured ho;exact YI S hpq ho h
 ·rename_i t x k ho
  split at h
  ·rename_i off ft hf
   obtain⟨hb,h⟩:=H8 h
   exact UO S hpq ho hf hb h
  ·cases h
 ·rename_i t x k ho
  split at h
  ·rename_i off ft hf
   obtain⟨hb,h⟩:=K1 h
   exact Ls S hpq ho hf (by simpa using hb) h
  ·cases h
 ·rename_i t x i ho;exact Bl hn.2.2.2.1 hg S hpq ho h
 ·rename_i t x i ho
  split at h
  ·rename_i s k n ht hx hi
   obtain⟨hb,h⟩:=H8 h
   exact UQ S hpq ho ht hx hi hb h
  ·cases h
 ·rename_i t x y ho;exact Qg S hpq hfr ho h
 ·rename_i t r' ho
  split at h
  ·exact Bm S hpq hfr ho h
  ·cases h
 ·rename_i t x y ok ho;exact Hk S hpq ho h
 ·rename_i t x y ho;exact YJ S hpq ho h
 ·rename_i t x y z ho;exact PB S hpq ho h
 ·rename_i t x ho;exact Lu S hpq hfr ho h
 ·rename_i x ho;exact Lr S hpq ho h
 ·rename_i t x y z ho;exact UR S hpq ho h
 ·rename_i t x lo hi mx ho
  cases hb:(c.trn t&&lo.isNone&&hi.isSome) with
  |false=>rw [hb] at h;exact Lv S hpq ho h
  |true=>
   rw [hb] at h
   simp only [A9] at hb
   have hlo:lo=none:=by cases lo with|none=>rfl|some _=>exact absurd hb.1.2 (by simp)
   subst hlo
   cases mx with
   |none=>exact Lx S hpq hfr ho h
   |some _=>cases h
 ·rename_i t x ho
  split at h
  ·cases h
  ·rename_i ds d hni ht hx
   exact Lt S hpq ho ht (fun i e=>hni i e) hx h
  ·rename_i ds hni ht hnd
   split at h
   ·rename_i d fz hx
    exact Hi S hpq ho ht (fun i e=>hni i e) hx h
   ·cases h
  ·cases h
 ·rename_i x k ho
  split at h
  ·rename_i vs hx
   obtain⟨hk,h⟩:=H8 h
   rw [nQ] at h
   have hk:Nat.ble (k+1) vs.length=true:=hk
   exact Bk S hpq ho hx (B3 hk) h
  ·cases h
 ·rename_i q' ho
  split at h
  ·rename_i f hc;exact Qd hn hg hrec S hpq hfr ho hc h
  ·rename_i b hc;exact Bi S hpq hfr ho hc h
  ·rename_i x nm hc
   split at h
   ·rename_i t d hx
    split at h
    ·rename_i fid hm
     exact Hj hn hg hrec S hpq hfr ho hc hx hm h
    ·cases h
   ·cases h
 ·cases h
end
end Go.AE
namespace Go.AE
open Go.RowKit
mutual
theorem D.tL:∀ (x y:D),D.eq x y=true→x=y
 | .top,y,h=>by cases y<;>first|rfl|cases h
 | .bool _,y,h=>by cases y<;>first|cases h;done|(simp only [D.eq,beq_iff_eq] at h;rw [h])
 | .int _ _,y,h=>by cases y<;>first|cases h;done|(simp only [D.eq,A9,beq_iff_eq,decide_eq_true_eq] at h;rw [h.1,h.2])
 | .str _,y,h=>by cases y<;>first|cases h;done|(simp only [D.eq,beq_iff_eq] at h;rw [h])
 | .Z _ xs,y,h=>by cases y<;>first|cases h;done|(simp only [D.eq,A9] at h;rw [B0 h.1,D.yT xs _ h.2])
 | .nils _ _,y,h=>by cases y<;>first|cases h;done|(simp only [D.eq,A9] at h;rw [B0 h.1,B0 h.2])
 | .und,y,h=>by cases y<;>first|rfl|cases h
 | .agg xs,y,h=>by cases y<;>first|cases h;done|(simp only [D.eq] at h;rw [D.yT xs _ h])
 | .fn _,y,h=>by cases y<;>first|cases h;done|(simp only [D.eq] at h;rw [B0 h])
 | .nilp,y,h=>by cases y<;>first|rfl|cases h
 | .nilf,y,h=>by cases y<;>first|rfl|cases h
 | .nilm,y,h=>by cases y<;>first|rfl|cases h
 | .nili,y,h=>by cases y<;>first|rfl|cases h
 | .ub,y,h=>by cases y<;>first|rfl|cases h
 | .iface _ x,y,h=>by cases y<;>first|cases h;done|(simp only [D.eq,A9] at h;rw [B0 h.1,D.tL x _ h.2])
 | .meth _ _ x,y,h=>by cases y<;>first|cases h;done|(simp only [D.eq,A9,beq_iff_eq] at h;rw [B0 h.1.1,h.1.2,D.tL x _ h.2])
theorem D.yT:∀ (xs ys:List D),D.eqs xs ys=true→xs=ys
 |[],ys,h=>by cases ys<;>first|rfl|cases h
 |x::xs,ys,h=>by
  cases ys with
  |nil=>cases h
  |cons y ys=>
   simp only [D.eqs,A9] at h
   rw [D.tL x y h.1,D.yT xs ys h.2]
end
theorem KN {a b:Out}{r:Bool×List D}(h:agree a b=some r):a=some r∧b=some r:=by
 unfold agree at h
 split at h
 ·rename_i x xs y ys
  obtain⟨h1,h2⟩:=H8 h
  simp only [A9,beq_iff_eq] at h1
  cases h2
  obtain⟨rfl,h1⟩:=h1
  rw [D.yT _ _ h1]
  exact⟨rfl,rfl⟩
 ·cases h
theorem HQ {r:Bool×List D}:∀ {l:List Out},BC l=some r→∀ x∈l,x=some r
 |[],h,_,_=>by cases h
 |[x],h,y,hy=>by
  rcases B7.1 hy with rfl|hy
  ·exact h
  ·cases hy
 |x::y::l,h,z,hz=>by
  obtain⟨h1,h2⟩:=KN (show agree x (BC (y::l))=some r from h)
  rcases B7.1 hz with rfl|hz
  ·exact h1
  ·exact HQ h2 z hz
theorem Bu {r:Bool×List D}{l:List Nat}{x:Out}{f:Nat→Out}(h:Ed l x f=some r):(l=[]∧x=some r)∨∀ j∈l,f j=some r:=by
 unfold Ed at h
 split at h
 ·exact .inl ⟨rfl,h⟩
 ·exact .inr fun j hj=>HQ h _ (List.mem_map.2 ⟨j,hj,rfl⟩)
section
variable {P:Program} {w:World}
theorem Ce {r b c:Nat}{m:Option Nat}{ns:Array Nat}{y:Obj}(h:w.heap[r]? = some (.mapIter m b ns c)):(setObj r y).run P w = .ok () { w with heap:=w.heap.setIfInBounds r y }:=by
 simp only [setObj,Sem.run,h]
theorem Ml {r m n:Nat}{ty:TypeId}{ns:List Nat}{es:Array MapEntry}(hr:w.heap[r]? = some (.mapIter (some m) n ns.toArray n))(hm:w.heap[m]? = some (.map es n))(hB:wG es n) :
  ((∀ j,j<n→j∈ns)∧(Instr.next (.pointer (some ⟨r,0,none⟩)) false ty).run P w = .ok (.tuple #[.bool false]) w)∨
  ∃ j k v d,j<n∧j∉ns∧(Instr.next (.pointer (some ⟨r,0,none⟩)) false ty).run P w = .ok (.tuple #[.bool true,k,v]) { w with heap:=w.heap.setIfInBounds r (.mapIter (some m) n (ns++[j]).toArray n),drawn:=d }:=by
 have hn:n=es.size:=hB.1
 have hold:∀ x∈es.toList,x.born<n:=fun x hx=>by
  obtain⟨j,hj,rfl⟩:=List.mem_iff_getElem.1 hx
  have hj':j<es.size:=by simpa using hj
  rw [hB.2 j _ (by rw [← D0];exact C2 hj)]
  omega
 simp only [Instr.next,getObj,Sem.run_bind,Sem.run,hr,hm,Result.andThen,next_test_false ns.toArray es n n hold (B9 _),D6,if_false]
 have hmem:∀ x∈(Array.filter (fun e=>!ns.toArray.contains e.born) es).toList,x.born<n∧x.born∉ns∧x∈es.toList:=fun x hx=>by
  simp at hx
  exact⟨hold x (by simpa using hx.1),hx.2,by simpa using hx.1⟩
 have hall:(Array.filter (fun e=>!ns.toArray.contains e.born) es).size=0→∀ j,j<n→j∈ns:=fun h0 j hj=>by
  have he:Array.filter (fun e=>!ns.toArray.contains e.born) es=#[]:=Array.eq_empty_of_size_eq_zero h0
  rw [Array.filter_eq_empty_iff] at he
  have hj':j<es.size:=by omega
  have:=he es[j] (Array.getElem_mem hj')
  rw [hB.2 j _ (C8 hj')] at this
  simpa using this
 generalize Array.filter (fun e=>!ns.toArray.contains e.born) es=L at hmem hall ⊢
 have e1:L.filter (fun x=>decide (x.born<n))=L:=Array.filter_eq_self.2 (fun x hx=>by simpa using (hmem x (by simpa using hx)).1)
 have e2:L.filter (fun x=>decide (x.born≥n))=#[]:=by
  rw [Array.filter_eq_empty_iff]
  intro x hx
  have:=(hmem x (by simpa using hx)).1
  simp
  omega
 simp only [e1,e2,Array.append_empty]
 by_cases h0:L.size=0
 ·left
  have:L=#[]:=Array.eq_empty_of_size_eq_zero h0
  refine⟨hall h0,?_⟩
  subst this
  simp [choose,Sem.run,Question.forced]
 ·right
  have hne:L.isEmpty=false:=by simp [Array.isEmpty,h0]
  simp only [hne,D6,if_false,Array.empty_append,Array.size_map]
  have hch:∃ (j d:Nat),j<L.size∧(choose (Question.mapNext L.size)).run P w = .ok j { w with drawn:=d }:=by
   by_cases hf:L.size≤1
   ·exact⟨0,w.drawn,by omega,by simp [choose,Sem.run,Question.forced,hf]⟩
   ·exact⟨_,_,Nat.mod_lt _ (by omega),by
     simp only [choose,Sem.run,Question.forced,decide_eq_true_eq,hf,if_false,Question.cut]
     rfl⟩
  obtain⟨j,d,hj,hrun⟩:=hch
  have hb:=hmem L[j] (by simp)
  refine⟨L[j].born,L[j].key,L[j].val,d,hb.1,hb.2.1,?_⟩
  simp only [hrun,Array.getElem?_map,C8 hj,Option.map_some,Sem.run_bind]
  rw [Ce (w:={ w with drawn:=d }) (m:=some m) (ns:=ns.toArray) (b:=n) (c:=n) hr]
  simp only [Result.andThen]
  have:ns.toArray.push L[j].born=(ns++[L[j].born]).toArray:=by simp
  rw [this]
  rfl
end
theorem Bc {n j:Nat}{ns:List Nat}:j∈RC n (ns.map fun k=>D.int .i64 (k:Nat))↔j<n∧j∉ns:=by
 unfold RC
 rw [List.mem_filter,List.mem_range]
 refine and_congr_right fun _=>?_
 rw [D8,List.any_map,← Bool.not_eq_true,List.any_eq_true]
 constructor
 ·intro h hm
  exact h ⟨j,hm,by simp [D.i]⟩
 ·rintro h ⟨x,hx,e⟩
  simp only [Function.comp,D.i,beq_iff_eq] at e
  have:x=j:=by omega
  exact h (this▸hx)
section
variable {u:Nat→Option Obj} {p q:Nat→Prop} {g:G} {st:St} {a:Act} {w:World} {P:Program} {o:Oper}
theorem P3.Rn {h:Nat→Option Ob}(S:P3 u p g h w)(hpq:∀ x,p x→q x){no t mo n d:Nat}{ns ns':List Nat}{xs ys:List D}(hno:h no=some (.it t mo xs))(k1:w.heap[g.blk no]? = some (.mapIter (some (g.blk mo)) n ns.toArray n))(hI:Rx n ns' ys) :
  P3 u q g (fun x=>bif Nat.beq x no then some (.it t mo ys) else h x) { w with heap:=w.heap.setIfInBounds (g.blk no) (.mapIter (some (g.blk mo)) n ns'.toArray n),drawn:=d }:=by
 obtain⟨m1,m2⟩:=MapKept.heap_set (o':=Obj.mapIter (some (g.blk mo)) n ns'.toArray n) k1
 refine (S.update (L8.refl p g) rfl (some (g.blk no)) (fun b _ hb=>m2 b (fun e=>hb (by rw [e]))) (fun b hb=>?_) hpq no ?_ ?_)
 ·cases hb
  exact S.sep no _ _ hno rfl
 ·intro o' x hx hne
  have:Nat.beq o' no=false:=by
   cases k:Nat.beq o' no with
   |false=>rfl
   |true=>exact absurd (B0 k) hne
  rw [this] at hx
  refine⟨hx,fun b hb e=>?_⟩
  cases e
  exact hne (S.inj o' no _ _ _ hx hno hb rfl)
 ·intro x hx
  rw [show Nat.beq no no=true from Nat.beq_refl no] at hx
  simp only [cond_true,B1] at hx
  subst hx
  refine⟨⟨n,ns',hI,m1⟩,fun b hb=>?_,hpq _ (S.use _ _ hno).1,hpq _ (S.use _ _ hno).2⟩
  ·simp only [jY,B1] at hb
   exact .inl (by rw [hb])
theorem P3.Ts {h:Nat→Option Ob}(S:P3 u p g h w)(hpq:∀ x,p x→q x){no t mo n:Nat}{ns:List Nat}{xs ys:List D}(hno:h no=some (.it t mo xs))(k1:w.heap[g.blk no]? = some (.mapIter (some (g.blk mo)) n ns.toArray n))(hI:Rx n ns ys) :
  P3 u q g (fun x=>bif Nat.beq x no then some (.it t mo ys) else h x) w:=by
 have:=S.Rn hpq (d:=w.drawn) hno k1 hI
 have e:({ w with heap:=w.heap.setIfInBounds (g.blk no) (.mapIter (some (g.blk mo)) n ns.toArray n),drawn:=w.drawn }:World)=w:=by
  have:w.heap.setIfInBounds (g.blk no) (.mapIter (some (g.blk mo)) n ns.toArray n)=w.heap:=by
   apply Array.ext_getElem?
   intro i
   rw [Array.getElem?_setIfInBounds]
   split
   ·rename_i e;subst e
    split
    ·exact k1.symm
    ·rename_i hlt;rw [Array.getElem?_eq_none (by omega)]
   ·rfl
  rw [this]
 rwa [e] at this
theorem Ha {q' t mo d m:Nat}{xs:List D}(S:At u p g st a w)(hpq:∀ x,p x→q x)(h:Bg st o=some (q',t,mo,xs,d,m))(hb:((Y xs 0).i==(m:Int))=true) :
  o.guard=none∧o.dst=some d∧
  ((RC (Y xs 0).i.toNat (xs.drop 2)=[]∧(execOp a.eval o).run P w = .ok (.value (.tuple #[.bool false])) w∧P3 u q g (st.dG q' (some (.it t mo (YO xs)))).h w)∨
   ∃ j∈RC (Y xs 0).i.toNat (xs.drop 2),∃ k v w',(execOp a.eval o).run P w = .ok (.value (.tuple #[.bool true,k,v])) w'∧P3 u q g (st.dG q' (some (.it t mo (YY xs j)))).h w'∧Ext g w g w'):=by
 unfold Bg at h
 split at h
 ·rename_i x ho
  split at h
  ·rename_i no d' hx hg hd
   split at h
   ·rename_i t' mo' xs' hno
    split at h
    ·rename_i kt es0 hmo
     cases h
     have hvx:=S.ev x
     rw [hx] at hvx
     have hvx:a.eval x = .pointer (some ⟨g.blk q',0,none⟩):=hvx
     refine⟨hg,hd,?_⟩
     obtain⟨n,ns,hI,k1⟩:=S.hp.ob _ _ hno
     obtain⟨last,ks,rfl,i1,i2,i3⟩:=hI
     obtain⟨es,clock,m1,m2,kb⟩:=S.hp.ob _ _ hmo
     have hlen:es0.length=es.size:=by rw [m2.length];simp
     have hn:clock=n:=by
      have:=eq_of_beq hb
      simp only [Y,D.i] at this
      rw [kb.1];omega
     subst hn
     have hl:∀ j,j∈RC (Y (D.int .i64 (clock:Int)::last::ks.map fun k=>D.int .i64 (k:Nat)) 0).i.toNat ((D.int .i64 (clock:Int)::last::ks.map fun k=>D.int .i64 (k:Nat)).drop 2)↔j<clock∧j∉ks:=fun j=>Bc (n:=clock)
     rcases Ml (P:=P) (ty:=o.type) k1 m1 kb with ⟨r1,r2⟩|⟨j,k,v,dd,r1,r2,r3⟩
     ·refine .inl ⟨?_,by simp only [execOp,ho,hvx];simp [r2],S.hp.Ts hpq hno k1 ⟨.top,List.range clock,by simp [YO,Y,D.i],fun k=>?_,fun k hk=>List.mem_range.1 hk,fun _ _ h=>(by cases h)⟩⟩
      ·rw [List.eq_nil_iff_forall_not_mem]
       intro j hj
       obtain⟨j1,j2⟩:=(hl j).1 hj
       exact j2 ((i1 j).1 (r1 j j1))
      ·rw [List.mem_range]
       exact⟨fun hk=>i2 k ((i1 k).1 hk),fun hk=>r1 k hk⟩
     ·refine .inr ⟨j,(hl j).2 ⟨r1,fun hk=>r2 ((i1 j).2 hk)⟩,k,v,{ w with heap:=w.heap.setIfInBounds (g.blk q') (.mapIter (some (g.blk mo)) clock (ns++[j]).toArray clock),drawn:=dd },by simp only [execOp,ho,hvx];simp [r3],S.hp.Rn hpq hno k1 ⟨.int .i64 j,ks++[j],by simp [YY,Y],fun k=>?_,fun k hk=>?_,fun _ _ h=>?_⟩,⟨fun _ _ h=>h,rfl,rfl,rfl,by simp⟩⟩
      ·rw [D3,D3,i1 k]
      ·rcases D3.1 hk with hk|hk
       ·exact i2 k hk
       ·rw [C3.1 hk];exact r1
      ·cases h
       exact⟨j,rfl,by simp⟩
    ·cases h
   ·cases h
  ·cases h
 ·cases h
end
end Go.AE
namespace Go.AE
section
variable {R:Type} {c:oA} {rec:Task→Out} {P:Program} {st:St} {nid:Nat}
theorem I8 {α β:Type}{b:Bool}{x y:Option α}{k:α→Option β}:(bif b then x else y).bind k=bif b then x.bind k else y.bind k:=by cases b<;>rfl
theorem mT (t:TypeId)(o:Nat)(v:V)(st:St)(K:V→St→Option R):BV P t o v st K=(BV P t o v st fun v s=>some (v,s)).bind fun p=>K p.1 p.2:=by
 unfold BV
 split
 ·split
  ·rw [I8];rfl
  ·rfl
 ·rfl
theorem yX (v:V)(K:V→Option R):force v K=K v:=by cases v<;>rfl
theorem Gu (t:TypeId)(p:V)(K:V→St→Option R):IP P t p st K=(IP P t p st fun v s=>some (v,s)).bind fun p=>K p.1 p.2:=by
 unfold IP typed
 simp only [yX,I8,Option.bind_none]
 congr 1
 cases p with
 |ptr o off=>
  simp only []
  split
  ·simp only [I8,Option.bind_none,Option.bind_some]
   congr 1
   split<;>rfl
  ·rfl
 |el sz xs i off=>simp only [I8,Option.bind_none,Option.bind_some]
 |rp o sz i off=>
  simp only []
  split
  ·simp only [I8,Option.bind_none,Option.bind_some]
  ·rfl
 |_=>rfl
theorem Ck (t:TypeId)(p v:V)(K:V→St→Option R):HJ P t p v nid st K=(HJ P t p v nid st fun v s=>some (v,s)).bind fun p=>K p.1 p.2:=by
 unfold HJ
 simp only [I8,Option.bind_none]
 congr 1
 split
 ·split
  ·simp only [I8,Option.bind_none,Option.bind_some]
   congr 2
   congr 1
   rw [mT]
   conv=>rhs;rw [mT]
   simp [Option.bind_assoc]
  ·rfl
 ·split
  ·rw [I8]
   split<;>simp only [I8,Option.bind_none,Option.bind_some]
  ·rfl
 ·rfl
theorem WJ (t:TypeId)(x y:V)(K:V→St→Option R):yO P t x y nid st K=(yO P t x y nid st fun v s=>some (v,s)).bind fun p=>K p.1 p.2:=by
 unfold yO
 split
 ·rfl
 ·split
  ·rfl
  ·simp only [I8,Option.bind_none]
   congr 1
   split
   ·simp only [I8,Option.bind_none,Option.bind_some]
   ·split
    ·simp only [I8,Option.bind_none,Option.bind_some]
    ·rfl
   ·rfl
theorem Gv (t:TypeId)(x y:V)(K:V→St→Option R):MV P t x y nid st K=(MV P t x y nid st fun v s=>some (v,s)).bind fun p=>K p.1 p.2:=by
 unfold MV
 split
 ·split
  ·simp only [I8,Option.bind_none,Option.bind_some]
  ·rfl
 ·rfl
theorem Gc (x y:V)(K:V→St→Option R):QJ P x y st K=(QJ P x y st fun v s=>some (v,s)).bind fun p=>K p.1 p.2:=by
 unfold QJ
 split
 ·split
  ·rw [I8];rfl
  ·rfl
 ·rfl
theorem Kz (t:TypeId)(x:V)(K:V→St→Option R):(XR P t st x fun n=>K (.d (.int .i64 n)) st)=(XR P t st x fun n=>some (V.d (.int .i64 n),st)).bind fun p=>K p.1 p.2:=by
 unfold XR
 split
 ·split<;>rfl
 ·split<;>rfl
 ·split
  ·split<;>rfl
  ·rfl
  ·rfl
 ·rfl
theorem YF (t:TypeId)(K:V→St→Option R):uN P t nid st K=(uN P t nid st fun v s=>some (v,s)).bind fun p=>K p.1 p.2:=by
 unfold uN
 split
 ·rw [I8];rfl
 ·rfl
theorem XW (t:TypeId)(x i:V)(ok:Bool)(K:V→St→Option R):sJ P t x i ok st K=(sJ P t x i ok st fun v s=>some (v,s)).bind fun p=>K p.1 p.2:=by
 unfold sJ
 split
 ·split
  ·unfold typed
   rw [I8,I8]
   cases ok<;>rfl
  ·rfl
 ·rfl
theorem YA (t:TypeId)(x i y:V)(K:V→St→Option R):zB P t x i y st K=(zB P t x i y st fun v s=>some (v,s)).bind fun p=>K p.1 p.2:=by
 unfold zB
 split
 ·split
  ·rw [I8];rfl
  ·rfl
 ·rfl
theorem XY (t:TypeId)(x i:V)(K:V→St→Option R):zA P t x i st K=(zA P t x i st fun v s=>some (v,s)).bind fun p=>K p.1 p.2:=by
 unfold zA
 split
 ·split
  ·unfold typed
   rw [I8]
   congr 1
   rw [I8];rfl
  ·rfl
 ·rfl
theorem XD (t:TypeId)(x i y:V)(K:V→St→Option R):yS P t x i y st K=(yS P t x i y st fun v s=>some (v,s)).bind fun p=>K p.1 p.2:=by
 unfold yS
 split
 ·split
  ·rw [I8];rfl
  ·rfl
 ·rfl
theorem By (t:TypeId)(x:V)(K:V→St→Option R):HC P t x nid st K=(HC P t x nid st fun v s=>some (v,s)).bind fun p=>K p.1 p.2:=by
 unfold HC
 split
 ·split<;>rfl
 ·rfl
theorem Aq (x:V)(K:V→St→Option R):FT P x st K=(FT P x st fun v s=>some (v,s)).bind fun p=>K p.1 p.2:=by
 unfold FT
 split
 ·split
  ·split
   ·split
    ·unfold typed
     rw [I8]
     congr 1
     rw [I8]
     congr 1
     rw [I8];rfl
    ·rfl
   ·rfl
  ·rfl
 ·rfl
theorem MK (t:TypeId)(x i:V)(K:V→St→Option R):jO P t x i st K=(jO P t x i st fun v s=>some (v,s)).bind fun p=>K p.1 p.2:=by
 unfold jO
 rw [I8]
 congr 1
 split
 ·split
  ·rw [I8];rfl
  ·split
   ·rw [I8];rfl
   ·rfl
  ·split
   ·rw [I8];rfl
   ·rfl
  ·rfl
 ·rfl
theorem TK (t:TypeId)(x:Operand)(vx i:V)(K:V→St→Option R):oW c t x vx i st K=(oW c t x vx i st fun v s=>some (v,s)).bind fun p=>K p.1 p.2:=by
 unfold oW
 split
 ·split
  ·rw [I8];rfl
  ·rfl
 ·split
  ·unfold JU
   split
   ·rw [I8];rfl
   ·rfl
  ·exact MK _ _ _ _
theorem Cj (t:TypeId)(x:V)(lo hi mx:Option V)(K:V→St→Option R):yD P t x lo hi mx st K=(yD P t x lo hi mx st fun v s=>some (v,s)).bind fun p=>K p.1 p.2:=by
 unfold yD
 split
 ·rfl
 ·rw [I8]
  congr 1
  split
  ·split
   ·rw [I8];rfl
   ·rfl
  ·split
   ·rw [I8];rfl
   ·rfl
  ·split
   ·rw [I8]
    congr 1
    split
    ·rw [I8];rfl
    ·rfl
   ·rfl
  ·rfl
theorem Cq (t:TypeId)(x:V)(hi:Option V)(K:V→St→Option R):HK P t x hi nid st K=(HK P t x hi nid st fun v s=>some (v,s)).bind fun p=>K p.1 p.2:=by
 unfold HK
 split
 ·split
  ·rw [I8];rfl
  ·rfl
 ·rfl
theorem Am (t:TypeId)(x:V)(K:V→St→Option R):FO P t x st K=(FO P t x st fun v s=>some (v,s)).bind fun p=>K p.1 p.2:=by
 unfold FO
 split
 ·split
  ·rw [I8];rfl
  ·rfl
 ·rfl
theorem QV (op:BinOp)(k:IntKind)(a b:Int)(K:V→St→Option R):(II op k a b fun z=>K (.d z) st)=(II op k a b fun z=>some (V.d z,st)).bind fun p=>K p.1 p.2:=by
 cases op<;>simp only [II]<;>first|rfl|(rw [I8];rfl)
theorem Ib (op:BinOp)(a b:F9)(K:V→St→Option R):(JA op a b fun z=>K (.d z) st)=(JA op a b fun z=>some (V.d z,st)).bind fun p=>K p.1 p.2:=by
 cases op<;>simp only [JA]<;>first|rfl|(rw [I8];rfl)
theorem Ag (op:BinOp)(t:TypeId)(x y:D)(K:V→St→Option R):(wK P op t x y fun z=>K (.d z) st)=(wK P op t x y fun z=>some (V.d z,st)).bind fun p=>K p.1 p.2:=by
 unfold wK
 split
 ·split
  ·rw [I8];rfl
  ·rw [I8];rfl
  ·rw [I8,QV];rfl
 ·exact Ib _ _ _ _
 ·split
  ·split<;>rfl
  ·rfl
 ·rw [I8]
  congr 1
  split<;>rfl
 ·rw [I8]
  congr 1
  split
  ·rw [I8];rfl
  ·rw [I8];rfl
  ·rfl
 ·rw [I8]
  congr 1
  split<;>rfl
 ·rfl
theorem Ig (op:UnOp)(x:D)(K:V→St→Option R):(JD op x fun z=>K (.d z) st)=(JD op x fun z=>some (V.d z,st)).bind fun p=>K p.1 p.2:=by
 unfold JD
 split<;>rfl
theorem Fp (r:Out)(k:List D→Option R)(k':List D→Option (V×St))(K:V×St→Option R)(h:∀ ds,k ds=(k' ds).bind K):H3 r k=(H3 r k').bind K:=by
 unfold H3
 split
 ·exact h _
 ·rfl
theorem uB (no:Bool)(f:Nat)(args:List V)(K:V→St→Option R):qS c rec no f args nid st K=(qS c rec no f args nid st fun v s=>some (v,s)).bind fun p=>K p.1 p.2:=by
 unfold qS
 split
 ·rfl
 ·rw [I8]
  congr 1
  simp only []
  split
  ·rfl
  ·rw [I8]
   congr 1
   refine Fp _ _ _ _ fun ds=>?_
   simp only [I8,Option.bind_none,Option.bind_some]
theorem SK (t:TypeId)(x:V)(s:F9)(K:V→St→Option R):tF P t x s nid st K=(tF P t x s nid st fun v s=>some (v,s)).bind fun p=>K p.1 p.2:=by
 unfold tF
 split
 ·split
  ·rw [I8];rfl
  ·rfl
 ·rfl
theorem WR (t:Nat)(cs:List V)(K:V→St→Option R):KQ c t nid cs st K=(KQ c t nid cs st fun v s=>some (v,s)).bind fun p=>K p.1 p.2:=by
 unfold KQ
 split<;>rfl
theorem Fy (f:V)(args:List V)(K:V→St→Option R):QC c rec f args nid st K=(QC c rec f args nid st fun v s=>some (v,s)).bind fun p=>K p.1 p.2:=by
 unfold QC
 split
 ·split
  ·rw [I8];rfl
  ·split
   ·rw [I8];rfl
   ·exact uB _ _ _ _
 ·exact uB _ _ _ _
 ·rfl
theorem SP (b:Builtin)(ts:Array TypeId)(args:List V)(K:V→St→Option R):qN c b ts args nid st K=(qN c b ts args nid st fun v s=>some (v,s)).bind fun p=>K p.1 p.2:=by
 unfold qN
 split
 ·split
  ·exact Kz _ _ _
  ·rfl
 ·split
  ·rw [I8,WJ,I8]
   congr 2
   split
   ·exact SK _ _ _ _
   ·rfl
  ·rfl
 ·split
  ·split
   ·rw [I8,Gc];rfl
   ·rfl
  ·rfl
 ·split
  ·exact Am _ _ _
  ·rfl
 ·rw [I8];rfl
 ·rw [I8];rfl
 ·rfl
theorem Qc (o:Oper)(K:V→St→Option R):Im c rec o nid st K=(Im c rec o nid st fun v s=>some (v,s)).bind fun p=>K p.1 p.2:=by
 unfold Im
 simp only [yX]
 split
 ·rfl
 ·split
  ·rw [I8,mT];rfl
  ·rfl
 ·split
  ·rw [I8];rfl
  ·rfl
 ·split
  ·rw [I8,I8,mT]
   conv=>rhs;rw [mT]
   rw [WR]
   simp [Option.bind_assoc]
  ·rfl
 ·rw [I8,I8,I8,mT]
  conv=>rhs;rw [mT]
  rw [WR]
  simp [Option.bind_assoc]
 ·split
  ·rw [I8]
   congr 1
   split<;>rfl
  ·rfl
 ·split
  ·split
   ·rw [I8]
    congr 1
    split<;>rfl
   ·rfl
  ·rfl
 ·exact Gu _ _ _
 ·exact Ck _ _ _ _
 ·split<;>first|rfl|(rw [I8];rfl)
 ·split
  ·exact Ag _ _ _ _ _
  ·rfl
 ·split
  ·exact Ig _ _ _
  ·rfl
 ·split
  ·rfl
  ·rw [I8];rfl
  ·rfl
  ·split
   ·split
    ·rw [I8];rfl
    ·rfl
   ·rfl
  ·rfl
 ·split
  ·rw [I8]
   congr 1
   split<;>rfl
  ·rfl
 ·rw [I8,I8];rfl
 ·split
  ·rw [I8]
   congr 1
   split<;>rfl
  ·rfl
 ·split
  ·rw [I8]
   congr 1
   split
   ·rw [I8,I8]
    congr 2
    split<;>rfl
   ·rw [I8,I8]
    congr 2
    split<;>rfl
   ·rfl
  ·rfl
 ·exact TK _ _ _ _ _
 ·split
  ·rw [I8];rfl
  ·rfl
 ·exact Gv _ _ _ _
 ·split
  ·exact YF _ _
  ·rfl
 ·exact XW _ _ _ _ _
 ·exact XY _ _ _ _
 ·exact XD _ _ _ _ _
 ·exact By _ _ _
 ·exact Aq _ _
 ·exact YA _ _ _ _ _
 ·rw [I8]
  congr 1
  ·split
   ·exact Cq _ _ _ _
   ·rfl
  ·exact Cj _ _ _ _ _ _
 ·split
  ·rfl
  ·rfl
  ·split<;>rfl
  ·rfl
 ·split
  ·rw [I8];rfl
  ·rfl
 ·split
  ·exact Fy _ _ _
  ·exact SP _ _ _ _
  ·split
   ·split
    ·exact uB _ _ _ _
    ·rfl
   ·rfl
 ·rfl
end
end Go.AE
