import Derived.Test.YtpmjplpnpnmlcaaGreatDoorEng2
import Derived.Defers
import Derived.Laws.IdiomRangeMap
import Derived.LoopN
import Derived.Orders
import Derived.Laws.Externs
import Derived.WideKeyArgs
import Derived.ProofKit
import Derived.OpenShut
import Derived.JoinedCond
import Derived.DataShut
import Derived.Below
import Derived.ChangeSame
set_option linter.all false
namespace Go.AE
open Go.RowKit
def oK (sl:List (Nat×SV))(tm:Nat→Value):Value:=
 match sl.map fun x=>tm x.1 with
 |[v]=>v
 |vs=> .tuple vs.toArray
def rK (CL:FuncId→Array Value→World→(Ending→World→Prop)→Prop)(c:Z6)(f:Nat)(sk:Sk)(ds out:List D):Prop:=
 ∀ fn,c.P.funcs[f]? = some fn→∀ (u:Nat→Option Obj) (g:G),c.qH g.h→∀ (args:Array Value) (w:World),args.size=sk.slots.length→
  J2 u (·<sk.objs.length) g (J6 E0 sk ds).h w→(∀ t,VV g ((J6 E0 sk ds).t t) (args.getD t undef)∧((J6 E0 sk ds).t t).K5 (·<sk.objs.length))→
  CL f args w fun e w'=>∃ v,e = .returned v∧∃ g' tm',J2 u (·<(V5 c.P (c.dres f) fn.resultTypes.toList sk).objs.length) g' (J6 E0 (V5 c.P (c.dres f) fn.resultTypes.toList sk) out).h w'∧
   (∀ t,VV g' ((J6 E0 (V5 c.P (c.dres f) fn.resultTypes.toList sk) out).t t) (tm' t)∧((J6 E0 (V5 c.P (c.dres f) fn.resultTypes.toList sk) out).t t).K5 (·<(V5 c.P (c.dres f) fn.resultTypes.toList sk).objs.length))∧
   Ext g w g' w'∧(∀ l o,I4 (L2 0 sk.objs) l=some o→g'.blk l=g.blk l∧g'.hdr l=g.hdr l∧∀ i v,g.ihdr l i=some v→g'.ihdr l i=some v)∧v=oK (V5 c.P (c.dres f) fn.resultTypes.toList sk).slots tm'
def cU (c:Z6)(f:Nat)(sk:Sk)(ds out:List D):Prop:=rK (Calls c.P) c f sk ds out
def Ek (P:Program)(f:FuncId)(args:Array Value)(w:World)(R:Ending→World→Prop):Prop:=CallsD P f args .returning w fun e u' w'=>u' = .returning∧R e w'
def QS (c:Z6)(f:Nat)(sk:Sk)(ds out:List D):Prop:=rK (Ek c.P) c f sk ds out
theorem ZP {g:G}{q:Nat→Prop}{x:V}{v:Value}(hs:AL x)(h:VV g x v)(hu:x.K5 q):VA g x v∧x.K7 q:=by
 match x,hs,h,hu with
 | .fn _ [],hs,_,_=>exact hs.elim
 | .fn _ (_::_),_,h,hu=>exact⟨h,hu⟩
 | .agg _,_,h,hu=>exact⟨h,hu⟩
 | .d _,_,h,_=>exact⟨h,trivial⟩
 | .ptr ..,_,h,hu=>exact⟨h,hu⟩
 | .row _,_,h,hu=>exact⟨h,hu⟩
 | .mp _,_,h,hu=>exact⟨h,hu⟩
 | .bp ..,_,h,hu=>exact⟨h,hu⟩
 | .tup _,hs,_,_=>exact hs.elim
theorem oF:∀ {objs:List eQ} {k:Nat} {s:eQ},objs[k]? = some s→uE s=true→(fN objs)[k]? = some s
 |[],_,_,h,_=>by simp at h
 |s0::r,0,s,h,hp=>by
  simp at h;subst h
  cases s0 with
  |var _=>rfl
  |mp _=>rfl
  |it _ _=>rfl
  |gone=>cases hp
  |row e sz m=>
   have:m=1:=beq_iff.1 hp
   subst this
   rfl
  |nst e ie sz m=>
   have:m=1:=beq_iff.1 hp
   subst this
   rfl
 |s0::r,k+1,s,h,hp=>by
  have:=oF (objs:=r) (k:=k) (by simpa using h) hp
  cases s0<;>simpa [fN] using this
theorem MV (P:Program)(dres:DR)(ts:List TypeId)(sk:Sk):∃ b,(V5 P dres ts sk).objs=fN sk.objs++b:=by
 unfold V5
 split
 ·exact⟨_,rfl⟩
 ·exact⟨_,rfl⟩
section
variable {u:Nat→Option Obj} {p q:Nat→Prop} {g gF gH g':G} {st:St} {hold:Nat→Option Ob} {tm tm':Nat→Value} {w w':World} {P:Program} {sk osk:Sk} {cf:Cf} {out:List D} {nid:Nat}
theorem WE (M:NU u p g gF st tm w sk [] cf)(SH:J2 u p gH hold w)(S0:J2 u p g st.h w)(aH:I6 p g gH)(bH:gH.blk=g.blk)(dH:gH.hdr=g.hdr)(iH:gH.ihdr=g.ihdr)(sub:∀ b x,gH.h b=some x→gF.h b=some x)
  (hhold:∀ o x,o∉cf.fz→st.h o=some x→hold o=some x) (hnew:∀ k,k<24→¬ p (nid+k)∧q (nid+k)) (hpq:∀ x,p x→q x)
  (hosk:∃ b,osk.objs=fN sk.objs++b) (hlen:osk.objs.length≤24)
  (hmode:(∀ b,gF.h b≠none→gH.h b≠none)∨(mH P osk=true∧U5 osk out=true)) (hchk:aL osk out=true)
  (S1:J2 (jU (eL g gF cf.ren) (J6 E0 sk cf.ds).h w) (·<osk.objs.length) g' (J6 E0 osk out).h w')
  (T1:∀ t,VV g' ((J6 E0 osk out).t t) (tm' t)∧((J6 E0 osk out).t t).K5 (·<osk.objs.length))
  (X1:Ext (eL g gF cf.ren) w g' w') (hkeep:∀ l o,I4 (L2 0 sk.objs) l=some o→g'.blk l=(eL g gF cf.ren).blk l∧g'.hdr l=(eL g gF cf.ren).hdr l∧∀ i v,(eL g gF cf.ren).ihdr l i=some v→g'.ihdr l i=some v) :
  ∃ g2,J2 u q g2 (bG (mU cf.ren (L2 0 sk.objs) nid) (O0 osk out).h (aY sk cf.ren (L2 0 sk.objs) hold 0 sk.objs) 0 osk.objs) w'∧V7 p gH g2∧Ext gH w g2 w'∧(∀ x,p x→st.h x=none→g2.ihdr x=gH.ihdr x)∧
   VV g2 (FU (cO (mU cf.ren (L2 0 sk.objs) nid) (O0 osk out).t osk.slots)) (oK osk.slots tm')∧(FU (cO (mU cf.ren (L2 0 sk.objs) nid) (O0 osk out).t osk.slots)).K5 q:=by
 obtain⟨S2,T2⟩:=OQ hchk S1 T1
 let f:=mU cf.ren (L2 0 sk.objs) nid
 let g0:=eL g gF cf.ren
 have hpre:∀ l o,I4 (L2 0 sk.objs) l=some o→∃ x0 ox x,(J6 E0 sk cf.ds).h l=some x0∧I4 cf.ren l=some ox∧st.h ox=some x∧f l=ox∧p ox:=by
  intro l o h
  obtain⟨_,k,s,hk,hs,hp⟩:=Y9.1 h
  obtain⟨x0,hx0⟩:=X7 (E:=E0) (ds:=cf.ds) (l0:=0) (j:=(L1 E0 cf.ds sk.slots 0).2) hs (by cases s<;>first|rfl|cases hp)
  rw [← hk] at hx0
  obtain⟨_,_,ox,x,h1,h2,_⟩:=M.ob l x0 hx0
  refine⟨x0,ox,x,hx0,h1,h2,?_,(S0.use _ _ h2).1⟩
  show mU cf.ren (L2 0 sk.objs) nid l=ox
  unfold mU
  rw [h]
  simp [h1]
 have hfnew:∀ l,I4 (L2 0 sk.objs) l=none→f l=nid+l:=by
  intro l h
  show mU cf.ren (L2 0 sk.objs) nid l=nid+l
  unfold mU
  rw [h]
 let g2:G:=⟨fun b=>if gF.h b≠none∧gH.h b=none then none else g'.h b,fun x=>if nid≤x∧x<nid+24 then g'.blk (x-nid) else gH.blk x,fun x=>if nid≤x∧x<nid+24 then g'.hdr (x-nid) else gH.hdr x,fun x=>if nid≤x∧x<nid+24 then g'.ihdr (x-nid) else @dite _ (∃ l o,I4 (L2 0 sk.objs) l=some o∧I4 cf.ren l=some x) (Classical.propDecidable _) (fun h=>g'.ihdr h.choose) (fun _=>gH.ihdr x)⟩
 have notnew:∀ x,p x→¬ (nid≤x∧x<nid+24):=by
  intro x hx ⟨h1,h2⟩
  have:=(hnew (x-nid) (by omega)).1
  rw [show nid+(x-nid)=x from by omega] at this
  exact this hx
 have ihl:∀ l o x,I4 (L2 0 sk.objs) l=some o→I4 cf.ren l=some x→p x→g2.ihdr x=g'.ihdr l:=by
  intro l o x h1 h2 hx
  have hex:∃ l o,I4 (L2 0 sk.objs) l=some o∧I4 cf.ren l=some x:=⟨l,o,h1,h2⟩
  show (if nid≤x∧x<nid+24 then g'.ihdr (x-nid) else @dite _ (∃ l o,I4 (L2 0 sk.objs) l=some o∧I4 cf.ren l=some x) (Classical.propDecidable _) (fun h=>g'.ihdr h.choose) (fun _=>gH.ihdr x))=_
  rw [if_neg (notnew x hx),dif_pos hex]
  obtain⟨_,_,h3⟩:=hex.choose_spec
  rw [M.one _ _ _ h3 h2]
 have ihn:∀ x,p x→(¬ ∃ l o,I4 (L2 0 sk.objs) l=some o∧I4 cf.ren l=some x)→g2.ihdr x=gH.ihdr x:=by
  intro x hx hex
  show (if nid≤x∧x<nid+24 then g'.ihdr (x-nid) else @dite _ (∃ l o,I4 (L2 0 sk.objs) l=some o∧I4 cf.ren l=some x) (Classical.propDecidable _) (fun h=>g'.ihdr h.choose) (fun _=>gH.ihdr x))=_
  rw [if_neg (notnew x hx),dif_neg hex]
 have ha:V7 p gH g2:=by
  refine⟨fun b x h=>?_,fun x hx=>?_,fun x hx=>?_,fun x hx i v hv=>?_⟩
  ·show (if gF.h b≠none∧gH.h b=none then none else g'.h b)=some x
   rw [if_neg (by rw [h];simp)]
   exact X1.h b x (sub b x h)
  ·show (if nid≤x∧x<nid+24 then g'.blk (x-nid) else gH.blk x)=gH.blk x
   rw [if_neg (notnew x hx)]
  ·show (if nid≤x∧x<nid+24 then g'.hdr (x-nid) else gH.hdr x)=gH.hdr x
   rw [if_neg (notnew x hx)]
  ·by_cases hex:∃ l o,I4 (L2 0 sk.objs) l=some o∧I4 cf.ren l=some x
   ·obtain⟨l,o,h1,h2⟩:=hex
    rw [ihl l o x h1 h2 hx]
    refine (hkeep l o h1).2.2 i v ?_
    rw [iH] at hv
    simpa [eL,h2] using hv
   ·rw [ihn x hx hex];exact hv
 have hsub:∀ b x,g2.h b=some x→g'.h b=some x:=by
  intro b x h
  have h:(if gF.h b≠none∧gH.h b=none then none else g'.h b)=some x:=h
  split at h
  ·cases h
  ·exact h
 have N:Names osk.objs.length q g' g2 f:=by
  have both:∀ l,l<osk.objs.length→(g2.blk (f l)=g'.blk l∧g2.hdr (f l)=g'.hdr l∧g2.ihdr (f l)=g'.ihdr l)∧q (f l):=by
   intro l hl
   cases hp:I4 (L2 0 sk.objs) l with
   |some o=>
    obtain⟨x0,ox,x,h1,h2,h3,h4,h5⟩:=hpre l o hp
    rw [h4]
    obtain⟨k1,k2,_⟩:=hkeep l o hp
    refine⟨⟨?_,?_,ihl l o ox hp h2 h5⟩,hpq _ h5⟩
    ·rw [ha.blk ox h5,bH,k1];simp [eL,h2]
    ·rw [ha.hdr ox h5,dH,k2];simp [eL,h2]
   |none=>
    rw [hfnew l hp]
    have hc:nid≤nid+l∧nid+l<nid+24:=by omega
    refine⟨⟨?_,?_,?_⟩,(hnew l (by omega)).2⟩
    ·show (if nid≤nid+l∧nid+l<nid+24 then g'.blk (nid+l-nid) else gH.blk (nid+l))=_
     rw [if_pos hc,Nat.add_sub_cancel_left]
    ·show (if nid≤nid+l∧nid+l<nid+24 then g'.hdr (nid+l-nid) else gH.hdr (nid+l))=_
     rw [if_pos hc,Nat.add_sub_cancel_left]
    ·show (if nid≤nid+l∧nid+l<nid+24 then g'.ihdr (nid+l-nid) else _)=_
     rw [if_pos hc,Nat.add_sub_cancel_left]
  exact⟨fun l hl=>(both l hl).1.1,fun l hl=>(both l hl).1.2.1,fun l hl i=>by rw [(both l hl).1.2.2],fun l hl=>(both l hl).2⟩
 have same:(∀ b,gF.h b≠none→gH.h b≠none)→g2.h=g'.h:=by
  intro hm
  funext b
  show (if gF.h b≠none∧gH.h b=none then none else g'.h b)=g'.h b
  rw [if_neg]
  rintro ⟨h1,h2⟩
  exact hm b h1 h2
 have hslots:∀ t,AK (jR g' g2) ((O0 osk out).t t):=by
  intro t
  rcases hmode with hm|⟨hm,_⟩
  ·have e:=same hm
   have hk:∀ d,jR g' g2 d:=fun d v hv=>by rw [e];exact hv
   have U8:∀ x,rJ (jR g' g2) x:=fun x=>by cases x<;>first|exact hk _|trivial
   cases (O0 osk out).t t with
   |fn f cs=>exact fun y _=>U8 y
   |agg cs=>exact fun y _=>U8 y
   |d _=>exact hk _
   |_=>trivial
  ·unfold mH at hm
   simp only [A9] at hm
   exact (yD hm.1 t).mono fun d hd v hv=>hd _ _ v hv
 have hobj:∀ l x,(O0 osk out).h l=some x→Hb g' g2 x:=by
  intro l x hx
  rcases hmode with hm|⟨hm,hm2⟩
  ·have e:=same hm
   have hk:∀ d,jR g' g2 d:=fun d v hv=>by rw [e];exact hv
   have U8:∀ x,rJ (jR g' g2) x:=fun x=>by cases x<;>first|exact hk _|trivial
   obtain⟨_,_,_,_,_,k1,_⟩:=R1 (E:=L0) hx
   cases x with
   |row e' sz xs fz=>exact fun h us sz' hh hf=>by rw [hh] at hf;rw [e];exact hf
   |mp kt xs=>exact fun x _=>⟨hk _,hk _⟩
   |it t mo xs=>trivial
   |nst _ _ _ _=>exact fun sz ys us _ hf=>by rw [e];exact hf
   |var cs=>
    refine⟨k1 cs rfl,fun y _=>?_⟩
    cases y with
    |fn f cs=>exact fun y _=>U8 y
    |agg cs=>exact fun y _=>U8 y
    |d _=>exact hk _
    |_=>trivial
  ·unfold mH at hm
   simp only [A9] at hm
   exact gG (P:=P) hm2 hm.2 hx
 have hpass:Pass u p (·<sk.objs.length) gH g0 hold (J6 E0 sk cf.ds).h w (fun l o=>I4 cf.ren l=some o):=by
  refine⟨SH,M.Lz S0,sub,fun l x0 h0=>?_⟩
  obtain⟨_,_,o,x,h1,h2,h3⟩:=M.ob l x0 h0
  refine⟨o,x,h1,hhold o x (M.lt l o h1).1 h2,fun b hb=>?_⟩
  rw [Q8 aH.w (S0.use _ _ h2).1 fun i=>by rw [iH]]
  exact h3 b hb
 refine⟨g2,hpass.back S2 X1.h ha hsub hpq (f:=f) (fun x ob hx=>?_),ha,⟨ha.h,X1.os,X1.tape,X1.output,X1.size⟩,fun x hx hn=>ihn x hx fun ⟨l,o,hp,hr⟩=>?_,?_⟩
 ·rcases mY hx with ⟨k,s,ob1,h1,h2,h3,h4,h5⟩|⟨h1,h2⟩
  ·right
   rw [C5] at h3 h4
   have hk:k<osk.objs.length:=(List.getElem?_eq_some_iff.1 h1).1
   obtain⟨_,_,_,_,_,_,k2⟩:=R1 (E:=L0) h4
   obtain⟨r1,r2,r3⟩:=XT N hk (hobj k ob1 h4) k2 (S2.ob _ _ h4) (S2.use _ _ h4).2
   refine⟨k,ob1,h4,h3,?_,?_,?_,?_⟩
   ·rw [h3,h5];exact r1
   ·rw [h3,h5];exact r3
   ·rw [h3];exact N.q k hk
   ·rw [h5];exact r2
  ·left
   obtain⟨d1,d2⟩:=mQ h1
   refine⟨d1,fun l x0 h0 hr=>?_,fun b hb=>?_,fun i=>?_⟩
   ·obtain⟨k,s,hk,hs,hg,_⟩:=R1 (E:=E0) h0
    rw [C5] at hk
    subst hk
    cases hp:I4 (L2 0 sk.objs) l with
    |some o=>
     obtain⟨_,ox,_,_,j1,_,j2,_⟩:=hpre l o hp
     rw [hr] at j1
     cases j1
     obtain⟨_,k',s',hk',hs',hp'⟩:=Y9.1 hp
     rw [C5] at hk'
     subst hk'
     obtain⟨b,hb⟩:=hosk
     have hget:osk.objs[l]? = some s':=by
      have e1:=oF hs' hp'
      have hlt:=(List.getElem?_eq_some_iff.1 e1).1
      rw [hb,List.getElem?_append_left hlt];exact e1
     have:=h2 l s' hget (by cases s'<;>first|rfl|cases hp')
     rw [C5] at this
     exact this j2.symm
    |none=>
     cases s with
     |gone=>cases hg
     |var ss=>
      have:I4 (L2 0 sk.objs) l=some l:=Y9.2 ⟨rfl,l,_,by omega,hs,rfl⟩
      rw [hp] at this;cases this
     |mp kt=>
      have:I4 (L2 0 sk.objs) l=some l:=Y9.2 ⟨rfl,l,_,by omega,hs,rfl⟩
      rw [hp] at this;cases this
     |it t l0=>
      have:I4 (L2 0 sk.objs) l=some l:=Y9.2 ⟨rfl,l,_,by omega,hs,rfl⟩
      rw [hp] at this;cases this
     |row e sz m=>
      have:=d2 l _ hs rfl (by rw [C5];exact hp)
      rw [C5] at this
      exact this hr
     |nst e ie sz m=>
      have:=d2 l _ hs rfl (by rw [C5];exact hp)
      rw [C5] at this
      exact this hr
   ·have hsep:=(SH.sep x ob b d1 hb).1
    cases e:gF.h b with
    |none=>exact .inl e
    |some y=>
     right
     show (if gF.h b≠none∧gH.h b=none then none else g'.h b)=none
     rw [if_pos ⟨by rw [e];simp,hsep⟩]
   ·rw [ihn x (SH.use _ _ d1).1]
    rintro ⟨l,o,hp,hr⟩
    obtain⟨_,ox,_,_,j1,_,j2,_⟩:=hpre l o hp
    rw [hr] at j1
    cases j1
    obtain⟨_,k',s',hk',hs',hp'⟩:=Y9.1 hp
    rw [C5] at hk'
    subst hk'
    obtain⟨b,hb⟩:=hosk
    have hget:osk.objs[l]? = some s':=by
     have e1:=oF hs' hp'
     have hlt:=(List.getElem?_eq_some_iff.1 e1).1
     rw [hb,List.getElem?_append_left hlt];exact e1
    have:=h2 l s' hget (by cases s'<;>first|rfl|cases hp')
    rw [C5] at this
    exact this j2.symm
 ·obtain⟨_,ox,_,_,j1,j2,_⟩:=hpre l o hp
  rw [hr] at j1
  cases j1
  rw [hn] at j2
  cases j2
 ·have hone:∀ t,VA g2 (GN f ((O0 osk out).t t)) (tm' t)∧(GN f ((O0 osk out).t t)).K7 q:=by
   intro t
   have hshape:AL ((O0 osk out).t t):=kU _ _ _
   obtain⟨v1,v2⟩:=ZP hshape (T2 t).1 (T2 t).2
   exact QA N hshape (hslots t) v1 v2
  have hlist:∀ sl:List (Nat×SV),F2 (VA g2) (cO f (O0 osk out).t sl) (sl.map fun x=>tm' x.1)∧∀ x∈cO f (O0 osk out).t sl,x.K7 q:=by
   intro sl
   induction sl with
   |nil=>exact⟨.nil,fun x hx=>by cases hx⟩
   |cons s sl ih=>
    obtain⟨i,s⟩:=s
    exact⟨.cons (hone i).1 ih.1,fun x hx=>by
     simp only [cO] at hx
     rcases B7.1 hx with rfl|hx
     ·exact (hone i).2
     ·exact ih.2 x hx⟩
  obtain⟨l1,l2⟩:=hlist osk.slots
  show VV g2 (FU (cO f (O0 osk out).t osk.slots)) _∧(FU (cO f (O0 osk out).t osk.slots)).K5 q
  unfold oK
  generalize cO f (O0 osk out).t osk.slots=xs at *
  generalize (osk.slots.map fun x=>tm' x.1)=vs at *
  cases l1 with
  |nil=>exact⟨⟨#[],rfl,.nil⟩,fun x hx=>by cases hx⟩
  |cons h1 h2=>
   cases h2 with
   |nil=>
    have e1:∀ x:V,FU [x]=x:=fun _=>rfl
    rw [e1] at *
    exact⟨P1 h1,O2 (l2 _ (C3.2 rfl))⟩
   |cons h3 h4=>exact⟨⟨_,rfl,.cons h1 (.cons h3 h4)⟩,l2⟩
theorem TT {own:Nat→Nat}(hnew:∀ k,k<8→¬ p (nid+24+k)):∀ {ts:List TypeId} {i:Nat} {xs:List V} {vals:List Value} {h:Nat→Option Ob} {g:G},i+ts.length≤8→
  J2 u (fun x=>p x∨(nid+24≤x∧x<nid+24+i)) g h w→F2 (VV g) xs vals→(∀ x∈xs,x.K5 fun x=>p x∨(nid+24≤x∧x<nid+24+i))→
  ∃ g1,J2 u (fun x=>p x∨(nid+24≤x∧x<nid+32)) g1 (M1 P own nid i ts xs h).2 w∧I6 (fun x=>p x∨(nid+24≤x∧x<nid+24+i)) g g1∧g1.h=g.h∧g1.blk=g.blk∧
   F2 (VV g1) (M1 P own nid i ts xs h).1 vals∧(∀ x∈(M1 P own nid i ts xs h).1,x.K5 fun x=>p x∨(nid+24≤x∧x<nid+32)):=by
 intro ts
 induction ts with
 |nil=>
  intro i xs vals h g hi S hF hu
  have e:M1 P own nid i [] xs h=(xs,h):=by cases xs<;>rfl
  rw [e]
  have hm:∀ x,(p x∨(nid+24≤x∧x<nid+24+i))→(p x∨(nid+24≤x∧x<nid+32)):=by
   intro x hx
   rcases hx with hx|hx
   ·exact .inl hx
   ·simp only [A8] at hi;exact .inr (by omega)
  exact⟨g,S.more hm,I6.refl _ g,rfl,rfl,hF,fun x hx=>(hu x hx).mono hm⟩
 |cons t ts ih=>
  intro i xs vals h g hi S hF hu
  simp only [A0] at hi
  cases hF with
  |nil=>
   have e:M1 P own nid i (t::ts) [] h=([],h):=rfl
   rw [e]
   have hm:∀ x,(p x∨(nid+24≤x∧x<nid+24+i))→(p x∨(nid+24≤x∧x<nid+32)):=by
    intro x hx
    rcases hx with hx|hx
    ·exact .inl hx
    ·exact .inr (by omega)
   exact⟨g,S.more hm,I6.refl _ g,rfl,rfl,.nil,fun x hx=>by cases hx⟩
  |@cons x v xs vals hx hxs=>
   have hm1:∀ x,(p x∨(nid+24≤x∧x<nid+24+i))→(p x∨(nid+24≤x∧x<nid+24+(i+1))):=by
    intro x hx
    rcases hx with hx|hx
    ·exact .inl hx
    ·exact .inr (by omega)
   have hmi:∀ x,(p x∨(nid+24≤x∧x<nid+24+i))→(p x∨(nid+24≤x∧x<nid+32)):=by
    intro x hx
    rcases hx with hx|hx
    ·exact .inl hx
    ·exact .inr (by omega)
   have keep:∀ x':V,VV g x' v→x'.K5 (fun x=>p x∨(nid+24≤x∧x<nid+24+i))→∃ g1,J2 u (fun x=>p x∨(nid+24≤x∧x<nid+32)) g1 (M1 P own nid (i+1) ts xs h).2 w∧
     I6 (fun x=>p x∨(nid+24≤x∧x<nid+24+i)) g g1∧g1.h=g.h∧g1.blk=g.blk∧F2 (VV g1) (x'::(M1 P own nid (i+1) ts xs h).1) (v::vals)∧
     (∀ y∈x'::(M1 P own nid (i+1) ts xs h).1,y.K5 fun x=>p x∨(nid+24≤x∧x<nid+32)):=by
    intro x' hx' hux'
    obtain⟨g1,a1,a2,a3,a4,a5,a6⟩:=ih (i:=i+1) (by omega) (S.more hm1) hxs (fun y hy=>(hu y (by simp [hy])).mono hm1)
    have a2':I6 (fun x=>p x∨(nid+24≤x∧x<nid+24+i)) g g1:=⟨a2.h,fun o ho=>a2.blk o (hm1 o ho),fun o ho=>a2.hdr o (hm1 o ho),fun o ho=>a2.ihdr o (hm1 o ho)⟩
    refine⟨g1,a1,a2',a3,a4,.cons (hx'.agree a2' hux') a5,fun y hy=>?_⟩
    rcases B7.1 hy with rfl|hy
    ·exact hux'.mono hmi
    ·exact a6 y hy
   have plain:M1 P own nid i (t::ts) (x::xs) h=(x::(M1 P own nid (i+1) ts xs h).1,(M1 P own nid (i+1) ts xs h).2)→∃ g1,J2 u (fun x=>p x∨(nid+24≤x∧x<nid+32)) g1 (M1 P own nid i (t::ts) (x::xs) h).2 w∧
     I6 (fun x=>p x∨(nid+24≤x∧x<nid+24+i)) g g1∧g1.h=g.h∧g1.blk=g.blk∧F2 (VV g1) (M1 P own nid i (t::ts) (x::xs) h).1 (v::vals)∧
     (∀ y∈(M1 P own nid i (t::ts) (x::xs) h).1,y.K5 fun x=>p x∨(nid+24≤x∧x<nid+32)):=by
    intro e
    rw [e]
    exact keep x hx (hu x (by simp))
   by_cases hnil:∃ a b,x = .d (.nils a b)
   ·obtain⟨a,b,rfl⟩:=hnil
    cases he:O6 P t with
    |none=>exact plain (by simp only [M1,he])
    |some e=>
     cases ho:Nat.beq (own i) 0 with
     |true=>
      have e1:M1 P own nid i (t::ts) (.d (.nils a b)::xs) h=(.d (.Z (K2 P e) [])::(M1 P own nid (i+1) ts xs h).1,(M1 P own nid (i+1) ts xs h).2):=by simp only [M1,he,ho,cond_true]
      rw [e1]
      refine keep _ ?_ trivial
      have hx:v = .slice none 0 0:=hx
      subst hx
      exact⟨none,0,rfl,B9 _,C4 _,.inl rfl⟩
     |false=>
      cases hz:Nat.blt 0 (K2 P e) with
      |false=>exact plain (by simp only [M1,he,ho,hz,cond_false])
      |true=>
       have e1:M1 P own nid i (t::ts) (.d (.nils a b)::xs) h=(.row (nid+24+i)::(M1 P own nid (i+1) ts xs (fun x=>bif Nat.beq x (nid+24+i) then some (.row e (K2 P e) [] false) else h x)).1,
         (M1 P own nid (i+1) ts xs (fun x=>bif Nat.beq x (nid+24+i) then some (.row e (K2 P e) [] false) else h x)).2):=by simp only [M1,he,ho,hz,cond_true,cond_false]
       rw [e1]
       have hx:v = .slice none 0 0:=hx
       subst hx
       have hsz:0<K2 P e:=by have h1:Nat.ble 1 (K2 P e)=true:=hz;exact B3 h1
       have hnp:¬ (p (nid+24+i)∨(nid+24≤nid+24+i∧nid+24+i<nid+24+i)):=by
        rintro (k|k)
        ·exact hnew i (by omega) k
        ·omega
       obtain⟨g1,b1,b2,b3,b4,b5⟩:=R7 (h':=fun x=>bif Nat.beq x (nid+24+i) then some (.row e (K2 P e) [] false) else h x) S hm1 hnp (.inr (by omega)) (e:=e) (sz:=K2 P e) (xs:=[]) (v:= .slice none 0 0) (us:=[]) (row:=none) (fD w none) (World.ownsRow_nil w 0 e (K2 P e)) hsz rfl
        (fun b hb=>by cases hb) (fun b hb=>by cases hb) (fun o' x hx hne=>by rw [beq_false hne] at hx;exact⟨hx,fun _ _ e=>by cases e⟩) (by rw [beq_iff.2 rfl];rfl)
       obtain⟨g2,a1,a2,a3,a4,a5,a6⟩:=ih (i:=i+1) (by omega) b5 (F2.mono hxs fun y hy z hz=>VV.agree b1 (hu y (by simp [hy])) hz) (fun y hy=>(hu y (by simp [hy])).mono hm1)
       have ha:I6 (fun x=>p x∨(nid+24≤x∧x<nid+24+i)) g g2:=⟨fun b x k=>a2.h b x (b1.h b x k),fun o ho=>(a2.blk o (hm1 o ho)).trans (b1.blk o ho),fun o ho=>(a2.hdr o (hm1 o ho)).trans (b1.hdr o ho),fun o ho=>(a2.ihdr o (hm1 o ho)).trans (b1.ihdr o ho)⟩
       refine⟨g2,a1,ha,a3.trans b2,a4.trans b3,.cons ⟨?_,rfl⟩ a5,fun y hy=>?_⟩
       ·rw [a2.hdr _ (.inr (by omega)),b4]
       ·rcases B7.1 hy with rfl|hy
        ·exact .inr (by omega)
        ·exact a6 y hy
   ·refine plain ?_
    match x,hnil with
    | .d (.nils a b),hnil=>exact absurd ⟨a,b,rfl⟩ hnil
    | .d .top,_ | .d (.bool _),_ | .d (.int _ _),_ | .d (.str _),_ | .d (.Z _ _),_ | .d .und,_ | .d (.agg _),_ | .d (.fn _),_ | .d .nilp,_ | .d .nilf,_ | .d .nilm,_ | .d .nili,_ | .d .ub,_ | .d (.iface _ _),_ | .d (.meth ..),_=>simp only [M1]
    | .ptr ..,_ | .el ..,_ | .rp ..,_ | .row _,_ | .sub ..,_ | .agg _,_ | .fn ..,_ | .tup _,_ | .mp _,_ | .bp ..,_ | .ir ..,_ | .irp ..,_=>simp only [M1]
end
end Go.AE
namespace Go.AE
open Go.RowKit
section
variable {u:Nat→Option Obj} {p q:Nat→Prop} {g:G} {st:St} {a:Act} {w:World} {c:Z6} {o:Oper} {R:Type} {K:V→St→Option R} {r:R} {nid:Nat} {rec:Task→Out}
def gS (c:Z6)(rec:Task→Out):Prop:=∀ f sk ds out,rec (.call f sk ds)=some (true,out)→cU c f sk ds out∧(c.orc f sk ds=none→QS c f sk ds out)
theorem FR:∀ {xs:List V} {vals:List Value},F2 (VV g) xs vals→∀ t,VV g (AW xs t) (vals.getD t undef)
 |[],_,h,t=>by cases h;exact (trivial:VD _ .top _)
 |x::xs,_,h,t=>by
  cases h with
  |cons h1 h2=>
   cases t with
   |zero=>exact h1
   |succ t=>exact FR h2 t
theorem sR:∀ {xs:List V},(∀ x∈xs,x.K5 p)→∀ t,(AW xs t).K5 p
 |[],_,t=>trivial
 |x::xs,h,t=>by
  cases t with
  |zero=>exact h x (by simp)
  |succ t=>exact sR (xs:=xs) (fun y hy=>h y (by simp [hy])) t
theorem uT {h:Nat→Option Ob}{all:List Nat}:∀ (xs:List V) (i:Nat),(vX h all i xs).length=xs.length
 |[],_=>rfl
 |x::xs,i=>by simp [vX,uT xs]
theorem EG {dep:Nat}{h:Nat→Option Ob}{own:Nat→Nat}{cm:Nat→Nat→Nat}{xs:List V}:(rQ dep h own cm xs).slots.length=xs.length:=by
 unfold rQ
 exact uT xs 0
theorem NY {P:Program}{own:Nat→Nat}{nid y:Nat}:∀ {ts:List TypeId} {i:Nat} {xs:List V} {h:Nat→Option Ob},(∀ k,k<i+ts.length→y≠nid+24+k)→(M1 P own nid i ts xs h).2 y=h y
 |[],i,xs,h,_=>by cases xs<;>simp only [M1]
 |t::ts,i,[],h,_=>by simp only [M1]
 |t::ts,i,v::r,h,hy=>by
  have hy':∀ k,k<i+1+ts.length→y≠nid+24+k:=fun k hk=>hy k (by simp only [A0];omega)
  have rest:∀ h',(M1 P own nid (i+1) ts r h').2 y=h' y:=fun h'=>NY hy'
  by_cases hv:∃ a b,v = .d (.nils a b)
  ·obtain⟨a,b,rfl⟩:=hv
   simp only [M1]
   cases O6 P t with
   |none=>exact rest h
   |some e=>
    simp only []
    cases Nat.beq (own i) 0 with
    |true=>exact rest h
    |false=>
     simp only [cond_false]
     cases Nat.blt 0 (K2 P e) with
     |true=>
      simp only [cond_true]
      refine (rest _).trans ?_
      rw [beq_false (hy i (by simp only [A0];omega)),cond_false]
     |false=>exact rest h
  ·have e:M1 P own nid i (t::ts) (v::r) h=(v::(M1 P own nid (i+1) ts r h).1,(M1 P own nid (i+1) ts r h).2):=by
    match v,hv with
    | .d (.nils a b),hv=>exact absurd ⟨a,b,rfl⟩ hv
    | .d .top,_ | .d (.bool _),_ | .d (.int _ _),_ | .d (.str _),_ | .d (.Z _ _),_ | .d .und,_ | .d (.agg _),_ | .d (.fn _),_ | .d .nilp,_ | .d .nilf,_ | .d .nilm,_ | .d .nili,_ | .d .ub,_ | .d (.iface _ _),_ | .d (.meth ..),_=>simp only [M1]
    | .ptr ..,_ | .el ..,_ | .rp ..,_ | .row _,_ | .sub ..,_ | .agg _,_ | .fn ..,_ | .tup _,_ | .mp _,_ | .bp ..,_ | .ir ..,_ | .irp ..,_=>simp only [M1]
   rw [e]
   exact rest h
def TG (c:Z6):Prop:=∀ h h':Nat→Option Obj,(∀ b x,h b=some x→h' b=some x)→c.qH h→c.qH h'
theorem tZ {CL:FuncId→Array Value→World→(Ending→World→Prop)→Prop}(hmono:∀ f a w R R',CL f a w R→(∀ e w',R e w'→R' e w')→CL f a w R'){no:Bool}(hm:TG c)(hg:c.qH g.h){fid:Nat}
  (hrec:∀ sk ds out,rec (.call fid sk ds)=some (true,out)→(no=true→c.orc fid sk ds=none)→rK CL c fid sk ds out) (S:J2 u p g st.h w) (hpq:∀ x,p x→q x) (hfr:U7 p q nid) {args0:List V} {vals:List Value} (hF:F2 (VV g) args0 vals) (hu:∀ x∈args0,x.K5 p)
  (h:eZ c rec no fid args0 nid st K=some r):∃ fn,c.P.funcs[fid]? = some fn∧fn.body.isSome=true∧∃ vv L9,K vv L9=some r∧CL fid vals.toArray w fun e w'=>∃ v,e = .returned v∧El u p q g st w vv L9 v w':=by
 unfold eZ at h
 split at h
 ·cases h
 ·rename_i fn hfn
  obtain⟨hb,h⟩:=I2 h
  rw [Bool.not_eq_false',A9] at hb
  have hparams:fn.params.toList.length≤8:=by simpa using B3 hb.2
  have hp0:∀ x,p x→(p x∨(nid+24≤x∧x<nid+24+0)):=fun x hx=> .inl hx
  obtain⟨g1,A1,A2,A3,A4,A5,A6⟩:=TT (P:=c.P) (own:=c.own fid) (p:=p) (nid:=nid) (fun k hk=>by have:=(hfr (24+k) (by omega)).1;rwa [← Nat.add_assoc] at this) (ts:=fn.params.toList) (i:=0) (xs:=args0) (vals:=vals) (h:=st.h) (g:=g) (by omega)
   (S.more hp0) hF (fun x hx=>(hu x hx).mono hp0)
  have A2':I6 p g g1:=⟨A2.h,fun o ho=>A2.blk o (.inl ho),fun o ho=>A2.hdr o (.inl ho),fun o ho=>A2.ihdr o (.inl ho)⟩
  generalize hargs:M1 c.P (c.own fid) nid 0 fn.params.toList args0 st.h=ah at h A1 A5 A6
  obtain⟨args,h0⟩:=ah
  simp only [] at h A1 A5 A6
  split at h
  ·cases h
  ·rename_i cf hcf
   obtain⟨hno,h⟩:=I2 h
   have hno':no=true→c.orc fid (rQ c.dep h0 (c.own fid) (c.cm fid) args) cf.ds=none:=by
    intro e
    rw [e,Bool.true_and] at hno
    simpa using hno
   unfold bT at h
   split at h
   ·rename_i out hout
    have hspec:=hrec _ _ _ hout hno' fn hfn
    generalize hsk:rQ c.dep h0 (c.own fid) (c.cm fid) args=sk at h hcf hout hspec
    obtain⟨gF,M⟩:=nQ (tm:=fun t=>vals.getD t undef) hcf A1 (FR A5) (sR A6) (fun l l' o h=>by cases h)
    have hlen:vals.toArray.size=sk.slots.length:=by
     rw [← hsk,EG];simp [A5.length]
    let p1:Nat→Prop:=fun x=>p x∨(nid+24≤x∧x<nid+32)
    have hpass:Pass u p1 (·<sk.objs.length) gF (eL g1 gF cf.ren) (K8 h0 cf.fz) (J6 E0 sk cf.ds).h w (fun l o=>I4 cf.ren l=some o):=by
     refine⟨M.S,M.Lz A1,fun _ _ h=>h,fun l x0 h0'=>?_⟩
     obtain⟨_,_,o,x,h1,h2,h3⟩:=M.ob l x0 h0'
     refine⟨o,x,h1,by rw [aN _ _ _ (M.lt l o h1).1];exact h2,fun b hb=>?_⟩
     rw [Q8 M.a.w (A1.use _ _ h2).1 fun i=>by rw [M.ihdr]]
     exact h3 b hb
    have hcalls:=hspec (jU (eL g1 gF cf.ren) (J6 E0 sk cf.ds).h w) (eL g1 gF cf.ren) (hm g.h gF.h (fun b x k=>M.a.h b x (A2'.h b x k)) hg) vals.toArray w hlen hpass.Lz (fun t=>⟨by simpa using M.tm t,M.nm t⟩)
    let osk:=V5 c.P (c.dres fid) fn.resultTypes.toList sk
    obtain⟨hol,h⟩:=I2 h
    rw [Bool.not_eq_false'] at hol
    have hol:osk.objs.length≤24:=B3 hol
    have hnew:∀ k,k<24→¬ p1 (nid+k)∧q (nid+k):=by
     intro k hk
     refine⟨?_,(hfr k (by omega)).2⟩
     rintro (k1|k1)
     ·exact (hfr k (by omega)).1 k1
     ·omega
    have hpq1:∀ x,p1 x→q x:=by
     intro x hx
     rcases hx with hx|⟨k1,k2⟩
     ·exact hpq x hx
     ·have:=(hfr (x-nid) (by omega)).2
      rwa [show nid+(x-nid)=x from by omega] at this
    have fin:∀ (gH:G) (hold:Nat→Option Ob) (L9:St),J2 u p1 gH hold w→I6 p1 g1 gH→gH.blk=g1.blk→gH.hdr=g1.hdr→gH.ihdr=g1.ihdr→(∀ b x,gH.h b=some x→gF.h b=some x)→
      (∀ o x,o∉cf.fz→h0 o=some x→hold o=some x)→((∀ b,gF.h b≠none→gH.h b≠none)∨(mH c.P osk=true∧U5 osk out=true))→aL osk out=true→
      L9.h=hold→L9.t=st.t→L9.m=st.m→
      K (merge sk osk cf.ren (L2 0 sk.objs) nid L9 out).1 (merge sk osk cf.ren (L2 0 sk.objs) nid L9 out).2=some r→
       ∃ fn,c.P.funcs[fid]? = some fn∧fn.body.isSome=true∧∃ vv L9,K vv L9=some r∧CL fid vals.toArray w fun e w'=>∃ v,e = .returned v∧El u p q g st w vv L9 v w':=by
     intro gH hold L9 SH aH bH dH iH sub hhold hmode hchk e1 e2 e3 hk
     refine⟨fn,hfn,hb.1,_,_,hk,hmono _ _ _ _ _ hcalls ?_⟩
     rintro e w' ⟨v,rfl,g',tm',S1,T1,X1,hkeep,rfl⟩
     refine⟨_,rfl,?_⟩
     obtain⟨g2,m1,m2,m3,mi,m4,m5⟩:=WE (P:=c.P) (osk:=osk) (nid:=nid) (q:=q) M SH A1 aH bH dH iH sub hhold hnew hpq1 (MV _ _ _ _) hol hmode hchk S1 T1 X1 hkeep
     have hm2:(merge sk osk cf.ren (L2 0 sk.objs) nid L9 out).2.h=bG (mU cf.ren (L2 0 sk.objs) nid) (O0 osk out).h (aY sk cf.ren (L2 0 sk.objs) hold 0 sk.objs) 0 osk.objs:=by rw [← e1];rfl
     refine⟨g2,by rw [hm2];exact m1,⟨fun b x k=>m2.h b x (aH.h b x (A2.h b x k)),fun x hx=>?_,fun x hx=>?_,fun x hx i v k=>m2.ihdr x (.inl hx) i v (by rw [aH.ihdr x (.inl hx),A2'.ihdr x hx];exact k)⟩,⟨fun b x k=>m2.h b x (aH.h b x (A2.h b x k)),m3.os,m3.tape,m3.output,m3.size⟩,m4,m5,e2,e3,fun x hx hn=>?_⟩
     ·rw [m2.blk x (.inl hx),aH.blk x (.inl hx),A2'.blk x hx]
     ·rw [m2.hdr x (.inl hx),aH.hdr x (.inl hx),A2'.hdr x hx]
     ·have e9:h0 x=st.h x:=by
       have:=NY (P:=c.P) (own:=c.own fid) (nid:=nid) (y:=x) (ts:=fn.params.toList) (i:=0) (xs:=args0) (h:=st.h) fun k hk e=>(hfr (24+k) (by omega)).1 (by rw [← Nat.add_assoc,← e];exact hx)
       rw [hargs] at this
       exact this
      rw [mi x (.inl hx) (e9.trans hn),aH.ihdr x (.inl hx),A2'.ihdr x hx]
    have gFh:∀ b x,g1.h b=some x→gF.h b=some x:=M.a.h
    cases hfz:cf.fz.isEmpty with
    |true=>
     rw [hfz] at h
     simp only [cond_true] at h
     obtain⟨hchk,h⟩:=H3 h
     have hnil:cf.fz=[]:=by simpa using hfz
     have hS:J2 u p1 gF h0 w:=by have:=M.S;rw [hnil] at this;exact this
     exact fin gF h0 { st with h:=h0 } hS M.a M.blk M.hdr M.ihdr (fun _ _ h=>h) (fun _ _ _ h=>h) (.inl fun _ h=>h) hchk rfl rfl rfl h
    |false=>
     rw [hfz] at h
     simp only [cond_false] at h
     cases hpl:mH c.P (V5 c.P (c.dres fid) fn.resultTypes.toList sk) with
     |true=>
      rw [hpl] at h
      simp only [cond_true] at h
      obtain⟨hchk,h⟩:=H3 h
      simp only [A9] at hchk
      exact fin g1 h0 { st with h:=h0 } A1 (I6.refl _ g1) rfl rfl rfl gFh (fun _ _ _ h=>h) (.inr ⟨hpl,hchk.2⟩) hchk.1 rfl rfl rfl h
     |false=>
      rw [hpl] at h
      simp only [cond_false] at h
      obtain⟨hchk,h⟩:=H3 h
      exact fin gF (K8 h0 cf.fz) (St.freeze { st with h:=h0 } cf.fz) M.S M.a M.blk M.hdr M.ihdr (fun _ _ h=>h) (fun o x ho hx=>by rw [aN _ _ _ ho];exact hx) (.inl fun _ h=>h) hchk rfl rfl rfl h
   ·cases h
theorem rW (hm:TG c)(hg:c.qH g.h)(hrec:gS c rec)(S:At u p g st a w)(hpq:∀ x,p x→q x)(hfr:U7 p q nid){fid:Nat}{args0:List V}{vals:List Value}(hF:F2 (VV g) args0 vals)(hu:∀ x∈args0,x.K5 p)
  (hrun:∀ fn,c.P.funcs[fid]? = some fn→fn.body.isSome=true→(execOp a.eval o).run c.P w = .ok (.enter fid vals.toArray) w)
  (h:eZ c rec false fid args0 nid st K=some r):Goal u p q g st a w c.P o K r:=by
 obtain⟨fn,hfn,hb,vv,L9,hk,hc⟩:=tZ (CL:=Calls c.P) (fun f a w R R' h hr=>h.mono hr) hm hg (fun sk ds out h _=>(hrec _ _ _ _ h).1) S.hp hpq hfr hF hu h
 exact⟨vv,L9,hk,.inr (.inr ⟨fid,vals.toArray,w,hrun fn hfn hb,hc⟩)⟩
end
end Go.AE
namespace Go.AE
open Go.RowKit
section
variable {u:Nat→Option Obj} {p q:Nat→Prop} {g:G} {st:St} {a:Act} {w:World} {c:Z6} {o:Oper} {R:Type} {K:V→St→Option R} {r:R} {nid:Nat} {rec:Task→Out}
def NS (c:Z6):Prop:=∀ (f:Nat) (ds r:List D),c.ext f ds=some (true,r)→∀ (g:G) (vals:Array Value) (w:World),F2 (VV g) (ds.map V.d) vals.toList→
 ∃ v,(callFunc f vals).run c.P w = .ok (.value v) w∧VV g (FU (r.map V.d)) v
def HL (c:Z6):Prop:=∀ (n:Nat) (xs:List D),c.glob n=some xs→∀ h,c.qH h→HG h 1 xs ⟨n,0,none⟩
def TC (c:Z6):Prop:=∀ f,c.cc f=true→∀ e off,c.ZR e=some off→∀ (w:World) (b:Nat) (cells:Array Value) (v0:Value),w.heap[b]? = some (.cells cells e (0,0))→cells.size=K2 c.P e→cells.toList[off]? = some v0→
 (v0 = .pointer none∨v0 = .pointer (some ⟨b,off,none⟩))→(∃ fn,c.P.funcs[f]? = some fn∧fn.body.isSome=true)∧Calls c.P f #[.pointer (some ⟨b,off,none⟩)] w fun ex w'=>ex = .returned (.tuple #[])∧
  (w'=w∨w'=w.setRow b (cells.setIfInBounds off (.pointer (some ⟨b,off,none⟩))))
def HJ (c:Z6):Prop:=∀ f,c.bstr f=true→∀ e off,c.ZR e=some off→∀ (w:World) (b:Nat) (cells:Array Value) (v:Value) (l:G0),w.heap[b]? = some (.cells cells e (0,0))→cells.toList[off+1]? = some v→
 w.ownsRow 0 c.bty 1 v l.length (l.map fun x=>Value.int .u8 x.toNat)→v.ownBlock≠some b→l.length≤maxLen→
 (∃ fn,c.P.funcs[f]? = some fn∧fn.body.isSome=true)∧Calls c.P f #[.pointer (some ⟨b,off,none⟩)] w fun ex w'=>ex = .returned (.string ⟨l.toArray⟩)∧w'.os=w.os∧w'.tape=w.tape∧w'.output=w.output∧w.heap.size≤w'.heap.size∧
  ∀ k,k<w.heap.size→some k≠v.ownBlock→w'.heap[k]? = w.heap[k]?
def DN (c:Z6):Prop:=∀ f,c.cln f=true→∀ w:World,(∃ fn,c.P.funcs[f]? = some fn∧fn.body.isSome=true)∧Calls c.P f #[.slice none 0 0] w fun ex w'=>ex = .returned (.slice none 0 0)∧w'=w
def S8 (c:Z6):Prop:=(∀ (f:Nat) (fn:Func),c.P.funcs[f]? = some fn→(fn.name=="runtime.NumGoroutine")=false)∧NS c∧TG c∧HL c∧TC c∧HJ c∧DN c
theorem OP (S:At u p g st a w):∀ xs:List Operand,F2 (VV g) (xs.map (I1 st)) (xs.map a.eval)
 |[]=> .nil
 |x::xs=> .cons (S.ev x) (OP S xs)
theorem tG (hn:S8 c){fid:Nat}{fn:Func}(hf:c.P.funcs[fid]? = some fn)(hb:fn.body.isSome=true){q:Call}{fo:Operand}(ho:o.op = .call q)(hc:q.callee = .value fo){caps:Array Value}(hv:a.eval fo = .func (.func fid) #[] caps) :
  (execOp a.eval o).run c.P w = .ok (.enter fid (q.args.map a.eval++caps)) w:=by
 have hname:=hn.1 fid fn hf
 have hname:fn.name≠"runtime.NumGoroutine":=by simpa using hname
 have hbn:fn.body≠none:=by intro h;rw [h] at hb;cases hb
 simp only [execOp,ho,resolve,hc,hv,Deferred.ofValue]
 simp [invoke,callFunc,hf,hname,hbn]
theorem F2.Xp {α β:Type}{R:α→β→Prop}{zs:List α}{bs:List β}(h:F2 R zs bs):∀ {j:Nat} {a:α} {b:β},zs[j]? = some a→R a b→F2 R zs (bs.set j b):=by
 induction h with
 |nil=>intro j a b hb;simp at hb
 |cons hr hs ih=>
  intro j a b hb ha
  cases j with
  |zero=>simp at hb;subst hb;exact .cons ha hs
  |succ j=>exact .cons hr (ih (by simpa using hb) ha)
theorem nB:∀ {xs:List D} {us:List Value} {h:Nat→Option Obj},mC xs=true→aT h 1 xs us→us=(xs.map toByte).map fun x=>Value.int .u8 x.toNat
 |[],us,h,_,hv=>by cases hv;rfl
 | .int .u8 n::xs,us,h,hb,hv=>by
  simp only [mC,A9,decide_eq_true_eq] at hb
  obtain⟨v,r,rfl,_,_,hv1,hv2⟩:=hv
  have hv1:v = .int .u8 n:=hv1
  subst hv1
  have e:((UInt8.ofNat n.toNat).toNat:Int)=n:=by
   rw [UInt8.toNat_ofNat_of_lt' (by show n.toNat<256;omega)]
   omega
  rw [nB hb.2 hv2]
  simp only [List.map_cons,toByte,e]
  rfl
theorem YJ (hcc:TC c)(hbs:HJ c)(hcl:DN c)(S:J2 u p g st.h w)(hpq:∀ x,p x→q x){fid:Nat}{args:List V}{vals:List Value}{vv:V}{st':St}(hF:F2 (VV g) args vals)(hx:YI c fid args st=some (true,vv,st')) :
  (∃ fn,c.P.funcs[fid]? = some fn∧fn.body.isSome=true)∧Calls c.P fid vals.toArray w fun ex w'=>∃ v,ex = .returned v∧El u p q g st w vv st' v w':=by
 unfold YI at hx
 split at hx
 ·rename_i o off
  split at hx
  ·rename_i cs hcs
   split at hx
   ·rename_i t o' f hbp
    replace hx:=H3 hx
    obtain⟨hb,hx⟩:=hx
    simp only [A9] at hb
    obtain⟨⟨⟨hb1,hb2⟩,hb3⟩,hb4⟩:=hb
    have ho:o'=o:=B0 hb1
    have hf:f=off:=B0 hb2
    subst ho;subst hf
    have hbld:c.ZR t=some f:=by
     split at hb3
     ·rename_i k hk
      rw [hk,B0 hb3]
     ·cases hb3
    obtain⟨cells,e,hbk,hFc,h1,h2⟩:=S.ob _ _ hcs
    have he:e=t:=h2 _ _ _ (List.mem_of_getElem? hbp)
    subst he
    have hsz:cells.size=K2 c.P e:=by rw [← E4,← hFc.length];exact B0 hb4
    obtain⟨v0,hv0,hr0⟩:=hFc.get f _ hbp
    have hr0:v0 = .pointer none∨v0 = .pointer (some ⟨g.blk o',f,none⟩):=hr0
    cases hF with
    |cons ha hF=>
    cases hF
    have ha:=rN ha
    subst ha
    have hpo:p o':=(S.use _ _ hcs).1
    cases hc1:c.cc fid with
    |true=>
     rw [hc1] at hx
     simp only [cond_true,B1,C7,true_and] at hx
     obtain⟨rfl,rfl⟩:=hx
     obtain⟨hfn,hcall⟩:=hcc fid hc1 e f hbld w (g.blk o') cells v0 hbk hsz hv0 hr0
     refine⟨hfn,hcall.mono fun ex w' ⟨hex,hw⟩=>⟨_,hex,?_⟩⟩
     have hV:VV g (.tup []) (.tuple #[]):=⟨#[],rfl,.nil⟩
     rcases hw with rfl|rfl
     ·exact⟨g,S.more hpq,I6.refl p g,Ext.refl g _,hV,(fun z hz=>by cases hz),rfl,rfl,fun _ _ _=>rfl⟩
     ·have hn:VA g (.bp e o' f) (.pointer (some ⟨g.blk o',f,none⟩)):=Or.inr rfl
      have hsim:=jQ (h':=st.h) (cs':=cs) (c':=cells.setIfInBounds f (.pointer (some ⟨g.blk o',f,none⟩))) S hcs hbk (by rw [Array.toList_setIfInBounds];exact hFc.Xp hbp hn)
       (by
        intro y hy
        rw [Array.toList_setIfInBounds] at hy
        rcases List.mem_or_eq_of_mem_set hy with hy|rfl
        ·exact h1 y hy
        ·rfl) (S.use _ _ hcs).2 h2 (fun x=>by
         by_cases e:x=o'
         ·subst e;rw [if_pos rfl];exact hcs
         ·rw [if_neg e])
      exact⟨g,hsim.more hpq,I6.refl p g,X3 (I6.refl p g) _ _,hV,(fun z hz=>by cases hz),rfl,rfl,fun _ _ _=>rfl⟩
    |false=>
     rw [hc1] at hx
     simp only [cond_false] at hx
     cases hc2:c.bstr fid with
     |false=>rw [hc2] at hx;cases hx
     |true=>
      rw [hc2] at hx
      simp only [cond_true] at hx
      split at hx
      ·rename_i ro hro
       split at hx
       ·rename_i e2 sz xs hrow
        simp only [B1,C7,A9] at hx
        obtain⟨hb,hx⟩:=hx
        obtain⟨⟨k1,k2⟩,k3⟩:=hb
        have k2:sz=1:=B0 k2
        have k3:e2=c.bty:=B0 k3
        subst k2;subst k3
        obtain⟨rfl,rfl⟩:=hx
        obtain⟨v1,hv1,hr1⟩:=hFc.get (f+1) _ hro
        have hr1:v1=g.hdr ro:=hr1.1
        subst hr1
        obtain⟨us,hpos,hown,hf⟩:=S.ob _ _ hrow
        have hus:=nB k1 hf
        subst hus
        have hne:(g.hdr ro).ownBlock≠some (g.blk o'):=by
         intro e
         have:=S.inj ro o' _ _ (g.blk o') hrow hcs e rfl
         subst this
         rw [hrow] at hcs;cases hcs
        have hml:xs.length≤maxLen:=by
         rcases J0 hown with ⟨_,h0,_⟩|⟨_,cap,_,_,_,_,h4,h5,_⟩
         ·rw [h0];exact C4 _
         ·omega
        obtain⟨hfn,hcall⟩:=hbs fid hc2 e f hbld w (g.blk o') cells _ (xs.map toByte) hbk hv1 (by rw [List.length_map];exact hown) hne (by rw [List.length_map];exact hml)
        refine⟨hfn,hcall.mono fun ex w' ⟨hex,a1,a2,a3,a4,a5⟩=>⟨_,hex,g,?_,I6.refl p g,⟨fun _ _ h=>h,a1,a2,a3,a4⟩,⟨_,rfl,rfl⟩,trivial,rfl,rfl,fun _ _ _=>rfl⟩⟩
        refine S.update (I6.refl p g) rfl (g.hdr ro).ownBlock a5 (fun b hb=>S.sep ro _ b hrow hb) hpq ro ?_ ?_
        ·intro o1 x hx hne1
         rw [J7,if_neg hne1] at hx
         exact⟨hx,fun b hb e=>hne1 (S.inj o1 ro _ _ b hx hrow hb e.symm)⟩
        ·intro x hx
         rw [J7,if_pos rfl] at hx
         cases hx
       ·cases hx
      ·cases hx
   ·cases hx
  ·cases hx
 ·rename_i x y
  obtain⟨hc,hx⟩:=H3 hx
  simp only [B1,C7,true_and] at hx
  obtain⟨rfl,rfl⟩:=hx
  cases hF with
  |cons ha hF=>
  cases hF
  have ha:_=Value.slice none 0 0:=ha
  subst ha
  obtain⟨hfn,hcall⟩:=hcl fid hc w
  refine⟨hfn,hcall.mono fun ex w' ⟨hex,hw⟩=>⟨_,hex,?_⟩⟩
  subst hw
  exact⟨g,S.more hpq,I6.refl p g,Ext.refl g _,rfl,trivial,rfl,rfl,fun _ _ _=>rfl⟩
 ·cases hx
theorem Di (hn:S8 c)(hg:c.qH g.h)(hrec:gS c rec)(S:At u p g st a w)(hpq:∀ x,p x→q x)(hfr:U7 p q nid){q':Call}{fo:Operand}(ho:o.op = .call q')(hc:q'.callee = .value fo)
  (h:BP c rec (I1 st fo) (q'.args.toList.map (I1 st)) nid st K=some r):Goal u p q g st a w c.P o K r:=by
 have hvf:=S.ev fo
 have huf:=S.L7 fo
 have hargs:=OP S q'.args.toList
 have hua:∀ x∈q'.args.toList.map (I1 st),x.K5 p:=fun x hx=>by obtain⟨y,_,rfl⟩:=List.mem_map.1 hx;exact S.L7 y
 unfold BP at h
 split at h
 ·rename_i fid he
  rw [he] at hvf
  split at h
  ·rename_i b1 vv1 L9 hx
   obtain⟨hb1,h⟩:=H3 h
   subst hb1
   obtain⟨⟨fn,hfn,hbd⟩,hc1⟩:=YJ hn.2.2.2.2.1 hn.2.2.2.2.2.1 hn.2.2.2.2.2.2 S.hp hpq (vals:=q'.args.toList.map a.eval) hargs hx
   refine⟨vv1,L9,h,.inr (.inr ⟨fid,(q'.args.toList.map a.eval).toArray,w,?_,hc1⟩)⟩
   rw [tG hn hfn hbd ho hc hvf]
   congr 2
   apply Array.ext'
   simp
  split at h
  ·rename_i b r' hx
   split at hx
   ·rename_i ds hds
    obtain⟨hb,h⟩:=H3 h
    subst hb
    have hl:=oY hds
    rw [hl] at hargs
    obtain⟨v,h1,h2⟩:=hn.2.1 fid ds r' hx g (q'.args.map a.eval) w (by simpa using hargs)
    refine Goal.val S hpq h (v:=v) ?_ h2 ?_
    ·simp only [execOp,ho,resolve,hc,show a.eval fo=_ from hvf,Deferred.ofValue]
     simp [invoke,h1]
    ·cases r' with
     |nil=>intro z hz;cases hz
     |cons x r'=>cases r' with
      |nil=>trivial
      |cons y r'=>intro z hz;obtain⟨d,_,rfl⟩:=List.mem_map.1 (show z∈(x::y::r').map V.d from hz);trivial
   ·cases hx
  refine rW hn.2.2.1 hg hrec S hpq hfr hargs hua (fun fn hf hb=>?_) h
  rw [tG hn hf hb ho hc hvf]
  congr 2
  apply Array.ext'
  simp
 ·rename_i fid caps he
  rw [he] at hvf huf
  have hcaps:∃ us:Array Value,a.eval fo = .func (.func fid) #[] us∧F2 (VV g) caps us.toList∧∀ x∈caps,x.K5 p:=by
   cases caps with
   |nil=>exact⟨#[],hvf,.nil,fun x hx=>by cases hx⟩
   |cons c0 caps=>
    obtain⟨us,h1,h2⟩:=hvf
    refine⟨us,h1,h2.mono fun _ _ _ h=>P1 (W6 h),fun x hx=>?_⟩
    obtain⟨b,_,hb⟩:=h2.mem x hx
    exact O2 (aV hb (huf x hx))
  obtain⟨us,h1,h2,h3⟩:=hcaps
  refine rW hn.2.2.1 hg hrec S hpq hfr (hargs.append h2) (fun x hx=>?_) (fun fn hf hb=>?_) h
  ·rcases D5.1 hx with hx|hx
   ·exact hua x hx
   ·exact h3 x hx
  ·rw [tG hn hf hb ho hc h1]
   congr 2
   apply Array.ext'
   simp
 ·cases h
theorem MQ (S:At u p g st a w)(hpq:∀ x,p x→q x)(hfr:U7 p q nid){q':Call}{b:Builtin}(ho:o.op = .call q')(hc:q'.callee = .builtin b)
  (h:eX c b q'.argTypes (q'.args.toList.map (I1 st)) nid st K=some r):Goal u p q g st a w c.P o K r:=by
 unfold eX at h
 have one:∀ v,q'.args.toList.map (I1 st)=[v]→∃ x,q'.args=#[x]∧I1 st x=v:=by
  intro v hv
  cases ha:q'.args.toList with
  |nil=>rw [ha] at hv;cases hv
  |cons x xs=>
   rw [ha] at hv
   simp only [List.map_cons,List.cons.injEq,List.map_eq_nil_iff] at hv
   obtain⟨h1,h2⟩:=hv
   subst h2
   exact⟨x,by apply Array.ext';simpa using ha,h1⟩
 have two:∀ v v',q'.args.toList.map (I1 st)=[v,v']→∃ x y,q'.args=#[x,y]∧I1 st x=v∧I1 st y=v':=by
  intro v v' hv
  cases ha:q'.args.toList with
  |nil=>rw [ha] at hv;cases hv
  |cons x xs=>
   rw [ha] at hv
   simp only [List.map_cons,List.cons.injEq] at hv
   obtain⟨h1,h2⟩:=hv
   cases xs with
   |nil=>cases h2
   |cons y ys=>
    simp only [List.map_cons,List.cons.injEq,List.map_eq_nil_iff] at h2
    obtain⟨h2,h3⟩:=h2
    subst h3
    exact⟨x,y,by apply Array.ext';simpa using ha,h1,h2⟩
 split at h
 ·rename_i x hx
  obtain⟨x',h1,rfl⟩:=one _ hx
  split at h
  ·rename_i t ht
   exact Ku S hpq ho hc h1 rfl ht h
  ·cases h
 ·rename_i s x hx
  obtain⟨x',y',h1,rfl,rfl⟩:=two _ _ hx
  split at h
  ·rename_i t t' hts
   cases htb:Nat.beq t t' with
   |true=>
    rw [htb] at h
    simp only [cond_true] at h
    have htt:t=t':=beq_iff.1 htb
    rw [← htt] at hts
    exact SB S hpq hfr ho hc h1 (by apply Array.ext';simpa using hts) h
   |false=>
    rw [htb] at h
    simp only [cond_false] at h
    obtain⟨hst,h⟩:=H3 h
    split at h
    ·rename_i s' hs'
     have hu:c.P.underlying t'=some .string:=by
      split at hst
      ·rename_i k;exact k
      ·cases hst
     exact MP S hpq hfr ho hc h1 (by apply Array.ext';simpa using hts) hu hs' h
    ·cases h
  ·cases h
 ·rename_i d x hx
  obtain⟨x',y',h1,rfl,rfl⟩:=two _ _ hx
  split at h
  ·rename_i t t' hts
   split at h
   ·rename_i e he
    obtain⟨hb,h⟩:=H3 h
    simp only [A9] at hb
    exact Dj S hpq ho hc h1 rfl (by apply Array.ext';simpa using hts) he hb.1 h (beq_iff.1 hb.2)
   ·cases h
  ·cases h
 ·rename_i x hx
  obtain⟨x',h1,rfl⟩:=one _ hx
  split at h
  ·rename_i t hts
   exact WZ S hpq ho hc h1 (by apply Array.ext';simpa using hts) h
  ·cases h
 ·rename_i k n k' m hx
  obtain⟨x',y',h1,h2,h3⟩:=two _ _ hx
  obtain⟨hb,h⟩:=H3 h
  exact (CV S hpq ho hc h1 h2 h3 (E7 hb)).1 rfl h
 ·rename_i k n k' m hx
  obtain⟨x',y',h1,h2,h3⟩:=two _ _ hx
  obtain⟨hb,h⟩:=H3 h
  exact (CV S hpq ho hc h1 h2 h3 (E7 hb)).2 rfl h
 ·cases h
theorem MT (hn:HL c)(hg:c.qH g.h)(S:At u p g st a w)(hpq:∀ x,p x→q x){x i:Operand}{t:TypeId}(ho:o.op = .indexAddr t x i)
  (h:dE c t x (I1 st x) (I1 st i) st K=some r):Goal u p q g st a w c.P o K r:=by
 unfold dE at h
 split at h
 ·rename_i n
  have hvi:=S.ev i
  split at h
  ·rename_i xs len e k m hx ht hi
   obtain⟨hb,h⟩:=H3 h
   simp only [A9,decide_eq_true_eq] at hb
   obtain⟨⟨⟨⟨h1,h2⟩,h3⟩,h4⟩,h5⟩:=hb
   rw [hi] at hvi
   have hvi:=dU hvi
   obtain⟨d,info,hd,hinfo,_,hsz⟩:=R4 h1
   have hl:len=xs.length:=B0 h3
   have hs:K2 c.P e=1:=B0 h2
   have hE:c.P.elem t=e:=by simp [Program.elem,ht]
   have hL:c.P.arrayLen t=len:=by simp [Program.arrayLen,ht]
   have run:(execOp a.eval o).run c.P w = .ok (.value (.pointer (some ((⟨n,0,none⟩:Addr).add (m.toNat*1))))) w:=by
    have e0:a.eval (.global n) = .pointer (some ⟨n,0,none⟩):=rfl
    simp only [execOp,ho,e0,hvi]
    simp [run_indexAt_array w t ⟨n,0,none⟩ k m (by rw [hL,hE];exact ht),h4,hL,hl,h5,hE,R3 hinfo,← hsz,hs]
   refine Goal.val S hpq h run ?_ trivial
   exact⟨⟨n,0,none⟩,hn n xs hx _ hg,by omega,by rw [Nat.add_zero]⟩
  ·cases h
 ·split at h
  ·rename_i vo off k m hx hi
   have hvx:=S.ev x
   have hux:=S.L7 x
   have hvi:=S.ev i
   rw [hx] at hvx hux
   rw [hi] at hvi
   have hvi:=dU hvi
   have hvx:a.eval x = .pointer (some ⟨g.blk vo,off,none⟩):=hvx
   unfold vG at h
   split at h
   ·rename_i len e ht
    obtain⟨hb,h⟩:=H3 h
    simp only [A9,decide_eq_true_eq] at hb
    obtain⟨⟨h1,h4⟩,h5⟩:=hb
    obtain⟨d,info,hd,hinfo,_,hsz⟩:=R4 h1
    have hE:c.P.elem t=e:=by simp [Program.elem,ht]
    have hL:c.P.arrayLen t=len:=by simp [Program.arrayLen,ht]
    have run:(execOp a.eval o).run c.P w = .ok (.value (.pointer (some ((⟨g.blk vo,off,none⟩:Addr).add (m.toNat*K2 c.P e))))) w:=by
     simp only [execOp,ho,hvx,hvi]
     simp [run_indexAt_array w t ⟨g.blk vo,off,none⟩ k m (by rw [hL,hE];exact ht),h4,hL,h5,hE,R3 hinfo,← hsz]
    rw [H8] at run
    exact Goal.val S hpq h run rfl hux
   ·cases h
  ·exact GA S hpq ho h
theorem yT {P:Program}{t f:Nat}{nm:String}(h:qU P t nm=some f):∃ i d m,P.info? t=some i∧P.underlying t=some d∧(∀ e,d≠ .pointer e)∧i.methods.find? (·.name==nm)=some m∧m.path=#[]∧m.func=some (f,false):=by
 unfold qU at h
 split at h
 ·cases h
 ·rename_i i d hnp hi hd
  split at h
  ·rename_i m hm
   obtain⟨hp,h⟩:=H3 h
   split at h
   ·rename_i f' hf
    cases h
    exact⟨i,d,m,hi,hd,fun e he=>hnp e he,hm,by simpa using hp,hf⟩
   ·cases h
  ·cases h
 ·cases h
theorem JX {P:Program}{t f k:Nat}{nm:String}{v:Value}{w:World}{i:TypeInfo}{m:Method}{d:TypeDesc}(hd:P.underlying t=some d)(hnp:∀ e,d≠ .pointer e)(hi:P.info? t=some i)(hm:i.methods.find? (·.name==nm)=some m)(hp:m.path=#[])(hf:m.func=some (f,false)):(method (k+1) t v nm).run P w = .ok (f,v) w:=by
 have ht:(typeInfo t).run P w = .ok i w:=by simp [typeInfo,hi]
 have h1:∀ x,(receiverAt t (.val v) false x).run P w = .ok v w:=by
  intro x
  unfold receiverAt
  simp only [Sem.run_bind,run_underlying hd,Result.andThen_ok]
  cases d with
  |pointer e=>exact absurd rfl (hnp e)
  |_=>rfl
 have h2:(follow m.path.toList t (Place.val v)).run P w = .ok (t,Place.val v) w:=by rw [hp];rfl
 unfold method
 rw [Sem.run_bind,ht]
 simp only [Result.andThen_ok,hm]
 rw [Sem.run_bind,h2]
 simp only [Result.andThen_ok,hf]
 rw [Sem.run_bind,h1]
 rfl
theorem BD {P:Program}{t f k:Nat}{nm:String}{v:Value}{w:World}{i:TypeInfo}{m:Method}{d:TypeDesc}(hd:P.underlying t=some d)(hnp:∀ e,d≠ .pointer e)(hi:P.info? t=some i)(hm:i.methods.find? (·.name==nm)=some m)(hp:m.path=#[])(hf:m.func=some (f,false)):(nilAhead (k+1) t v nm).run P w = .ok (some false) w:=by
 have ht:(typeInfo t).run P w = .ok i w:=by simp [typeInfo,hi]
 have h2:(followBlind m.path.toList t (some v)).run P w = .ok (.ok (t,some v)) w:=by rw [hp];rfl
 unfold nilAhead
 rw [Sem.run_bind,ht]
 simp only [Result.andThen_ok,hm]
 rw [Sem.run_bind,h2]
 simp only [Result.andThen_ok,hf]
 rw [Sem.run_bind,run_underlying hd]
 simp only [Result.andThen_ok]
 cases d with
 |pointer e=>exact absurd rfl (hnp e)
 |_=>rfl
theorem NG {P:Program}{t f k:Nat}{nm:String}{v:Value}(h:qU P t nm=some f):(method (k+1) t v nm).run P w = .ok (f,v) w:=by
 obtain⟨i,d,m,hi,hd,hnp,hm,hp,hf⟩:=yT h
 exact JX hd hnp hi hm hp hf
theorem GR {P:Program}{t f k:Nat}{nm:String}{v:Value}(h:qU P t nm=some f):(nilAhead (k+1) t v nm).run P w = .ok (some false) w:=by
 obtain⟨i,d,m,hi,hd,hnp,hm,hp,hf⟩:=yT h
 exact BD hd hnp hi hm hp hf
theorem SG (S:At u p g st a w)(hpq:∀ x,p x→q x){nm:String}{first captured:Array Operand}(ho:o.op = .makeFunc (.method nm) first captured){r0:Operand}(hf:first.toList=[r0])(hc:captured.isEmpty=true){t:Nat}{d:D}(hx:I1 st r0 = .d (.iface t d))
  (h:K (.d (.meth t nm d)) st=some r):Goal u p q g st a w c.P o K r:=by
 have hv:=S.ev r0
 rw [hx] at hv
 obtain⟨u',hu,hd⟩:=hv
 have e1:first=#[r0]:=by apply Array.ext';simpa using hf
 have e2:captured=#[]:=by simpa using hc
 have run:(execOp a.eval o).run c.P w = .ok (.value (.func (.method nm) #[.iface t u'] #[])) w:=by
  simp only [execOp,ho,e1,e2]
  simp [Instr.makeFunc,hu]
 exact Goal.val S hpq h run ⟨u',rfl,hd⟩ trivial
theorem GF (S:At u p g st a w)(hpq:∀ x,p x→q x){x:Operand}(ho:o.op = .nilCheck x){t:Nat}{nm:String}{d:D}(hx:I1 st x = .d (.meth t nm d))(hm:(qU c.P t nm).isSome=true)
  (h:K (.d (.meth t nm d)) st=some r):Goal u p q g st a w c.P o K r:=by
 have hv:=S.ev x
 rw [hx] at hv
 obtain⟨u',hu,hd⟩:=hv
 obtain⟨f,hf⟩:=Option.isSome_iff_exists.1 hm
 have run:(execOp a.eval o).run c.P w = .ok (.value (a.eval x)) w:=by
  have hn:=GR (w:=w) (k:=c.P.types.size+(Made.depth-1)) (v:=u') hf
  have e:c.P.types.size+(Made.depth-1)+1=c.P.types.size+Made.depth:=by simp [Made.depth]
  rw [e] at hn
  simp only [execOp,ho,hu]
  simp [hn]
 rw [hu] at run
 exact Goal.val S hpq h run ⟨u',rfl,hd⟩ trivial
theorem ND (hn:S8 c){fid t:Nat}{fn:Func}{nm:String}{u':Value}(hf:c.P.funcs[fid]? = some fn)(hb:fn.body.isSome=true){q:Call}{x:Operand}(ho:o.op = .call q)(hc:q.callee = .invoke x nm)(hv:a.eval x = .iface t u')(hm:qU c.P t nm=some fid) :
  (execOp a.eval o).run c.P w = .ok (.enter fid (#[u']++q.args.map a.eval)) w:=by
 have hname:=hn.1 fid fn hf
 have hname:fn.name≠"runtime.NumGoroutine":=by simpa using hname
 have hbn:fn.body≠none:=by intro h;rw [h] at hb;cases hb
 have hr:=NG (w:=w) (k:=c.P.types.size+(Made.depth-1)) (v:=u') hm
 have e:c.P.types.size+(Made.depth-1)+1=c.P.types.size+Made.depth:=by simp [Made.depth]
 rw [e] at hr
 have h0:(#[Value.iface t u']++Array.map a.eval q.args)[0]? = some (.iface t u'):=by
  rw [Array.getElem?_append_left (by simp)];rfl
 simp only [execOp,ho,resolve,hc,hv]
 simp only [Sem.run_bind,Sem.run_pure,Result.andThen_ok,invoke,h0]
 have hx:(q.args.map a.eval).extract 0 q.args.size=q.args.map a.eval:=by
  apply Array.ext'
  simp only [Array.toList_extract,Array.toList_map,List.extract_eq_take_drop,List.drop_zero,Nat.sub_zero]
  exact List.take_of_length_le (by simp)
 simp [callMethod,hr,callFunc,hf,hname,hbn,hx]
theorem SE (hn:S8 c)(hg:c.qH g.h)(hrec:gS c rec)(S:At u p g st a w)(hpq:∀ x,p x→q x)(hfr:U7 p q nid){q':Call}{x:Operand}{nm:String}(ho:o.op = .call q')(hc:q'.callee = .invoke x nm){t fid:Nat}{d:D}(hx:I1 st x = .d (.iface t d))(hm:qU c.P t nm=some fid)
  (h:eZ c rec false fid (.d d::q'.args.toList.map (I1 st)) nid st K=some r):Goal u p q g st a w c.P o K r:=by
 have hv:=S.ev x
 rw [hx] at hv
 obtain⟨u',hu,hd⟩:=hv
 have hargs:=OP S q'.args.toList
 have hua:∀ x∈q'.args.toList.map (I1 st),x.K5 p:=fun x hx=>by obtain⟨y,_,rfl⟩:=List.mem_map.1 hx;exact S.L7 y
 refine rW (vals:=u'::q'.args.toList.map a.eval) hn.2.2.1 hg hrec S hpq hfr (.cons (show VV g (.d d) u' from hd) hargs) (fun y hy=>?_) (fun fn hf hb=>?_) h
 ·rcases B7.1 hy with rfl|hy
  ·trivial
  ·exact hua y hy
 ·rw [ND hn hf hb ho hc hu hm]
  congr 2
  apply Array.ext'
  simp
theorem XC (S:At u p g st a w)(hpq:∀ x,p x→q x){x:Operand}{t:TypeId}(ho:o.op = .makeInterface t x){d:D}{ds:TypeDesc}(ht:c.P.underlying t=some ds)(hni:∀ i,ds≠ .interface i)(hx:I1 st x = .d d)
  (h:K (.d (.iface t d)) st=some r):Goal u p q g st a w c.P o K r:=by
 have hv:=S.ev x
 rw [hx] at hv
 have run:(execOp a.eval o).run c.P w = .ok (.value (.iface t (a.eval x))) w:=by
  simp only [execOp,ho]
  have:(Instr.makeInterface t (a.eval x)).run c.P w = .ok (.iface t (a.eval x)) w:=by
   simp only [Instr.makeInterface,Sem.run_bind,run_underlying ht,Result.andThen_ok]
   cases ds<;>first|rfl|exact absurd rfl (hni _)
  simp [this]
 exact Goal.val S hpq h run ⟨_,rfl,hv⟩ trivial
theorem SD (S:At u p g st a w)(hpq:∀ x,p x→q x){x:Operand}{t:TypeId}(ho:o.op = .makeInterface t x){d:D}{fz:List Nat}{ds:TypeDesc}(ht:c.P.underlying t=some ds)(hni:∀ i,ds≠ .interface i)(hx:Ee st.h (I1 st x)=some (d,fz))
  (h:K (.d (.iface t d)) (st.freeze fz)=some r):Goal u p q g st a w c.P o K r:=by
 have run:(execOp a.eval o).run c.P w = .ok (.value (.iface t (a.eval x))) w:=by
  simp only [execOp,ho]
  have:(Instr.makeInterface t (a.eval x)).run c.P w = .ok (.iface t (a.eval x)) w:=by
   simp only [Instr.makeInterface,Sem.run_bind,run_underlying ht,Result.andThen_ok]
   cases ds<;>first|rfl|exact absurd rfl (hni _)
  simp [this]
 obtain⟨g1,a1,b1,c1,s1,i1,j1⟩:=S.hp.freeze fz
 have hv:=oO (S.ev x) (S.L7 x) hx (fun o ho=>ho) a1 s1 i1
 exact Goal.res h run (s1.more hpq) a1 ⟨a1.h,rfl,rfl,rfl,B9 _⟩ ⟨_,rfl,hv⟩ trivial rfl rfl
theorem JN (hn:S8 c)(hg:c.qH g.h)(hrec:gS c rec)(S:At u p g st a w)(hpq:∀ x,p x→q x)(hfr:U7 p q nid)(h:CU c rec o nid st K=some r):Goal u p q g st a w c.P o K r:=by
 unfold CU at h
 simp only [] at h
 split at h
 ·rename_i x ho
  rw [cC] at h
  exact⟨_,_,h,PN S hpq (.inl ho)⟩
 ·rename_i x ho;exact SC S hpq hfr ho h
 ·rename_i x y z ho
  split at h
  ·rename_i b hb
   have hp:=Dm (P:=c.P) S hpq ho hb
   cases b with
   |true=>simp only [cond_true] at h;rw [cC] at h;exact⟨_,_,h,by simpa using hp⟩
   |false=>simp only [cond_false] at h;rw [cC] at h;exact⟨_,_,h,by simpa using hp⟩
  ·cases h
 ·rename_i t ho;exact WW S hpq hfr ho h
 ·rename_i t x ho;exact Kt S hpq hfr ho h
 ·rename_i t ps ho;exact WY S hpq ho h
 ·rename_i t n ps ho;exact AZ S hpq hfr ho h
 ·rename_i t x ho;exact Dk S hpq ho h
 ·rename_i t x y ho;exact XH S hpq hfr ho h
 ·rename_i x ho
  split at h
  ·rename_i q f he;have:=dO (P:=c.P) S hpq ho (.inl ⟨q,f,he⟩);rw [he] at this;exact⟨_,_,h,this⟩
  ·rename_i sz xs i f he;have:=dO (P:=c.P) S hpq ho (.inr (.inl ⟨sz,xs,i,f,he⟩));rw [he] at this;exact⟨_,_,h,this⟩
  ·rename_i q sz i f he;have:=dO (P:=c.P) S hpq ho (.inr (.inr (.inl ⟨q,sz,i,f,he⟩)));rw [he] at this;exact⟨_,_,h,this⟩
  ·rename_i f he;have:=dO (P:=c.P) S hpq ho (.inr (.inr (.inr (.inl ⟨f,he⟩))));rw [he] at this;exact⟨_,_,h,this⟩
  ·rename_i f cs he;have:=dO (P:=c.P) S hpq ho (.inr (.inr (.inr (.inr ⟨f,cs,he⟩))));rw [he] at this;exact⟨_,_,h,this⟩
  ·rename_i t nm d he
   obtain⟨hm,h⟩:=H3 h
   exact GF S hpq ho he hm h
  ·cases h
 ·rename_i op t x y z ho
  split at h
  ·rename_i d e hx hy;exact WX (b:=true) S hpq ⟨z,ho⟩ hx hy (JG h)
  ·rename_i q' i' m1 m2 hx hy;exact XD (b:=true) S hpq ⟨z,ho⟩ hx hy h
  ·cases h
 ·rename_i op t x ho
  split at h
  ·rename_i d hx;exact Dp S hpq ho hx h
  ·cases h
 ·rename_i src dst x ho;exact MR S hpq ho h
 ·rename_i nm first captured ho
  split at h
  ·rename_i r0 hf
   obtain⟨hc,h⟩:=H3 h
   split at h
   ·rename_i t d hx
    exact SG S hpq ho hf hc hx h
   ·cases h
  ·cases h
 ·rename_i f first captured ho;exact JL S hpq ho h
 ·rename_i t x k ho
  split at h
  ·rename_i off ft hf
   obtain⟨hb,h⟩:=H3 h
   exact FZ S hpq ho hf hb h
  ·cases h
 ·rename_i t x k ho
  split at h
  ·rename_i off ft hf
   obtain⟨hb,h⟩:=I2 h
   exact XB S hpq ho hf (by simpa using hb) h
  ·cases h
 ·rename_i t x i ho;exact MT hn.2.2.2.1 hg S hpq ho h
 ·rename_i t x i ho
  split at h
  ·rename_i s k n ht hx hi
   obtain⟨hb,h⟩:=H3 h
   exact GB S hpq ho ht hx hi hb h
  ·cases h
 ·rename_i t x y ho
  cases hn:c.nst t with
  |true=>rw [hn] at h;exact XE S hpq hfr ho h
  |false=>rw [hn] at h;exact Dl S hpq hfr ho h
 ·rename_i t r' ho
  split at h
  ·exact MU S hpq hfr ho h
  ·cases h
 ·rename_i t x y ok ho;exact SF S hpq ho h
 ·rename_i t x y ho;exact JM S hpq ho h
 ·rename_i t x y z ho;exact BA S hpq ho h
 ·rename_i t x ho;exact XF S hpq hfr ho h
 ·rename_i x ho;exact XA S hpq ho h
 ·rename_i t x y z ho;exact GC S hpq ho h
 ·rename_i t x lo hi mx ho
  cases hb:(c.trn t&&lo.isNone&&hi.isSome) with
  |false=>rw [hb] at h;exact XG S hpq ho h
  |true=>
   rw [hb] at h
   simp only [A9] at hb
   have hlo:lo=none:=by cases lo with|none=>rfl|some _=>exact absurd hb.1.2 (by simp)
   subst hlo
   cases mx with
   |none=>exact XI S hpq hfr ho h
   |some _=>cases h
 ·rename_i t x ho
  split at h
  ·cases h
  ·rename_i ds d hni ht hx
   exact XC S hpq ho ht (fun i e=>hni i e) hx h
  ·rename_i ds hni ht hnd
   split at h
   ·rename_i d fz hx
    exact SD S hpq ho ht (fun i e=>hni i e) hx h
   ·cases h
  ·cases h
 ·rename_i x k ho
  split at h
  ·rename_i vs hx
   obtain⟨hk,h⟩:=H3 h
   rw [cC] at h
   have hk:Nat.ble (k+1) vs.length=true:=hk
   exact MS S hpq ho hx (B3 hk) h
  ·cases h
 ·rename_i q' ho
  split at h
  ·rename_i f hc;exact Di hn hg hrec S hpq hfr ho hc h
  ·rename_i b hc;exact MQ S hpq hfr ho hc h
  ·rename_i x nm hc
   split at h
   ·rename_i t d hx
    split at h
    ·rename_i fid hm
     exact SE hn hg hrec S hpq hfr ho hc hx hm h
    ·cases h
   ·cases h
 ·cases h
end
end Go.AE
namespace Go.AE
open Go.RowKit
mutual
theorem D.gZ:∀ (x y:D),D.eq x y=true→x=y
 | .top,y,h=>by cases y<;>first|rfl|cases h
 | .bool _,y,h=>by cases y<;>first|cases h;done|(simp only [D.eq,beq_iff_eq] at h;rw [h])
 | .int _ _,y,h=>by cases y<;>first|cases h;done|(simp only [D.eq,A9,beq_iff_eq,decide_eq_true_eq] at h;rw [h.1,h.2])
 | .str _,y,h=>by cases y<;>first|cases h;done|(simp only [D.eq,beq_iff_eq] at h;rw [h])
 | .Z _ xs,y,h=>by cases y<;>first|cases h;done|(simp only [D.eq,A9] at h;rw [B0 h.1,D.lQ xs _ h.2])
 | .nils _ _,y,h=>by cases y<;>first|cases h;done|(simp only [D.eq,A9] at h;rw [B0 h.1,B0 h.2])
 | .und,y,h=>by cases y<;>first|rfl|cases h
 | .agg xs,y,h=>by cases y<;>first|cases h;done|(simp only [D.eq] at h;rw [D.lQ xs _ h])
 | .fn _,y,h=>by cases y<;>first|cases h;done|(simp only [D.eq] at h;rw [B0 h])
 | .nilp,y,h=>by cases y<;>first|rfl|cases h
 | .nilf,y,h=>by cases y<;>first|rfl|cases h
 | .nilm,y,h=>by cases y<;>first|rfl|cases h
 | .nili,y,h=>by cases y<;>first|rfl|cases h
 | .ub,y,h=>by cases y<;>first|rfl|cases h
 | .iface _ x,y,h=>by cases y<;>first|cases h;done|(simp only [D.eq,A9] at h;rw [B0 h.1,D.gZ x _ h.2])
 | .meth _ _ x,y,h=>by cases y<;>first|cases h;done|(simp only [D.eq,A9,beq_iff_eq] at h;rw [B0 h.1.1,h.1.2,D.gZ x _ h.2])
theorem D.lQ:∀ (xs ys:List D),D.eqs xs ys=true→xs=ys
 |[],ys,h=>by cases ys<;>first|rfl|cases h
 |x::xs,ys,h=>by
  cases ys with
  |nil=>cases h
  |cons y ys=>
   simp only [D.eqs,A9] at h
   rw [D.gZ x y h.1,D.lQ xs ys h.2]
end
theorem wM {a b:Out}{r:Bool×List D}(h:agree a b=some r):a=some r∧b=some r:=by
 unfold agree at h
 split at h
 ·rename_i x xs y ys
  obtain⟨h1,h2⟩:=H3 h
  simp only [A9,beq_iff_eq] at h1
  cases h2
  obtain⟨rfl,h1⟩:=h1
  rw [D.lQ _ _ h1]
  exact⟨rfl,rfl⟩
 ·cases h
theorem tO {r:Bool×List D}:∀ {l:List Out},nL l=some r→∀ x∈l,x=some r
 |[],h,_,_=>by cases h
 |[x],h,y,hy=>by
  rcases B7.1 hy with rfl|hy
  ·exact h
  ·cases hy
 |x::y::l,h,z,hz=>by
  obtain⟨h1,h2⟩:=wM (show agree x (nL (y::l))=some r from h)
  rcases B7.1 hz with rfl|hz
  ·exact h1
  ·exact tO h2 z hz
theorem MZ {r:Bool×List D}{l:List Nat}{x:Out}{f:Nat→Out}(h:PT l x f=some r):(l=[]∧x=some r)∨∀ j∈l,f j=some r:=by
 unfold PT at h
 split at h
 ·exact .inl ⟨rfl,h⟩
 ·exact .inr fun j hj=>tO h _ (List.mem_map.2 ⟨j,hj,rfl⟩)
section
variable {P:Program} {w:World}
theorem NH {r b c:Nat}{m:Option Nat}{ns:Array Nat}{y:Obj}(h:w.heap[r]? = some (.mapIter m b ns c)):(setObj r y).run P w = .ok () { w with heap:=w.heap.setIfInBounds r y }:=by
 simp only [setObj,Sem.run,h]
theorem XZ {r m n:Nat}{ty:TypeId}{ns:List Nat}{es:Array MapEntry}(hr:w.heap[r]? = some (.mapIter (some m) n ns.toArray n))(hm:w.heap[m]? = some (.map es n))(hB:kC es n) :
  ((∀ j,j<n→j∈ns)∧(Instr.next (.pointer (some ⟨r,0,none⟩)) false ty).run P w = .ok (.tuple #[.bool false]) w)∨
  ∃ j k v d,j<n∧j∉ns∧(Instr.next (.pointer (some ⟨r,0,none⟩)) false ty).run P w = .ok (.tuple #[.bool true,k,v]) { w with heap:=w.heap.setIfInBounds r (.mapIter (some m) n (ns++[j]).toArray n),drawn:=d }:=by
 have hn:n=es.size:=hB.1
 have hold:∀ x∈es.toList,x.born<n:=fun x hx=>by
  obtain⟨j,hj,rfl⟩:=List.mem_iff_getElem.1 hx
  have hj':j<es.size:=by simpa using hj
  rw [hB.2 j _ (by rw [← D0];exact C2 hj)]
  omega
 simp only [Instr.next,getObj,Sem.run_bind,Sem.run,hr,hm,Result.andThen,next_test_false ns.toArray es n n hold (B9 _),D8,if_false]
 have hmem:∀ x∈(Array.filter (fun e=>!ns.toArray.contains e.born) es).toList,x.born<n∧x.born∉ns∧x∈es.toList:=fun x hx=>by
  simp at hx
  exact⟨hold x (by simpa using hx.1),hx.2,by simpa using hx.1⟩
 have hall:(Array.filter (fun e=>!ns.toArray.contains e.born) es).size=0→∀ j,j<n→j∈ns:=fun h0 j hj=>by
  have he:Array.filter (fun e=>!ns.toArray.contains e.born) es=#[]:=Array.eq_empty_of_size_eq_zero h0
  rw [Array.filter_eq_empty_iff] at he
  have hj':j<es.size:=by omega
  have:=he es[j] (Array.getElem_mem hj')
  rw [hB.2 j _ (C8 hj')] at this
  simpa using this
 generalize Array.filter (fun e=>!ns.toArray.contains e.born) es=L at hmem hall ⊢
 have e1:L.filter (fun x=>decide (x.born<n))=L:=Array.filter_eq_self.2 (fun x hx=>by simpa using (hmem x (by simpa using hx)).1)
 have e2:L.filter (fun x=>decide (x.born≥n))=#[]:=by
  rw [Array.filter_eq_empty_iff]
  intro x hx
  have:=(hmem x (by simpa using hx)).1
  simp
  omega
 simp only [e1,e2,Array.append_empty]
 by_cases h0:L.size=0
 ·left
  have:L=#[]:=Array.eq_empty_of_size_eq_zero h0
  refine⟨hall h0,?_⟩
  subst this
  simp [choose,Sem.run,Question.forced]
 ·right
  have hne:L.isEmpty=false:=by simp [Array.isEmpty,h0]
  simp only [hne,D8,if_false,Array.empty_append,Array.size_map]
  have hch:∃ (j d:Nat),j<L.size∧(choose (Question.mapNext L.size)).run P w = .ok j { w with drawn:=d }:=by
   by_cases hf:L.size≤1
   ·exact⟨0,w.drawn,by omega,by simp [choose,Sem.run,Question.forced,hf]⟩
   ·exact⟨_,_,Nat.mod_lt _ (by omega),by
     simp only [choose,Sem.run,Question.forced,decide_eq_true_eq,hf,if_false,Question.cut]
     rfl⟩
  obtain⟨j,d,hj,hrun⟩:=hch
  have hb:=hmem L[j] (by simp)
  refine⟨L[j].born,L[j].key,L[j].val,d,hb.1,hb.2.1,?_⟩
  simp only [hrun,Array.getElem?_map,C8 hj,Option.map_some,Sem.run_bind]
  rw [NH (w:={ w with drawn:=d }) (m:=some m) (ns:=ns.toArray) (b:=n) (c:=n) hr]
  simp only [Result.andThen]
  have:ns.toArray.push L[j].born=(ns++[L[j].born]).toArray:=by simp
  rw [this]
  rfl
end
theorem MC {n j:Nat}{ns:List Nat}:j∈CN n (ns.map fun k=>D.int .i64 (k:Nat))↔j<n∧j∉ns:=by
 unfold CN
 rw [List.mem_filter,List.mem_range]
 refine and_congr_right fun _=>?_
 rw [E1,List.any_map,← Bool.not_eq_true,List.any_eq_true]
 constructor
 ·intro h hm
  exact h ⟨j,hm,by simp [D.i]⟩
 ·rintro h ⟨x,hx,e⟩
  simp only [Function.comp,D.i,beq_iff_eq] at e
  have:x=j:=by omega
  exact h (this▸hx)
section
variable {u:Nat→Option Obj} {p q:Nat→Prop} {g:G} {st:St} {a:Act} {w:World} {P:Program} {o:Oper}
theorem J2.Gm {h:Nat→Option Ob}(S:J2 u p g h w)(hpq:∀ x,p x→q x){no t mo n d:Nat}{ns ns':List Nat}{xs ys:List D}(hno:h no=some (.it t mo xs))(k1:w.heap[g.blk no]? = some (.mapIter (some (g.blk mo)) n ns.toArray n))(hI:Gz n ns' ys) :
  J2 u q g (fun x=>bif Nat.beq x no then some (.it t mo ys) else h x) { w with heap:=w.heap.setIfInBounds (g.blk no) (.mapIter (some (g.blk mo)) n ns'.toArray n),drawn:=d }:=by
 obtain⟨m1,m2⟩:=MapKept.heap_set (o':=Obj.mapIter (some (g.blk mo)) n ns'.toArray n) k1
 refine (S.update (I6.refl p g) rfl (some (g.blk no)) (fun b _ hb=>m2 b (fun e=>hb (by rw [e]))) (fun b hb=>?_) hpq no ?_ ?_)
 ·cases hb
  exact S.sep no _ _ hno rfl
 ·intro o' x hx hne
  have:Nat.beq o' no=false:=by
   cases k:Nat.beq o' no with
   |false=>rfl
   |true=>exact absurd (B0 k) hne
  rw [this] at hx
  refine⟨hx,fun b hb e=>?_⟩
  cases e
  exact hne (S.inj o' no _ _ _ hx hno hb rfl)
 ·intro x hx
  rw [show Nat.beq no no=true from Nat.beq_refl no] at hx
  simp only [cond_true,B1] at hx
  subst hx
  refine⟨⟨n,ns',hI,m1⟩,fun b hb=>?_,hpq _ (S.use _ _ hno).1,hpq _ (S.use _ _ hno).2⟩
  ·simp only [S9] at hb
   exact .inl (by rw [hb])
theorem J2.Mh {h:Nat→Option Ob}(S:J2 u p g h w)(hpq:∀ x,p x→q x){no t mo n:Nat}{ns:List Nat}{xs ys:List D}(hno:h no=some (.it t mo xs))(k1:w.heap[g.blk no]? = some (.mapIter (some (g.blk mo)) n ns.toArray n))(hI:Gz n ns ys) :
  J2 u q g (fun x=>bif Nat.beq x no then some (.it t mo ys) else h x) w:=by
 have:=S.Gm hpq (d:=w.drawn) hno k1 hI
 have e:({ w with heap:=w.heap.setIfInBounds (g.blk no) (.mapIter (some (g.blk mo)) n ns.toArray n),drawn:=w.drawn }:World)=w:=by
  have:w.heap.setIfInBounds (g.blk no) (.mapIter (some (g.blk mo)) n ns.toArray n)=w.heap:=by
   apply Array.ext_getElem?
   intro i
   rw [Array.getElem?_setIfInBounds]
   split
   ·rename_i e;subst e
    split
    ·exact k1.symm
    ·rename_i hlt;rw [Array.getElem?_eq_none (by omega)]
   ·rfl
  rw [this]
 rwa [e] at this
theorem RY {q' t mo d m:Nat}{xs:List D}(S:At u p g st a w)(hpq:∀ x,p x→q x)(h:MI st o=some (q',t,mo,xs,d,m))(hb:((Y xs 0).i==(m:Int))=true) :
  o.guard=none∧o.dst=some d∧
  ((CN (Y xs 0).i.toNat (xs.drop 2)=[]∧(execOp a.eval o).run P w = .ok (.value (.tuple #[.bool false])) w∧J2 u q g (st.M7 q' (some (.it t mo (JP xs)))).h w)∨
   ∃ j∈CN (Y xs 0).i.toNat (xs.drop 2),∃ k v w',(execOp a.eval o).run P w = .ok (.value (.tuple #[.bool true,k,v])) w'∧J2 u q g (st.M7 q' (some (.it t mo (JZ xs j)))).h w'∧Ext g w g w'):=by
 unfold MI at h
 split at h
 ·rename_i x ho
  split at h
  ·rename_i no d' hx hg hd
   split at h
   ·rename_i t' mo' xs' hno
    split at h
    ·rename_i kt es0 hmo
     cases h
     have hvx:=S.ev x
     rw [hx] at hvx
     have hvx:a.eval x = .pointer (some ⟨g.blk q',0,none⟩):=hvx
     refine⟨hg,hd,?_⟩
     obtain⟨n,ns,hI,k1⟩:=S.hp.ob _ _ hno
     obtain⟨last,ks,rfl,i1,i2,i3⟩:=hI
     obtain⟨es,clock,m1,m2,kb⟩:=S.hp.ob _ _ hmo
     have hlen:es0.length=es.size:=by rw [m2.length];simp
     have hn:clock=n:=by
      have:=eq_of_beq hb
      simp only [Y,D.i] at this
      rw [kb.1];omega
     subst hn
     have hl:∀ j,j∈CN (Y (D.int .i64 (clock:Int)::last::ks.map fun k=>D.int .i64 (k:Nat)) 0).i.toNat ((D.int .i64 (clock:Int)::last::ks.map fun k=>D.int .i64 (k:Nat)).drop 2)↔j<clock∧j∉ks:=fun j=>MC (n:=clock)
     rcases XZ (P:=P) (ty:=o.type) k1 m1 kb with ⟨r1,r2⟩|⟨j,k,v,dd,r1,r2,r3⟩
     ·refine .inl ⟨?_,by simp only [execOp,ho,hvx];simp [r2],S.hp.Mh hpq hno k1 ⟨.top,List.range clock,by simp [JP,Y,D.i],fun k=>?_,fun k hk=>List.mem_range.1 hk,fun _ _ h=>(by cases h)⟩⟩
      ·rw [List.eq_nil_iff_forall_not_mem]
       intro j hj
       obtain⟨j1,j2⟩:=(hl j).1 hj
       exact j2 ((i1 j).1 (r1 j j1))
      ·rw [List.mem_range]
       exact⟨fun hk=>i2 k ((i1 k).1 hk),fun hk=>r1 k hk⟩
     ·refine .inr ⟨j,(hl j).2 ⟨r1,fun hk=>r2 ((i1 j).2 hk)⟩,k,v,{ w with heap:=w.heap.setIfInBounds (g.blk q') (.mapIter (some (g.blk mo)) clock (ns++[j]).toArray clock),drawn:=dd },by simp only [execOp,ho,hvx];simp [r3],S.hp.Gm hpq hno k1 ⟨.int .i64 j,ks++[j],by simp [JZ,Y],fun k=>?_,fun k hk=>?_,fun _ _ h=>?_⟩,⟨fun _ _ h=>h,rfl,rfl,rfl,by simp⟩⟩
      ·rw [D5,D5,i1 k]
      ·rcases D5.1 hk with hk|hk
       ·exact i2 k hk
       ·rw [C3.1 hk];exact r1
      ·cases h
       exact⟨j,rfl,by simp⟩
    ·cases h
   ·cases h
  ·cases h
 ·cases h
end
end Go.AE
namespace Go.AE
section
variable {R:Type} {c:Z6} {rec:Task→Out} {P:Program} {st:St} {nid:Nat}
theorem H4 {α β:Type}{b:Bool}{x y:Option α}{k:α→Option β}:(bif b then x else y).bind k=bif b then x.bind k else y.bind k:=by cases b<;>rfl
theorem bK (t:TypeId)(o:Nat)(v:V)(st:St)(K:V→St→Option R):oH P t o v st K=(oH P t o v st fun v s=>some (v,s)).bind fun p=>K p.1 p.2:=by
 unfold oH
 split
 ·split
  ·rw [H4];rfl
  ·rfl
 ·rfl
theorem eK (v:V)(K:V→Option R):force v K=K v:=by cases v<;>rfl
theorem CR {α β:Type}{t:TypeId}{x:D}{k:D→Option α}{l:Option α}{f:α→Option β}:(MJ P t x k l).bind f=MJ P t x (fun y=>(k y).bind f) (l.bind f):=by
 unfold MJ
 split
 ·rw [H4]
 ·rfl
theorem RT (t:TypeId)(p:V)(K:V→St→Option R):mX P t p st K=(mX P t p st fun v s=>some (v,s)).bind fun p=>K p.1 p.2:=by
 unfold mX typed
 simp only [eK,H4,Option.bind_none]
 congr 1
 cases p with
 |ptr o off=>
  simp only []
  split
  ·simp only [H4,Option.bind_none,Option.bind_some]
   congr 1
   split<;>rfl
  ·rfl
 |el sz xs i off=>simp only [H4,CR,Option.bind_none,Option.bind_some]
 |rp o sz i off=>
  simp only []
  split
  ·simp only [H4,CR,Option.bind_none,Option.bind_some]
  ·simp only [H4,Option.bind_none,Option.bind_some]
  ·rfl
 |irp o i sz j=>
  simp only []
  split
  ·simp only [H4,Option.bind_none,Option.bind_some]
  ·rfl
 |_=>rfl
theorem NL (ow:Bool)(t:TypeId)(p v:V)(K:V→St→Option R):tK P ow t p v nid st K=(tK P ow t p v nid st fun v s=>some (v,s)).bind fun p=>K p.1 p.2:=by
 unfold tK
 simp only [H4,Option.bind_none]
 congr 1
 split
 ·split
  ·simp only [H4,Option.bind_none,Option.bind_some]
   congr 2
   congr 1
   rw [bK]
   conv=>rhs;rw [bK]
   simp [Option.bind_assoc]
  ·rfl
 ·split
  ·rw [H4]
   split<;>simp only [H4,Option.bind_none,Option.bind_some]
  ·rw [H4]
   congr 1
   split
   ·split
    ·rw [H4];rfl
    ·rfl
   ·rfl
   ·rfl
  ·rfl
 ·split
  ·split
   ·rw [H4];rfl
   ·rfl
  ·rfl
 ·rfl
theorem HT (t:TypeId)(x y:V)(K:V→St→Option R):lK P t x y nid st K=(lK P t x y nid st fun v s=>some (v,s)).bind fun p=>K p.1 p.2:=by
 unfold lK
 split
 ·rfl
 ·split
  ·rfl
  ·simp only [H4,Option.bind_none]
   congr 1
   split
   ·simp only [H4,Option.bind_none,Option.bind_some]
   ·split
    ·simp only [H4,Option.bind_none,Option.bind_some]
    ·rfl
   ·rfl
theorem RV (t:TypeId)(x y:V)(K:V→St→Option R):yS P t x y nid st K=(yS P t x y nid st fun v s=>some (v,s)).bind fun p=>K p.1 p.2:=by
 unfold yS
 split
 ·split
  ·simp only [H4,Option.bind_none,Option.bind_some]
  ·rfl
 ·rfl
theorem MG (t:TypeId)(x y:V)(K:V→St→Option R):nZ P t x y nid st K=(nZ P t x y nid st fun v s=>some (v,s)).bind fun p=>K p.1 p.2:=by
 unfold nZ
 split
 ·simp only [H4,Option.bind_none,Option.bind_some]
 ·rfl
theorem RE (x y:V)(K:V→St→Option R):BS P x y st K=(BS P x y st fun v s=>some (v,s)).bind fun p=>K p.1 p.2:=by
 unfold BS
 split
 ·split
  ·rw [H4];rfl
  ·rfl
 ·rfl
theorem VZ (t:TypeId)(x:V)(K:V→St→Option R):(IV P t st x fun n=>K (.d (.int .i64 n)) st)=(IV P t st x fun n=>some (V.d (.int .i64 n),st)).bind fun p=>K p.1 p.2:=by
 unfold IV
 split
 ·split<;>rfl
 ·split
  ·rfl
  ·split
   ·split<;>rfl
   ·rfl
 ·split
  ·split<;>rfl
  ·rfl
  ·rfl
 ·rfl
theorem JF (t:TypeId)(K:V→St→Option R):iW P t nid st K=(iW P t nid st fun v s=>some (v,s)).bind fun p=>K p.1 p.2:=by
 unfold iW
 split
 ·rw [H4];rfl
 ·rfl
theorem IY (t:TypeId)(x i:V)(ok:Bool)(K:V→St→Option R):gI P t x i ok st K=(gI P t x i ok st fun v s=>some (v,s)).bind fun p=>K p.1 p.2:=by
 unfold gI
 split
 ·split
  ·unfold typed
   rw [H4,H4]
   cases ok<;>rfl
  ·rfl
 ·rfl
theorem JB (t:TypeId)(x i y:V)(K:V→St→Option R):lV P t x i y st K=(lV P t x i y st fun v s=>some (v,s)).bind fun p=>K p.1 p.2:=by
 unfold lV
 split
 ·split
  ·rw [H4];rfl
  ·rfl
 ·rfl
theorem IZ (t:TypeId)(x i:V)(K:V→St→Option R):lU P t x i st K=(lU P t x i st fun v s=>some (v,s)).bind fun p=>K p.1 p.2:=by
 unfold lU
 split
 ·split
  ·unfold typed
   rw [H4]
   congr 1
   rw [H4];rfl
  ·rfl
 ·rfl
theorem ID (t:TypeId)(x i y:V)(K:V→St→Option R):lO P t x i y st K=(lO P t x i y st fun v s=>some (v,s)).bind fun p=>K p.1 p.2:=by
 unfold lO
 split
 ·split
  ·rw [H4];rfl
  ·rfl
 ·rfl
theorem NC (t:TypeId)(x:V)(K:V→St→Option R):tD P t x nid st K=(tD P t x nid st fun v s=>some (v,s)).bind fun p=>K p.1 p.2:=by
 unfold tD
 split
 ·split<;>rfl
 ·rfl
theorem LL (x:V)(K:V→St→Option R):rX P x st K=(rX P x st fun v s=>some (v,s)).bind fun p=>K p.1 p.2:=by
 unfold rX
 split
 ·split
  ·split
   ·split
    ·unfold typed
     rw [H4]
     congr 1
     rw [H4]
     congr 1
     rw [H4];rfl
    ·rfl
   ·rfl
  ·rfl
 ·rfl
theorem yI (t:TypeId)(x i:V)(K:V→St→Option R):X5 P t x i st K=(X5 P t x i st fun v s=>some (v,s)).bind fun p=>K p.1 p.2:=by
 unfold X5
 rw [H4]
 congr 1
 split
 ·split
  ·rw [H4];rfl
  ·split
   ·rw [H4];rfl
   ·rw [H4];rfl
   ·rfl
  ·split
   ·rw [H4];rfl
   ·rfl
  ·split
   ·rw [H4];rfl
   ·rfl
  ·rfl
 ·rfl
theorem FE (t:TypeId)(x:Operand)(vx i:V)(K:V→St→Option R):dE c t x vx i st K=(dE c t x vx i st fun v s=>some (v,s)).bind fun p=>K p.1 p.2:=by
 unfold dE
 split
 ·split
  ·rw [H4];rfl
  ·rfl
 ·split
  ·unfold vG
   split
   ·rw [H4];rfl
   ·rfl
  ·exact yI _ _ _ _
theorem NK (t:TypeId)(x:V)(lo hi mx:Option V)(K:V→St→Option R):lE P t x lo hi mx st K=(lE P t x lo hi mx st fun v s=>some (v,s)).bind fun p=>K p.1 p.2:=by
 unfold lE
 split
 ·rfl
 ·rw [H4]
  congr 1
  split
  ·split
   ·rw [H4];rfl
   ·rfl
  ·split
   ·rw [H4];rfl
   ·rfl
  ·split
   ·rw [H4]
    congr 1
    split
    ·rw [H4];rfl
    ·rfl
   ·rfl
  ·rfl
theorem NP (t:TypeId)(x:V)(hi:Option V)(K:V→St→Option R):tM P t x hi nid st K=(tM P t x hi nid st fun v s=>some (v,s)).bind fun p=>K p.1 p.2:=by
 unfold tM
 split
 ·split
  ·rw [H4];rfl
  ·rfl
 ·rfl
theorem LH (t:TypeId)(x:V)(K:V→St→Option R):rU P t x st K=(rU P t x st fun v s=>some (v,s)).bind fun p=>K p.1 p.2:=by
 unfold rU
 split
 ·split
  ·rw [H4];rfl
  ·rfl
 ·rfl
theorem CF (op:BinOp)(k:IntKind)(a b:Int)(K:V→St→Option R):(uC op k a b fun z=>K (.d z) st)=(uC op k a b fun z=>some (V.d z,st)).bind fun p=>K p.1 p.2:=by
 cases op<;>simp only [uC]<;>first|rfl|(rw [H4];rfl)
theorem SM (op:BinOp)(a b:G0)(K:V→St→Option R):(uS op a b fun z=>K (.d z) st)=(uS op a b fun z=>some (V.d z,st)).bind fun p=>K p.1 p.2:=by
 cases op<;>simp only [uS]<;>first|rfl|(rw [H4];rfl)
theorem LC (op:BinOp)(t:TypeId)(x y:D)(K:V→St→Option R):(gL P op t x y fun z=>K (.d z) st)=(gL P op t x y fun z=>some (V.d z,st)).bind fun p=>K p.1 p.2:=by
 unfold gL
 split
 ·split
  ·rw [H4];rfl
  ·rw [H4];rfl
  ·rw [H4,CF];rfl
 ·exact SM _ _ _ _
 ·split
  ·split<;>rfl
  ·rfl
 ·rw [H4]
  congr 1
  split<;>rfl
 ·rw [H4]
  congr 1
  split
  ·rw [H4];rfl
  ·rw [H4];rfl
  ·rfl
 ·rw [H4]
  congr 1
  split<;>rfl
 ·rfl
theorem WN (n:Bool)(op:BinOp)(t:TypeId)(x y:D)(K:V→St→Option R):(RZ P n op t x y fun z=>K (.d z) st)=(RZ P n op t x y fun z=>some (V.d z,st)).bind fun p=>K p.1 p.2:=by
 unfold RZ
 rw [H4]
 congr 1
 ·rw [H4]
  congr 1
  split<;>rfl
 ·exact LC _ _ _ _ _
theorem SR (op:UnOp)(x:D)(K:V→St→Option R):(uV op x fun z=>K (.d z) st)=(uV op x fun z=>some (V.d z,st)).bind fun p=>K p.1 p.2:=by
 unfold uV
 split<;>rfl
theorem QZ (r:Out)(k:List D→Option R)(k':List D→Option (V×St))(K:V×St→Option R)(h:∀ ds,k ds=(k' ds).bind K):bT r k=(bT r k').bind K:=by
 unfold bT
 split
 ·exact h _
 ·rfl
theorem QY {α:Type}{c:Bool}{x x' y y':α}(h1:x=x')(h2:y=y'):(bif c then x else y)=bif c then x' else y':=by rw [h1,h2]
theorem iO (no:Bool)(f:Nat)(args:List V)(K:V→St→Option R):eZ c rec no f args nid st K=(eZ c rec no f args nid st fun v s=>some (v,s)).bind fun p=>K p.1 p.2:=by
 unfold eZ
 split
 ·rfl
 ·rw [H4]
  refine QY rfl ?_
  simp only []
  generalize rQ _ _ _ _ _=sk
  split
  ·rfl
  ·rw [H4]
   congr 1
   refine QZ _ _ _ _ fun ds=>?_
   simp only [H4,Option.bind_none,Option.bind_some]
theorem EC (t:TypeId)(x:V)(s:G0)(K:V→St→Option R):gU P t x s nid st K=(gU P t x s nid st fun v s=>some (v,s)).bind fun p=>K p.1 p.2:=by
 unfold gU
 split
 ·split
  ·rw [H4];rfl
  ·rfl
 ·rfl
theorem HW (t:Nat)(cs:List V)(K:V→St→Option R):wU c t nid cs st K=(wU c t nid cs st fun v s=>some (v,s)).bind fun p=>K p.1 p.2:=by
 unfold wU
 rw [H4]
 congr 1
 ·rw [H4];rfl
 ·split<;>rfl
theorem RB (f:V)(args:List V)(K:V→St→Option R):BP c rec f args nid st K=(BP c rec f args nid st fun v s=>some (v,s)).bind fun p=>K p.1 p.2:=by
 unfold BP
 split
 ·split
  ·rw [H4];rfl
  ·split
   ·rw [H4];rfl
   ·exact iO _ _ _ _
 ·exact iO _ _ _ _
 ·rfl
theorem EF (b:Builtin)(ts:Array TypeId)(args:List V)(K:V→St→Option R):eX c b ts args nid st K=(eX c b ts args nid st fun v s=>some (v,s)).bind fun p=>K p.1 p.2:=by
 unfold eX
 split
 ·split
  ·exact VZ _ _ _
  ·rfl
 ·split
  ·rw [H4,HT,H4]
   congr 2
   split
   ·exact EC _ _ _ _
   ·rfl
  ·rfl
 ·split
  ·split
   ·rw [H4,RE];rfl
   ·rfl
  ·rfl
 ·split
  ·exact LH _ _ _
  ·rfl
 ·rw [H4];rfl
 ·rw [H4];rfl
 ·rfl
theorem Cm (o:Oper)(K:V→St→Option R):CU c rec o nid st K=(CU c rec o nid st fun v s=>some (v,s)).bind fun p=>K p.1 p.2:=by
 unfold CU
 simp only [eK]
 split
 ·rfl
 ·split
  ·rw [H4,H4,bK];rfl
  ·rfl
 ·split
  ·rw [H4];rfl
  ·rfl
 ·split
  ·rw [H4,H4,bK]
   conv=>rhs;rw [bK]
   rw [HW]
   simp [Option.bind_assoc]
  ·rfl
 ·rw [H4,H4,H4,bK]
  conv=>rhs;rw [bK]
  rw [HW]
  simp [Option.bind_assoc]
 ·split
  ·rw [H4]
   congr 1
   split<;>rfl
  ·rfl
 ·split
  ·split
   ·rw [H4]
    congr 1
    split<;>rfl
   ·rfl
  ·rfl
 ·exact RT _ _ _
 ·exact NL _ _ _ _ _
 ·split<;>first|rfl|(rw [H4];rfl)
 ·split
  ·exact WN _ _ _ _ _ _
  ·rw [H4]
   congr 1
   split<;>rfl
  ·rfl
 ·split
  ·exact SR _ _ _
  ·rfl
 ·split
  ·rfl
  ·rw [H4];rfl
  ·rfl
  ·split
   ·split
    ·rw [H4];rfl
    ·rfl
   ·rfl
  ·rfl
 ·split
  ·rw [H4]
   congr 1
   split<;>rfl
  ·rfl
 ·rw [H4,H4];rfl
 ·split
  ·rw [H4]
   congr 1
   split<;>rfl
  ·rfl
 ·split
  ·rw [H4]
   congr 1
   split
   ·rw [H4,H4]
    congr 2
    split<;>rfl
   ·rw [H4,H4]
    congr 2
    split<;>rfl
   ·rfl
  ·rfl
 ·exact FE _ _ _ _ _
 ·split
  ·rw [H4];rfl
  ·rfl
 ·rw [H4]
  congr 1
  ·exact MG _ _ _ _
  ·exact RV _ _ _ _
 ·split
  ·exact JF _ _
  ·rfl
 ·exact IY _ _ _ _ _
 ·exact IZ _ _ _ _
 ·exact ID _ _ _ _ _
 ·exact NC _ _ _
 ·exact LL _ _
 ·exact JB _ _ _ _ _
 ·rw [H4]
  congr 1
  ·split
   ·exact NP _ _ _ _
   ·rfl
  ·exact NK _ _ _ _ _ _
 ·split
  ·rfl
  ·rfl
  ·split<;>rfl
  ·rfl
 ·split
  ·rw [H4];rfl
  ·rfl
 ·split
  ·exact RB _ _ _
  ·exact EF _ _ _ _
  ·split
   ·split
    ·exact iO _ _ _ _
    ·rfl
   ·rfl
 ·rfl
end
end Go.AE
namespace Go.AE
section
variable {c:Z6} {rec:Task→Out} {P:Program} {st st':St} {nid:Nat} {v:V}
def Own (nid:Nat)(st st':St):Prop:=∀ x,¬ (nid≤x∧x<nid+32)→st'.h x=st.h x
theorem Own.refl (nid:Nat)(st:St):Own nid st st:=fun _ _=>rfl
theorem Own.M7 {o:Nat}{ob:Option Ob}(h:Own nid st st')(ho:nid≤o∧o<nid+32):Own nid st (st'.M7 o ob):=fun x hx=>by
 have hne:x≠o:=fun e=>hx (by rw [e];exact ho)
 rw [J7,if_neg hne];exact h x hx
theorem zF {t:TypeId}{o:Nat}(ho:nid≤o∧o<nid+32){v v':V}(h:oH P t o v st (fun v s=>some (v,s))=some (v',st')):Own nid st st':=by
 unfold oH at h
 split at h
 ·split at h
  ·obtain⟨_,h⟩:=H3 h
   cases h
   exact (Own.refl nid st).M7 ho
  ·cases h
 ·cases h;exact Own.refl nid st
theorem kF {α β:Type}{x:Option α}{k:α→Option β}{y:β}(h:x.bind k=some y):∃ a,x=some a∧k a=some y:=by
 cases x with
 |none=>cases h
 |some a=>exact⟨a,rfl,h⟩
theorem RS {t:TypeId}{p:V}(h:mX P t p st (fun v s=>some (v,s))=some (v,st')):st'=st:=by
 unfold mX typed at h
 simp only [eK] at h
 replace h:=(I2 h).2
 split at h
 ·split at h
  ·cases hb:J5 P t with
   |true=>rw [hb] at h;obtain⟨_,h⟩:=H3 h;cases h;rfl
   |false=>
    rw [hb] at h
    simp only [cond_false] at h
    split at h
    ·cases h;rfl
    ·cases h
  ·cases h
 ·rename_i sz xs i off
  cases hb:(Nat.beq off 0&&Nat.beq (K2 P t) sz) with
  |true=>
   rw [hb,cond_true] at h
   rcases lY h with ⟨_,_,_,h⟩|h
   ·cases h;rfl
   ·obtain⟨_,h⟩:=H3 h;cases h;rfl
  |false=>rw [hb] at h;simp only [cond_false] at h;obtain⟨_,h⟩:=H3 h;obtain⟨_,h⟩:=H3 h;obtain⟨_,h⟩:=H3 h;cases h;rfl
 ·rename_i o sz i off
  split at h
  ·obtain⟨_,h⟩:=H3 h
   cases hb:(Nat.beq off 0&&Nat.beq (K2 P t) sz) with
   |true=>
    rw [hb,cond_true] at h
    rcases lY h with ⟨_,_,_,h⟩|h
    ·cases h;rfl
    ·obtain⟨_,h⟩:=H3 h;cases h;rfl
   |false=>rw [hb] at h;simp only [cond_false] at h;obtain⟨_,h⟩:=H3 h;obtain⟨_,h⟩:=H3 h;obtain⟨_,h⟩:=H3 h;cases h;rfl
  ·rename_i f ie z xs _
   replace h:=(H3 h).2
   cases hb:O9 (xs[i]?.getD .top) with
   |true=>rw [hb] at h;cases h;rfl
   |false=>rw [hb] at h;cases h;rfl
  ·cases h
 ·split at h
  ·replace h:=(H3 h).2
   replace h:=(H3 h).2
   cases h;rfl
  ·cases h
 ·cases h
theorem RI {op:BinOp}{k:IntKind}{a b:Int}(h:(uC op k a b fun z=>some (V.d z,st))=some (v,st')):st'=st:=by
 rw [CF (K:=fun v s=>some (v,s))] at h
 obtain⟨p,h1,h2⟩:=kF h
 cases h2
 cases op<;>simp only [uC] at h1<;>first|(cases h1;done)|(cases h1;rfl)|(obtain⟨_,h1⟩:=I2 h1;cases h1;rfl)
theorem SK {op:BinOp}{a b:G0}(h:(uS op a b fun z=>some (V.d z,st))=some (v,st')):st'=st:=by
 cases op<;>simp only [uS] at h<;>first|(cases h;done)|(cases h;rfl)|(obtain⟨_,h⟩:=H3 h;cases h;rfl)
theorem LB {op:BinOp}{t:TypeId}{x y:D}(h:(gL P op t x y fun z=>some (V.d z,st))=some (v,st')):st'=st:=by
 unfold gL at h
 split at h
 ·split at h
  ·replace h:=(I2 h).2;cases h;rfl
  ·replace h:=(I2 h).2;cases h;rfl
  ·exact RI (H3 h).2
 ·exact SK h
 ·split at h
  ·split at h<;>first|(cases h;done)|(cases h;rfl)
  ·cases h
 ·replace h:=(H3 h).2
  split at h<;>first|(cases h;done)|(cases h;rfl)
 ·rename_i sz xs e1 e2
  replace h:=(H3 h).2
  cases he:xs.isEmpty with
  |true=>simp only [he,cond_true] at h;split at h<;>first|(cases h;done)|(cases h;rfl)
  |false=>simp only [he,cond_false] at h;split at h<;>first|(cases h;done)|(cases h;rfl)
 ·replace h:=(H3 h).2
  split at h<;>first|(cases h;done)|(cases h;rfl)
 ·cases h
theorem SQ {op:UnOp}{x:D}(h:(uV op x fun z=>some (V.d z,st))=some (v,st')):st'=st:=by
 unfold uV at h
 split at h<;>first|(cases h;done)|(cases h;rfl)
theorem VY {t:TypeId}{x:V}(h:(IV P t st x fun n=>some (V.d (.int .i64 n),st))=some (v,st')):st'=st:=by
 unfold IV at h
 split at h
 ·split at h<;>first|(cases h;done)|(cases h;rfl)
 ·split at h
  ·cases h;rfl
  ·split at h
   ·split at h<;>first|(cases h;done)|(cases h;rfl)
   ·cases h
 ·split at h
  ·split at h<;>first|(cases h;done)|(cases h;rfl)
  ·cases h;rfl
  ·cases h
 ·cases h
theorem IX {t:TypeId}{x i:V}{ok:Bool}(h:gI P t x i ok st (fun v s=>some (v,s))=some (v,st')):st'=st:=by
 unfold gI at h
 split at h
 ·split at h
  ·replace h:=(H3 h).2
   unfold typed at h
   replace h:=(H3 h).2
   cases ok<;>(cases h;rfl)
  ·cases h
 ·cases h
theorem yH {t:TypeId}{x i:V}(h:X5 P t x i st (fun v s=>some (v,s))=some (v,st')):st'=st:=by
 unfold X5 at h
 replace h:=(I2 h).2
 split at h
 ·split at h
  ·replace h:=(H3 h).2;cases h;rfl
  ·split at h
   ·replace h:=(H3 h).2;cases h;rfl
   ·replace h:=(H3 h).2;cases h;rfl
   ·cases h
  ·split at h
   ·replace h:=(H3 h).2;cases h;rfl
   ·cases h
  ·split at h
   ·replace h:=(H3 h).2;cases h;rfl
   ·cases h
  ·cases h
 ·cases h
theorem FC {t:TypeId}{x:Operand}{vx i:V}(h:dE c t x vx i st (fun v s=>some (v,s))=some (v,st')):st'=st:=by
 unfold dE at h
 split at h
 ·split at h
  ·replace h:=(H3 h).2;cases h;rfl
  ·cases h
 ·split at h
  ·unfold vG at h
   split at h
   ·replace h:=(H3 h).2;cases h;rfl
   ·cases h
  ·exact yH h
theorem NJ {t:TypeId}{x:V}{lo hi mx:Option V}(h:lE P t x lo hi mx st (fun v s=>some (v,s))=some (v,st')):st'=st:=by
 unfold lE at h
 split at h
 ·cases h
 ·replace h:=(I2 h).2
  split at h
  ·split at h
   ·replace h:=(H3 h).2;cases h;rfl
   ·cases h
  ·split at h
   ·replace h:=(H3 h).2;cases h;rfl
   ·cases h
  ·split at h
   ·replace h:=(I2 h).2
    split at h
    ·replace h:=(H3 h).2;cases h;rfl
    ·cases h
   ·cases h
  ·cases h
theorem HV {c:Z6}{t:Nat}{cs:List V}{v:V}(h:wU c t nid cs st (fun v s=>some (v,s))=some (v,st')):Own nid st st':=by
 unfold wU at h
 cases hw:c.wty t 0 with
 |true=>
  rw [hw] at h
  simp only [cond_true] at h
  obtain⟨hm,h⟩:=H3 h
  have hm:(H5 (c.wty t) cs (nid+1)).2.2≤nid+32:=B3 hm
  cases h
  refine Own.M7 (st':={ st with h:=Y0 st.h (H5 (c.wty t) cs (nid+1)).2.1 }) ?_ ⟨B9 _,by omega⟩
  intro x hx
  refine oI fun e he ex=>hx ?_
  have:=gR he
  omega
 |false=>
 rw [hw] at h
 simp only [cond_false] at h
 split at h
 ·rename_i cs' h' hb
  cases h
  refine Own.M7 (st':={ st with h:=h' }) ?_ ⟨B9 _,by omega⟩
  unfold wS at hb
  split at hb
  ·cases hb;exact Own.refl nid st
  ·split at hb
   ·replace hb:=(H3 hb).2
    cases hb
    intro x hx
    have hn:Nat.beq x (nid+1)=false:=by
     rw [← Bool.not_eq_true]
     intro hc
     have:=B0 hc
     exact hx (by omega)
    show (bif Nat.beq x (nid+1) then _ else _)=_
    rw [hn];rfl
   ·cases hb
 ·cases h
theorem PM {o:Oper}(hro:sJ o.op=true)(h:CU c rec o nid st (fun v s=>some (v,s))=some (v,st')):Own nid st st':=by
 have same:st'=st→Own nid st st':=fun e=>by rw [e];exact Own.refl nid st
 unfold CU at h
 simp only [eK] at h
 split at h
 ·cases h;exact Own.refl nid _
 ·split at h
  ·rename_i ho _ _ _ _
   cases hs:M6 c.P o.type with
   |true=>
    rw [hs] at h
    cases hn:c.nas o.type with
    |true=>rw [hn] at h;cases h;exact Own.refl nid _
    |false=>rw [hn] at h;exact zF ⟨B9 _,by omega⟩ h
   |false=>rw [hs] at h;cases h;exact Own.refl nid _
  ·cases h;exact Own.refl nid _
 ·split at h
  ·rename_i b _
   cases b<;>(cases h;exact Own.refl nid _)
  ·cases h
 ·rename_i t ho
  split at h
  ·rename_i z hz
   replace h:=(H3 h).2
   cases hs:M6 c.P t with
   |true=>
    rw [hs] at h
    simp only [cond_true] at h
    rw [bK] at h
    obtain⟨⟨v1,s1⟩,h1,h2⟩:=kF h
    cases h2
    exact (zF (nid:=nid) ⟨by omega,by omega⟩ h1).M7 ⟨B9 _,by omega⟩
   |false=>rw [hs] at h;exact HV h
  ·cases h
 ·rename_i t x ho
  replace h:=(I2 h).2
  cases hs:M6 c.P t with
  |true=>
   rw [hs] at h
   simp only [cond_true] at h
   rw [bK] at h
   obtain⟨⟨v1,s1⟩,h1,h2⟩:=kF h
   cases h2
   exact (zF (nid:=nid) ⟨by omega,by omega⟩ h1).M7 ⟨B9 _,by omega⟩
  |false=>rw [hs] at h;replace h:=(H3 h).2;exact HV h
 ·split at h
  ·replace h:=(I2 h).2
   split at h
   ·cases h;exact Own.refl nid _
   ·cases h
  ·cases h
 ·rename_i ho;rw [ho] at hro;cases hro
 ·exact same (RS h)
 ·rename_i ho;rw [ho] at hro;cases hro
 ·split at h<;>first|(cases h;done)|(cases h;exact Own.refl nid _)|(replace h:=(H3 h).2;cases h;exact Own.refl nid _)
 ·split at h
  ·exact same (LB (JG h))
  ·replace h:=(H3 h).2
   split at h<;>first|(cases h;done)|(cases h;exact Own.refl nid _)
  ·cases h
 ·split at h
  ·exact same (SQ h)
  ·cases h
 ·split at h
  ·cases h;exact Own.refl nid _
  ·replace h:=(H3 h).2;cases h;exact Own.refl nid _
  ·cases h;exact Own.refl nid _
  ·split at h
   ·split at h
    ·replace h:=(H3 h).2;cases h;exact Own.refl nid _
    ·cases h
   ·cases h
  ·cases h
 ·split at h
  ·replace h:=(H3 h).2
   split at h
   ·cases h;exact Own.refl nid _
   ·cases h
  ·cases h
 ·rename_i f first captured ho
  cases hb:(captured.isEmpty&&first.isEmpty) with
  |true=>rw [hb] at h;cases h;exact Own.refl nid _
  |false=>rw [hb] at h;replace h:=(H3 h).2;cases h;exact Own.refl nid _
 ·split at h
  ·replace h:=(H3 h).2
   split at h<;>first|(cases h;done)|(cases h;exact Own.refl nid _)
  ·cases h
 ·split at h
  ·rename_i off ft _
   replace h:=(I2 h).2
   split at h
   ·replace h:=(H3 h).2
    cases hag:J5 c.P ft with
    |true=>rw [hag] at h;cases h;exact Own.refl nid _
    |false=>
     rw [hag] at h
     simp only [cond_false] at h
     split at h<;>first|(cases h;done)|(cases h;exact Own.refl nid _)
   ·replace h:=(H3 h).2
    cases hag:J5 c.P ft with
    |true=>rw [hag] at h;cases h;exact Own.refl nid _
    |false=>
     rw [hag] at h
     simp only [cond_false] at h
     split at h<;>first|(cases h;done)|(cases h;exact Own.refl nid _)
   ·cases h
  ·cases h
 ·exact same (FC h)
 ·split at h
  ·replace h:=(H3 h).2;cases h;exact Own.refl nid _
  ·cases h
 ·rename_i t _ _ _
  cases hn:c.nst t with
  |true=>
   rw [hn] at h
   simp only [cond_true] at h
   unfold nZ at h
   split at h
   ·replace h:=(H3 h).2
    replace h:=(H3 h).2
    cases h
    exact (Own.refl nid st).M7 ⟨B9 _,by omega⟩
   ·cases h
  |false=>
   rw [hn] at h
   simp only [cond_false] at h
   unfold yS at h
   split at h
   ·split at h
    ·replace h:=(H3 h).2
     replace h:=(H3 h).2
     cases h
     exact (Own.refl nid st).M7 ⟨B9 _,by omega⟩
    ·cases h
   ·cases h
 ·split at h
  ·unfold iW at h
   split at h
   ·replace h:=(H3 h).2
    cases h
    exact (Own.refl nid st).M7 ⟨B9 _,by omega⟩
   ·cases h
  ·cases h
 ·exact same (IX h)
 ·rename_i ho;rw [ho] at hro;cases hro
 ·rename_i ho;rw [ho] at hro;cases hro
 ·rename_i ho;rw [ho] at hro;cases hro
 ·rename_i ho;rw [ho] at hro;cases hro
 ·rename_i ho;rw [ho] at hro;cases hro
 ·rename_i t x lo hi mx ho
  rw [ho] at hro
  have hb:(c.trn t&&lo.isNone&&hi.isSome)=false:=by
   simp only [sJ] at hro
   cases lo<;>cases hi<;>simp_all
  rw [hb] at h
  exact same (NJ h)
 ·rename_i ho;rw [ho] at hro;cases hro
 ·split at h
  ·replace h:=(H3 h).2;cases h;exact Own.refl nid _
  ·cases h
 ·rename_i q' ho
  rw [ho] at hro
  simp only [sJ] at hro
  split at h
  ·rename_i f hc;rw [hc] at hro;cases hro
  ·rename_i b hc
   rw [hc] at hro
   unfold eX at h
   split at h
   ·split at h
    ·exact same (VY h)
    ·cases h
   ·cases hro
   ·cases hro
   ·cases hro
   ·replace h:=(H3 h).2;cases h;exact Own.refl nid _
   ·replace h:=(H3 h).2;cases h;exact Own.refl nid _
   ·cases h
  ·rename_i x nm hc
   rw [hc] at hro
   cases hro
 ·cases h
end
end Go.AE
namespace Go.AE
section
variable {Rs Vl:Type} (m0:Rs→Vl) (wr:Nat→Rs→Bool) (e:Nat→Rs→Vl)
def W5 (L:Nat→Bool):Nat→Rs→Vl
 |0=>m0
 |i+1=>fun x=>bif L i&&wr i x then e i x else W5 L i x
theorem dD {L L':Nat→Bool}{x:Rs}:∀ n,(∀ i,i<n→L i=L' i∨wr i x=false)→W5 m0 wr e L n x=W5 m0 wr e L' n x
 |0,_=>rfl
 |n+1,h=>by
  have ih:=dD (L:=L) (L':=L') n fun i hi=>h i (by omega)
  simp only [W5]
  rcases h n (by omega) with k|k
  ·rw [k,ih]
  ·rw [k,Bool.and_false,Bool.and_false,ih]
theorem CA {L:Nat→Bool}{x:Rs}{j:Nat}:∀ n,j≤n→(∀ i,j≤i→i<n→L i=false∨wr i x=false)→W5 m0 wr e L n x=W5 m0 wr e L j x
 |0,hj,_=>by have:j=0:=by omega
             subst this;rfl
 |n+1,hj,h=>by
  by_cases hn:j=n+1
  ·subst hn;rfl
  ·simp only [W5]
   have ih:=CA (L:=L) (x:=x) (j:=j) n (by omega) fun i h1 h2=>h i h1 (by omega)
   rcases h n (by omega) (by omega) with k|k
   ·rw [k,Bool.false_and,cond_false,ih]
   ·rw [k,Bool.and_false,cond_false,ih]
theorem nW {L:Nat→Bool}{x:Rs}{j n:Nat}(hj:j<n)(hL:L j=false)(hb:∀ i,i<j→L i=true∨wr i x=false)(ha:∀ i,j<i→i<n→L i=false∨wr i x=false) :
  W5 m0 wr e L n x=W5 m0 wr e (fun _=>true) j x:=by
 rw [CA m0 wr e (j:=j) n (by omega) fun i h1 h2=>by
  rcases Nat.eq_or_lt_of_le h1 with k|k
  ·subst k;exact .inl hL
  ·exact ha i k h2]
 exact dD m0 wr e j fun i hi=>hb i hi
theorem sD {L:Nat→Bool}{x:Rs}{j:Nat}:∀ n,j<n→(∀ i,j<i→i<n→L i=false∨wr j x=false∨wr i x=false)→
  W5 m0 wr e (fun i=>bif Nat.beq i j then true else L i) n x=bif wr j x then e j x else W5 m0 wr e L n x
 |0,hj,_=>by omega
 |n+1,hj,h=>by
  by_cases hn:j=n
  ·subst hn
   simp only [W5]
   have e1:Nat.beq j j=true:=Nat.beq_refl j
   rw [e1,cond_true,Bool.true_and]
   cases hw:wr j x with
   |true=>rfl
   |false=>
    rw [Bool.and_false,cond_false,cond_false,cond_false]
    refine dD m0 wr e j fun i hi=> .inl ?_
    have:Nat.beq i j=false:=by
     cases k:Nat.beq i j with
     |true=>have:=B0 k;omega
     |false=>rfl
    rw [this];rfl
  ·have ih:=sD (L:=L) (x:=x) (j:=j) n (by omega) fun i h1 h2=>h i h1 (by omega)
   simp only [W5]
   have e1:Nat.beq n j=false:=by
    cases k:Nat.beq n j with
    |true=>have:=B0 k;omega
    |false=>rfl
   rw [e1,cond_false,ih]
   rcases h n (by omega) (by omega) with k|k|k
   ·rw [k,Bool.false_and,cond_false,cond_false]
   ·rw [k,cond_false,cond_false]
   ·rw [k,Bool.and_false,cond_false,cond_false]
end
end Go.AE
namespace Go.AE
open Go.RowKit
structure FX where
 c:Z6
 fn:Func
 u:Nat→Option Obj
 osk:Sk
 pre:List (Nat×Nat)
 g0:G
 w0:World
def Ae (g0:G)(df:List (Nat×List (Nat×Nat))):List Deferred:=df.map fun d=>⟨.fn (.func d.1) #[],(d.2.map fun l=>Value.pointer (some ⟨g0.blk l.1,l.2,none⟩)).toArray⟩
def DS (pre:List (Nat×Nat))(g0 g:G):Prop:=∀ l o,I4 pre l=some o→g.blk l=g0.blk l∧g.hdr l=g0.hdr l∧∀ i v,g0.ihdr l i=some v→g.ihdr l i=some v
structure nG (X:FX) (p:Nat→Prop) (g:G) (st:St) (a:Act) (w:World):Prop where
 at_:At X.u p g st a w
 size:X.fn.ntmps≤a.tmps.size
 def_:a.defers=Ae X.g0 st.m.df∧∀ d∈st.m.df,∀ l∈d.2,I4 X.pre l.1=some l.1
 ext:Ext X.g0 X.w0 g w
 keep:DS X.pre X.g0 g
 pre:∀ l o,I4 X.pre l=some o→p l
section
variable {X:FX} {p q:Nat→Prop} {g g':G} {st st':St} {a a':Act} {w w':World} {rec:Task→Out} {r:Bool×List D} {Q:Exit→Act→World→Prop}
theorem DS.agree (h:DS X.pre X.g0 g)(ha:V7 p g g')(hp:∀ l o,I4 X.pre l=some o→p l):DS X.pre X.g0 g':=fun l o hl=>by
 rw [ha.blk l (hp l o hl),ha.hdr l (hp l o hl)];exact⟨(h l o hl).1,(h l o hl).2.1,fun i v k=>ha.ihdr l (hp l o hl) i v ((h l o hl).2.2 i v k)⟩
theorem QI (st:St)(d:Nat)(v:V)(t:Nat):(st.set d v).t t=if t=d then v else st.t t:=by
 simp only [St.set]
 by_cases e:t=d
 ·rw [if_pos e,beq_iff.2 e];rfl
 ·rw [if_neg e,beq_false e];rfl
theorem lD {st:St}{d:Nat}{v:V}(h:st.t d=v):st.set d v=st:=by
 have:(st.set d v).t=st.t:=by
  funext t
  rw [QI]
  split
  ·rename_i e;rw [e,h]
  ·rfl
 show (⟨(st.set d v).t,st.h,st.m⟩:St)=st
 rw [this]
theorem VI {tm:Array Value}{d:Nat}{v:Value}(hd:d<tm.size)(t:Nat):(tm.setIfInBounds d v).getD t undef=if t=d then v else tm.getD t undef:=by
 by_cases e:t=d
 ·subst e
  rw [if_pos rfl]
  simp [D4,hd]
 ·rw [if_neg e]
  simp [D4,Array.getElem?_setIfInBounds,Ne.symm e]
theorem nG.put (N:nG X p g st a w){dst:Option Tmp}(hd:(match dst with|some d=>Nat.blt d X.fn.ntmps|none=>true)=true){vv:V}{L9:St}{v:Value}(hpq:∀ x,p x→q x)(S:J2 X.u q g' L9.h w')(ha:V7 p g g')(he:Ext g w g' w')
  (hv:VV g' vv v) (hu:vv.K5 q) (ht:L9.t=st.t) (hm:L9.m=st.m):nG X q g' (L9.put dst vv) (a.put dst v) w':=by
 have hb:∀ t,VV g' (st.t t) (a.tmps.getD t undef):=fun t=>(N.at_.tm t).agree ha (N.at_.nm t)
 have hb2:∀ t,(st.t t).K5 q:=fun t=>(N.at_.nm t).mono hpq
 cases dst with
 |none=>
  refine⟨⟨S,fun t=>?_,fun t=>?_⟩,N.size,(by show a.defers=Ae X.g0 L9.m.df∧∀ d∈L9.m.df,∀ l∈d.2,I4 X.pre l.1=some l.1;rw [hm];exact N.def_),N.ext.trans he,N.keep.agree ha N.pre,fun l o h=>hpq _ (N.pre l o h)⟩
  ·show VV g' (L9.t t) _
   rw [ht];exact hb t
  ·show (L9.t t).K5 q
   rw [ht];exact hb2 t
 |some d=>
  have hd:Nat.ble (d+1) X.fn.ntmps=true:=hd
  have hd:=B3 hd
  have hlt:d<a.tmps.size:=Nat.lt_of_lt_of_le hd N.size
  refine⟨⟨S,fun t=>?_,fun t=>?_⟩,?_,(by show a.defers=Ae X.g0 L9.m.df∧∀ d∈L9.m.df,∀ l∈d.2,I4 X.pre l.1=some l.1;rw [hm];exact N.def_),N.ext.trans he,N.keep.agree ha N.pre,fun l o h=>hpq _ (N.pre l o h)⟩
  ·show VV g' ((L9.set d vv).t t) ((a.tmps.setIfInBounds d v).getD t undef)
   rw [QI,VI hlt,ht]
   split
   ·exact hv
   ·exact hb t
  ·show ((L9.set d vv).t t).K5 q
   rw [QI,ht]
   split
   ·exact hu
   ·exact hb2 t
  ·show X.fn.ntmps≤(a.tmps.setIfInBounds d v).size
   simpa using N.size
theorem AH {ops:Array Oper}{j d:Nat}{b:Bool}(hd:(ops[j]?).bind (·.dst)=some d)(hv:a.tmps.getD d undef = .bool b):yielded ops a.tmps j=some b:=by
 unfold yielded
 rw [hd]
 simp only [Option.bind_some]
 rw [D4] at hv
 cases e:a.tmps[d]? with
 |none=>rw [e] at hv;simp [undef] at hv
 |some x=>rw [e] at hv;simp at hv;subst hv;rfl
theorem uW {ops:Array Oper}{j d:Nat}(hd:(ops[j]?).bind (·.dst)=some d)(hv:a.tmps.getD d undef=undef):yielded ops a.tmps j=none:=by
 unfold yielded
 rw [hd]
 simp only [Option.bind_some]
 rw [D4] at hv
 cases e:a.tmps[d]? with
 |none=>rfl
 |some x=>rw [e] at hv;simp at hv;subst hv;rfl
theorem CI {S:At X.u p g st a w}(hk:DS X.pre X.g0 g):∀ {xs:List V} {vals:List Value} {zs:List (Nat×Nat)},F2 (VV g) xs vals→labels X.pre xs=some zs→
  vals=(zs.map fun l=>Value.pointer (some ⟨X.g0.blk l.1,l.2,none⟩))∧∀ l∈zs,I4 X.pre l.1=some l.1
 |[],_,zs,h,e=>by
  cases h
  simp only [labels,B1] at e
  subst e
  exact⟨rfl,fun l hl=>by cases hl⟩
 |x::xs,_,zs,h,e=>by
  cases h with
  |cons h1 h2=>
   cases x<;>simp only [labels] at e<;>try (cases e;done)
   split at e
   ·rename_i o off _ _ o' zs' e1 e2
    obtain⟨hb,e⟩:=H3 e
    cases e
    have ho:o=o':=beq_iff.1 hb
    subst ho
    obtain⟨r1,r2⟩:=CI (S:=S) hk h2 e2
    have h1:=rN h1
    rw [(hk _ _ e1).1] at h1
    refine⟨by rw [h1,r1];rfl,fun l hl=>?_⟩
    rcases B7.1 hl with rfl|hl
    ·exact e1
    ·exact r2 l hl
   ·cases e
theorem LJ {o:Oper}{d:Nat×List (Nat×Nat)}(N:nG X p g st a w)(h:EP X.pre st o=some d) :
  (execOp a.eval o).run X.c.P w = .ok (.defer ⟨.fn (.func d.1) #[],(d.2.map fun l=>Value.pointer (some ⟨X.g0.blk l.1,l.2,none⟩)).toArray⟩) w∧o.guard=none∧o.dst=none∧∀ l∈d.2,I4 X.pre l.1=some l.1:=by
 unfold EP at h
 split at h
 ·rename_i q' ho
  split at h
  ·rename_i f hc hg hdst
   split at h
   ·rename_i gid he
    split at h
    ·rename_i zs hl
     cases h
     have hv:=N.at_.ev f
     rw [he] at hv
     have hv:a.eval f = .func (.func gid) #[] #[]:=hv
     obtain⟨r1,r2⟩:=CI (S:=N.at_) N.keep (OP N.at_ q'.args.toList) hl
     refine⟨?_,hg,hdst,r2⟩
     simp only [execOp,ho,resolve,hc,hv,Deferred.ofValue]
     have e:q'.args.map a.eval=(zs.map fun l=>Value.pointer (some ⟨X.g0.blk l.1,l.2,none⟩)).toArray:=by
      apply Array.ext'
      simpa using r1
     simp [e]
    ·cases h
   ·cases h
  ·cases h
 ·cases h
theorem cE (hn:S8 X.c)(hg0:X.c.qH X.g0.h)(hrec:gS X.c rec){ops:Array Oper}{st0:Nat}:∀ (os:List Oper) (i:Nat) {st:St} {a:Act} {w:World} {g:G} {K:St→Out},qX X.c rec X.fn.ntmps X.pre ops.toList st0 i os st K=some r→
  nG X (·<st0+32*i) g st a w→st.n=st0→
  (∀ st' a' w' g',K st'=some r→nG X (·<st0+32*(i+os.length)) g' st' a' w'→st'.n=st0→Q .normal a' w')→wpList X.c.P ops Q os a w
 |[],i,st,a,w,g,K,h,N,hst,hK=>hK st a w g h (by simpa using N) hst
 |o::os,i,st,a,w,g,K,h,N,hst,hK=>by
  have hfr:U7 (fun x=>x<st0+32*i) (fun x=>x<st0+32*(i+1)) (st0+32*i):=fun k hk=>⟨by omega,by omega⟩
  have hpq:∀ x,x<st0+32*i→x<st0+32*(i+1):=fun x hx=>by omega
  have hK':∀ st' a' w' g',K st'=some r→nG X (·<st0+32*((i+1)+os.length)) g' st' a' w'→st'.n=st0→Q .normal a' w':=by
   intro st' a' w' g' h1 h2
   refine hK st' a' w' g' h1 ?_
   rw [show i+(o::os).length=i+1+os.length from by simp;omega]
   exact h2
  have on:Region.wanted o (yielded ops a.tmps)=true→(bif (match o.dst with|some d=>Nat.blt d X.fn.ntmps|none=>true) then CU X.c rec o (st0+32*i) st fun v st'=>qX X.c rec X.fn.ntmps X.pre ops.toList st0 (i+1) os (st'.put o.dst v) K else none)=some r→
    wpList X.c.P ops Q (o::os) a w:=by
   intro hw h
   obtain⟨hd,h⟩:=H3 h
   obtain⟨vv,L9,hk,hop⟩:=JN hn (hn.2.2.1 _ _ N.ext.h hg0) hrec N.at_ hpq hfr h
   refine wpList_step fun KK hKK=>?_
   rw [if_pos hw]
   refine hop.wp fun v w' ⟨g',s1,s2,s3,s4,s5,s6,s7,s8⟩=>hKK _ _ ?_
   refine cE hn hg0 hrec os (i+1) hk (N.put hd hpq s1 s2 s3 s4 s5 s6 s7) ?_ hK'
   cases o.dst<;>(show L9.m.k=st0;rw [s7];exact hst)
  have off:Region.wanted o (yielded ops a.tmps)=false→(bif (match o.dst with|some d=>Nat.blt d X.fn.ntmps|none=>true) then qX X.c rec X.fn.ntmps X.pre ops.toList st0 (i+1) os (st.put o.dst (.d .und)) K else none)=some r→wpList X.c.P ops Q (o::os) a w:=by
   intro hw h
   obtain⟨hd,h⟩:=H3 h
   refine wpList_step fun KK hKK=>?_
   rw [if_neg (by rw [hw];simp)]
   refine hKK _ _ ?_
   refine cE hn hg0 hrec os (i+1) h (N.put (vv:= .d .und) hd hpq (N.at_.hp.more hpq) (I6.refl _ g).w (Ext.refl g w) rfl trivial rfl rfl) ?_ hK'
   cases o.dst<;>exact hst
  simp only [qX] at h
  split at h
  ·rename_i d hd
   obtain⟨hop,hg,hdst,hlab⟩:=LJ N hd
   refine wpList_step fun KK hKK=>?_
   rw [if_pos (by simp [Region.wanted,hg])]
   unfold Oper.wp
   rw [hop,Oper.upon_defer,hdst]
   refine hKK _ _ ?_
   refine cE hn hg0 hrec os (i+1) h (st:={ st with m:=⟨st.m.k,d::st.m.df⟩ }) ⟨⟨N.at_.hp.more hpq,N.at_.tm,fun t=>(N.at_.nm t).mono hpq⟩,N.size,⟨?_,?_⟩,N.ext,N.keep,fun l o h=>hpq _ (N.pre l o h)⟩ hst hK'
   ·show _::a.defers=_::Ae X.g0 st.m.df
    rw [N.def_.1]
   ·intro d' hd' l hl
    rcases B7.1 hd' with rfl|hd'
    ·exact hlab l hl
    ·exact N.def_.2 d' hd' l hl
  split at h
  ·rename_i q' t mo ns d m hnx
   obtain⟨hd,h⟩:=H3 h
   simp only [A9] at hd
   obtain⟨hd,hb⟩:=hd
   obtain⟨hg,hdst,hrun⟩:=RY (P:=X.c.P) N.at_ hpq hnx hb
   refine wpList_step fun KK hKK=>?_
   rw [if_pos (by simp [Region.wanted,hg])]
   rcases hrun with ⟨hl,hr,hs⟩|⟨j,hj,k,v,w',hr,hs,he⟩
   ·rw [hl] at h
    have h:qX X.c rec X.fn.ntmps X.pre ops.toList st0 (i+1) os ((st.M7 q' (some (.it t mo (JP ns)))).set d (.tup [.d (.bool false)])) K=some r:=h
    unfold Oper.wp
    rw [hr]
    show KK (a.put o.dst _) _
    rw [hdst]
    refine hKK _ _ ?_
    exact cE hn hg0 hrec os (i+1) h (N.put (dst:=some d) hd (vv:= .tup [.d (.bool false)]) (v:= .tuple #[.bool false]) (L9:=st.M7 q' (some (.it t mo (JP ns)))) hpq hs (I6.refl _ g).w (Ext.refl g w) ⟨_,rfl,.cons rfl .nil⟩ (fun x hx=>by
     rcases B7.1 hx with rfl|hx
     ·trivial
     ·cases hx) rfl rfl) hst hK'
   ·have h:qX X.c rec X.fn.ntmps X.pre ops.toList st0 (i+1) os ((st.M7 q' (some (.it t mo (JZ ns j)))).set d (.tup [.d (.bool true),.top,.top])) K=some r:=by
     rcases MZ h with ⟨e,_⟩|h
     ·rw [e] at hj;cases hj
     ·exact h j hj
    unfold Oper.wp
    rw [hr]
    show KK (a.put o.dst _) _
    rw [hdst]
    refine hKK _ _ ?_
    exact cE hn hg0 hrec os (i+1) h (N.put (dst:=some d) hd (vv:= .tup [.d (.bool true),.top,.top]) (v:= .tuple #[.bool true,k,v]) (L9:=st.M7 q' (some (.it t mo (JZ ns j)))) hpq hs (I6.refl _ g).w he ⟨_,rfl,.cons rfl (.cons (trivial:VD _ .top _) (.cons (trivial:VD _ .top _) .nil))⟩ (fun x hx=>by
     simp only [B7,List.not_mem_nil,or_false] at hx
     rcases hx with rfl|rfl|rfl<;>trivial) rfl rfl) hst hK'
  split at h
  ·rename_i hg
   exact on (by simp [Region.wanted,hg]) h
  ·rename_i j want hg
   split at h
   ·cases h
   ·rename_i d hd
    rw [D0] at hd
    have htm:=N.at_.tm d
    split at h
    ·rename_i he
     rw [he] at htm
     exact off (by simp [Region.wanted,hg,uW hd htm]) h
    ·rename_i b he
     rw [he] at htm
     have hy:=AH hd (oW htm)
     cases b with
     |true=>
      simp only [cond_true] at h
      rw [lD he] at h
      cases want with
      |true=>exact on (by simp [Region.wanted,hg,hy]) h
      |false=>exact off (by simp [Region.wanted,hg,hy]) h
     |false=>
      simp only [cond_false] at h
      rw [lD he] at h
      cases want with
      |true=>exact off (by simp [Region.wanted,hg,hy]) h
      |false=>exact on (by simp [Region.wanted,hg,hy]) h
    ·cases h
theorem BI {u:Nat→Option Obj}{sel:Nat→Bool}{cs:List V}{m:Nat}{g:G}{h:Nat→Option Ob}{vals:List Value}(S:J2 u (·<m) g h w)(hF:F2 (VA g) cs vals)(hu:∀ c∈cs,c.K7 (·<m)) :
  ∃ g',I6 (·<m) g g'∧g'.h=g.h∧g'.blk=g.blk∧F2 (VA g') (H5 sel cs m).1 vals∧(∀ c∈(H5 sel cs m).1,c.K7 (·<(H5 sel cs m).2.2))∧m≤(H5 sel cs m).2.2∧
   (∀ e∈(H5 sel cs m).2.1,m≤e.1)∧J2 u (·<(H5 sel cs m).2.2) g' (Y0 h (H5 sel cs m).2.1) w:=by
 have S0:J2 u (fun x=>x<m∨(m≤x∧x<m)) g h w:=⟨S.frz,S.unt,S.ob,S.sep,S.inj,fun o x ho=>⟨.inl (S.use o x ho).1,(S.use o x ho).2.mono fun x hx=> .inl hx⟩,S.dj⟩
 obtain⟨g',a1,a2,a3,a4,a5,a6,a7,a8⟩:=lG (sel:=sel) (B9 m) (fun x h1 _=>by omega) S0 hF (fun y hy=>(hu y hy).mono fun x hx=> .inl hx)
 have back:∀ x,(x<m∨(m≤x∧x<(H5 sel cs m).2.2))→x<(H5 sel cs m).2.2:=fun x hx=>by omega
 exact⟨g',⟨a1.h,fun o ho=>a1.blk o (.inl ho),fun o ho=>a1.hdr o (.inl ho),fun o ho=>a1.ihdr o (.inl ho)⟩,a2,a3,a4,fun y hy=>(a5 y hy).mono back,a6,fun e he=>(a7 e he).1,⟨a8.frz,a8.unt,a8.ob,a8.sep,a8.inj,fun o x ho=>⟨back o (a8.use o x ho).1,(a8.use o x ho).2.mono back⟩,a8.dj⟩⟩
theorem lI:∀ (os:List Nat) {st:St} {g:G},J2 X.u (·<st.n) g st.h w→∃ g',I6 (·<st.n) g g'∧g'.h=g.h∧st.n≤(P4 os st).n∧J2 X.u (·<(P4 os st).n) g' (P4 os st).h w∧(P4 os st).t=st.t
 |[],st,g,S=>⟨g,I6.refl _ g,rfl,B9 _,S,rfl⟩
 |o::os,st,g,S=>by
  simp only [P4]
  split
  ·rename_i c cs ho
   obtain⟨cc,ee,k1,k2,k3,k4⟩:=S.ob _ _ ho
   obtain⟨g1,a1,a2,a3,a4,a5,a6,a7,a8⟩:=BI S k2 (S.use _ _ ho).2
   have hon:o<st.n:=(S.use _ _ ho).1
   have hnew:∀ e∈(H5 (fun _=>true) (c::cs) st.n).2.1,e.1≠o:=fun e he=>by have:=a7 e he;omega
   have hb1:w.heap[g1.blk o]? = some (.cells cc ee (0,0)):=by rw [a3];exact k1
   have hset:=setRow_self w (g1.blk o) cc ee (0,0) hb1
   have S2:=jQ (h':=Y0 (fun x=>bif Nat.beq x o then some (.var (H5 (fun _=>true) (c::cs) st.n).1) else st.h x) (H5 (fun _=>true) (c::cs) st.n).2.1) (c':=cc) a8 (by rw [oI hnew];exact ho) hb1 a4 k3 a5 (fun t o' f hm=>k4 t o' f (cQ hm)) (fun x=>by
    rw [lA x hnew]
    by_cases e:x=o
    ·rw [if_pos e,beq_iff.2 e];rfl
    ·rw [if_neg e,beq_false e];rfl)
   rw [hset] at S2
   obtain⟨g2,b1,b2,b3,b4,b5⟩:=lI os (st:={ st with h:=Y0 (fun x=>bif Nat.beq x o then some (.var (H5 (fun _=>true) (c::cs) st.n).1) else st.h x) (H5 (fun _=>true) (c::cs) st.n).2.1,m:=⟨(H5 (fun _=>true) (c::cs) st.n).2.2,st.m.df⟩ }) S2
   have hle:∀ x,x<st.n→x<(H5 (fun _=>true) (c::cs) st.n).2.2:=fun x hx=>Nat.lt_of_lt_of_le hx a6
   exact⟨g2,⟨fun b x k=>b1.h b x (a1.h b x k),fun x hx=>(b1.blk x (hle x hx)).trans (a1.blk x hx),fun x hx=>(b1.hdr x (hle x hx)).trans (a1.hdr x hx),fun x hx=>(b1.ihdr x (hle x hx)).trans (a1.ihdr x hx)⟩,b2.trans a2,Nat.le_trans a6 b3,b4,b5⟩
  ·exact lI os S
theorem lH:∀ (os:List Nat) (st:St),(P4 os st).m.df=st.m.df
 |[],_=>rfl
 |o::os,st=>by
  simp only [P4]
  split
  ·rw [lH os]
  ·exact lH os st
theorem HF (N:nG X (·<st.n) g st a w)(os:List Nat):∃ g',nG X (·<(P4 os st).n) g' (P4 os st) a w:=by
 obtain⟨g',a1,a2,a3,a4,a5⟩:=lI (X:=X) os N.at_.hp
 have hle:∀ x,x<st.n→x<(P4 os st).n:=fun x hx=>Nat.lt_of_lt_of_le hx a3
 have hdf:(P4 os st).m.df=st.m.df:=lH _ st
 refine⟨g',⟨a4,fun t=>?_,fun t=>?_⟩,N.size,(by rw [hdf];exact N.def_),N.ext.trans ⟨a1.h,rfl,rfl,rfl,B9 _⟩,N.keep.agree a1 N.pre,fun l o h=>hle _ (N.pre l o h)⟩
 ·show VV g' ((P4 _ st).t t) _
  rw [a5]
  exact (N.at_.tm t).agree a1 (N.at_.nm t)
 ·show ((P4 _ st).t t).K5 _
  rw [a5]
  exact (N.at_.nm t).mono hle
theorem KJ (N:nG X (·<st.n) g st a w)(pre keep:List Nat):∃ g',nG X (·<(QQ X.c.dep st pre keep).n) g' (QQ X.c.dep st pre keep) a w:=HF N _
theorem kJ (N:nG X (·<st.n) g st a w)(hid:∀ l o,I4 X.pre l=some o→o=l){sk:Sk}{cf:Cf}(hc:EK sk X.pre st=some cf) :
  ∃ g',nG X (·<sk.objs.length) g' ((J6 E0 sk cf.ds).later st.m.df) a w:=by
 have hone:fV X.pre:=fun l l' o h h'=>by rw [← hid l o h,← hid l' o h']
 obtain⟨gF,M⟩:=nQ (tm:=fun t=>a.tmps.getD t undef) hc N.at_.hp N.at_.tm N.at_.nm hone
 refine⟨eL g gF cf.ren,⟨M.Lz N.at_.hp,M.tm,M.nm⟩,N.size,N.def_,N.ext.trans ⟨M.a.h,rfl,rfl,rfl,B9 _⟩,fun l o h=>?_,fun l o h=>(M.lt l o (M.pre l o h)).2⟩
 have h1:=M.pre l o h
 have h2:=hid l o h
 subst h2
 obtain⟨k1,k2⟩:=N.keep o o h
 exact⟨by simp only [eL,h1,Option.getD_some];exact k1,by simp only [eL,h1,Option.getD_some];exact k2⟩
theorem vK {sk:Sk}{ds:List D}{df:List (Nat×List (Nat×Nat))}(N:nG X (·<sk.objs.length) g ((J6 E0 sk ds).later df) a w)(hc:aL sk ds=true):nG X (·<((O0 sk ds).later df).n) g ((O0 sk ds).later df) a w:=by
 obtain⟨h1,h2⟩:=OQ (tm:=fun t=>a.tmps.getD t undef) hc N.at_.hp (fun t=>⟨N.at_.tm t,N.at_.nm t⟩)
 exact⟨⟨h1,fun t=>(h2 t).1,fun t=>(h2 t).2⟩,N.size,N.def_,N.ext,N.keep,N.pre⟩
end
end Go.AE
namespace Go.AE
open Go.RowKit
theorem P2 {x:Nat}{xs:List Nat}:V3 x xs=true↔x∈xs:=by
 unfold V3
 rw [List.any_eq_true]
 exact⟨fun ⟨y,h1,h2⟩=>by rw [beq_iff.1 h2];exact h1,fun h=>⟨x,h,beq_iff.2 rfl⟩⟩
theorem aF {x:Nat}{xs:List Nat}:V3 x xs=false↔x∉xs:=by
 rw [← P2];simp
theorem aO {nid x:Nat}:qK nid x=true↔nid≤x∧x<nid+32:=by
 unfold qK
 rw [A9]
 constructor
 ·rintro ⟨h1,h2⟩
  have h2:Nat.ble (x+1) (nid+32)=true:=h2
  exact⟨B3 h1,B3 h2⟩
 ·rintro ⟨h1,h2⟩
  exact⟨B2 h1,(B2 h2:Nat.ble (x+1) (nid+32)=true)⟩
theorem oA:∀ {ys xs:List Nat} {x:Nat},x∈dV xs ys→x∈xs∨x∈ys
 |[],_,_,h=> .inl h
 |o::os,xs,x,h=>by
  simp only [dV] at h
  rcases oA h with h|h
  ·cases hb:xs.any (Nat.beq o) with
   |true=>rw [hb] at h;exact .inl h
   |false=>
    rw [hb] at h
    simp only [cond_false] at h
    rcases D5.1 h with h|h
    ·exact .inl h
    ·simp at h;subst h;exact .inr (by simp)
  ·exact .inr (by simp [h])
theorem sM {ancs:List (List Nat)}:∀ {es:List Edge} {j:Nat},j∈eW ancs es→∃ e∈es,T0 e=true∧(j=e.on∨j∈(ancs[e.on]?).getD [])
 |[],_,h=>by cases h
 |e::es,j,h=>by
  simp only [eW] at h
  cases hb:T0 e with
  |false=>
   rw [hb] at h
   obtain⟨e',h1,h2⟩:=sM (es:=es) h
   exact⟨e',by simp [h1],h2⟩
  |true=>
   rw [hb] at h
   simp only [cond_true] at h
   rcases oA h with h|h
   ·rcases oA h with h|h
    ·simp at h;exact⟨e,by simp,hb,.inl h⟩
    ·exact⟨e,by simp,hb,.inr h⟩
   ·obtain⟨e',h1,h2⟩:=sM (es:=es) h
    exact⟨e',by simp [h1],h2⟩
theorem BO (e:Edge):Region.binds .any e=T0 e:=by
 unfold Region.binds T0
 cases e.ground<;>rfl
theorem nR {i:Nat}:∀ {es:List Edge} {e:Edge},gB i es=true→e∈es→T0 e=true→e.on<i
 |[],_,_,h,_=>by cases h
 |e::es,e',h,hm,hb=>by
  simp only [gB,A9] at h
  rcases B7.1 hm with rfl|hm
  ·have h1:=h.1
   rw [hb] at h1
   have h1:Nat.blt e'.on i=true:=by simpa only [Bool.not_true,Bool.false_or] using h1
   have h1:Nat.ble (e'.on+1) i=true:=h1
   exact B3 h1
  ·exact nR h.2 hm hb
theorem tP {st0:Nat}{jX:List Nat}{b:bS}:∀ {fs:List bS} {j0:Nat},V0 st0 jX b j0 fs=true→∀ k a,fs[k]? = some a→j0+k∈jX∨xA (st0+32*(j0+k)) a b=false
 |[],_,_,k,a,h=>by simp at h
 |f::fs,j0,h,k,a,hk=>by
  simp only [V0,A9] at h
  cases k with
  |zero=>
   simp only [List.getElem?_cons_zero,B1] at hk
   subst hk
   have h1:=h.1
   rw [Bool.or_eq_true] at h1
   rcases h1 with h1|h1
   ·exact .inl (P2.1 h1)
   ·exact .inr (by simpa using h1)
  |succ k=>
   have:=tP h.2 k a (by simpa using hk)
   rw [show j0+1+k=j0+(k+1) by omega] at this
   exact this
section
variable {c:Z6} {rec:Task→Out} {nt st0:Nat} {all:List Oper}
structure En (c:Z6) (rec:Task→Out) (all:List Oper) (st0 i:Nat) (o:Oper) (st:St) (on:Bool) (v:V) (st':St) (ft:bS):Prop where
 t:st'.t=(st.put o.dst v).t
 n:st'.m=st.m
 dst:ft.dst=o.dst
 guard:∀ j want,o.guard=some (j,want)→∃ d,(all[j]?).bind (·.dst)=some d∧d∈ft.temps∧((st.t d = .d .und∧on=false)∨∃ b,st.t d = .d (.bool b)∧on=(b==want))
 free:o.guard=none→on=true
 ZJ:on=true→∃ L9,(∀ t∈L8 o.op.operands.toList,t∈ft.temps)∧ft.writes=(bif sJ o.op then [] else ft.objs)∧(∀ x∈ft.objs,x<st0+32*i)∧
  CU c rec o (st0+32*i) (S4 (L8 o.op.operands.toList) ft.objs st) (fun v s=>some (v,s))=some (v,L9)∧st'.h=uF ft.objs (st0+32*i) st.h L9.h
 no:on=false→v = .d .und∧st'.h=st.h
structure NT (c:Z6) (rec:Task→Out) (nt:Nat) (all:List Oper) (st0 i:Nat) (o:Oper) (s:Nat→St) (v:Nat→V) (ft:Nat→bS) (an:Nat→List Nat) (on:Nat→Bool):Prop where
 okd:(match o.dst with|some d=>Nat.blt d nt|none=>true)=true
 edges:∀ e∈o.after.toList,T0 e=true→e.on<i
 jX:∀ j∈an i,∃ e∈o.after.toList,T0 e=true∧(j=e.on∨j∈an e.on)
 apart:∀ j,j<i→j∈an i∨xA (st0+32*j) (ft j) (ft i)=false
 held:on i=true→∀ j q off u,j<i→(ft j).ld=some (q,off,u)→j∈an i∨q∉(ft i).writes∨DK (HX (s (i+1)).h q off) u=true
 ldok:∀ q off u,(ft i).ld=some (q,off,u)→on i=true∧u=v i∧IU c.P (s i) o=some (q,off)
 step:En c rec all st0 i o (s i) (on i) (v i) (s (i+1)) (ft i)
def Kz {α:Type}(f:Nat→α)(i:Nat)(x:α):Nat→α:=fun k=>if k=i then x else f k
theorem dQ {α:Type}(f:Nat→α)(i:Nat)(x:α):Kz f i x i=x:=by simp [Kz]
theorem eA {α:Type}(f:Nat→α){i k:Nat}(x:α)(h:k≠i):Kz f i x k=f k:=by simp [Kz,h]
theorem DG {h:Nat→Option Ob}{jX:List Nat}{b:bS}:∀ {fs:List bS} {j0:Nat},steady h jX b j0 fs=true→∀ k a,fs[k]? = some a→∀ q off u,a.ld=some (q,off,u)→j0+k∈jX∨q∉b.writes∨DK (HX h q off) u=true
 |[],_,_,k,a,hk=>by simp at hk
 |f::fs,j0,hs,k,a,hk=>by
  intro q off u hl
  simp only [steady,A9] at hs
  cases k with
  |zero=>
   simp only [List.getElem?_cons_zero,B1] at hk
   subst hk
   have h1:=hs.1
   rw [hl] at h1
   simp only [] at h1
   cases hm:V3 j0 jX with
   |true=>exact .inl (P2.1 hm)
   |false=>
    cases hw:V3 q b.writes with
    |false=>exact .inr (.inl (aF.1 hw))
    |true=>rw [hm,hw] at h1;exact .inr (.inr h1)
  |succ k=>
   have:=DG hs.2 k a (by simpa using hk) q off u hl
   rw [show j0+1+k=j0+(k+1) by omega] at this
   exact this
theorem tQ {jX:List Nat}{T:List Nat}{d:Option Nat}{F W:List Nat}{x y:Option (Nat×Nat×V)}:∀ {fs:List bS} {j:Nat},V0 st0 jX ⟨T,d,F,W,x⟩ j fs=V0 st0 jX ⟨T,d,F,W,y⟩ j fs
 |[],_=>rfl
 |f::fs,j=>by
  show (_&&V0 st0 jX _ (j+1) fs)=(_&&V0 st0 jX _ (j+1) fs)
  rw [tQ (x:=x) (y:=y) (fs:=fs)]
  rfl
theorem DH {h:Nat→Option Ob}{jX:List Nat}{T:List Nat}{d:Option Nat}{F W:List Nat}{x y:Option (Nat×Nat×V)}:∀ {fs:List bS} {j:Nat},steady h jX ⟨T,d,F,W,x⟩ j fs=steady h jX ⟨T,d,F,W,y⟩ j fs
 |[],_=>rfl
 |f::fs,j=>by
  show (_&&steady h jX _ (j+1) fs)=(_&&steady h jX _ (j+1) fs)
  rw [DH (x:=x) (y:=y) (fs:=fs)]
theorem xK {r:Bool×List D}{K:St→Out}:∀ (os:List Oper) (i:Nat) (fs:List bS) (ancs:List (List Nat)) (st:St),fs.length=i→ancs.length=i→qA c rec nt all st0 i os fs ancs st K=some r→
  ∃ (s:Nat→St) (v:Nat→V) (ft:Nat→bS) (an:Nat→List Nat) (on:Nat→Bool),s i=st∧(∀ j,j<i→fs[j]? = some (ft j))∧(∀ j,j<i→ancs[j]? = some (an j))∧
   (∀ k o,os[k]? = some o→NT c rec nt all st0 (i+k) o s v ft an on)∧K (s (i+os.length))=some r
 |[],i,fs,ancs,st,hf,ha,h=>by
  refine⟨fun _=>st,fun _=> .top,fun j=>(fs[j]?).getD ⟨[],none,[],[],none⟩,fun j=>(ancs[j]?).getD [],fun _=>true,rfl,fun j hj=>?_,fun j hj=>?_,fun k o hk=>by simp at hk,h⟩
  ·show fs[j]? = some ((fs[j]?).getD _)
   rw [C2 (by omega)];rfl
  ·show ancs[j]? = some ((ancs[j]?).getD _)
   rw [C2 (by omega)];rfl
 |o::os,i,fs,ancs,st,hf,ha,h=>by
  have go:∀ (onb:Bool) (v0:V) (st':St) (f0:bS),(match o.dst with|some d=>Nat.blt d nt|none=>true)=true→gB i o.after.toList=true→V0 st0 (eW ancs o.after.toList) f0 0 fs=true→
    (onb=true→steady st'.h (eW ancs o.after.toList) f0 0 fs=true)→(∀ q off u,f0.ld=some (q,off,u)→onb=true∧u=v0∧IU c.P st o=some (q,off))→En c rec all st0 i o st onb v0 st' f0→qA c rec nt all st0 (i+1) os (fs++[f0]) (ancs++[eW ancs o.after.toList]) st' K=some r→
    ∃ (s:Nat→St) (v:Nat→V) (ft:Nat→bS) (an:Nat→List Nat) (on:Nat→Bool),s i=st∧(∀ j,j<i→fs[j]? = some (ft j))∧(∀ j,j<i→ancs[j]? = some (an j))∧
   (∀ k o',(o::os)[k]? = some o'→NT c rec nt all st0 (i+k) o' s v ft an on)∧K (s (i+(o::os).length))=some r:=by
   intro onb v0 st' f0 h1 h2 h3 h6 h7 h4 h5
   obtain⟨s,v,ft,an,on,e1,e2,e3,e4,e5⟩:=xK os (i+1) (fs++[f0]) (ancs++[eW ancs o.after.toList]) st' (by simp [hf]) (by simp [ha]) h5
   have ef:ft i=f0:=by
    have:=e2 i (by omega)
    rw [F5 (by omega),hf] at this
    simpa using this.symm
   have ea:an i=eW ancs o.after.toList:=by
    have:=e3 i (by omega)
    rw [F5 (by omega),ha] at this
    simpa using this.symm
   have e2':∀ j,j<i→fs[j]? = some (ft j):=fun j hj=>by
    have:=e2 j (by omega)
    rwa [List.getElem?_append_left (by omega)] at this
   have e3':∀ j,j<i→ancs[j]? = some (an j):=fun j hj=>by
    have:=e3 j (by omega)
    rwa [List.getElem?_append_left (by omega)] at this
   refine⟨Kz s i st,Kz v i v0,ft,an,Kz on i onb,dQ _ _ _,e2',e3',fun k o' hk=>?_,?_⟩
   ·cases k with
    |zero=>
     simp only [List.getElem?_cons_zero,B1] at hk
     subst hk
     refine⟨h1,fun e he hb=>nR h2 he hb,fun j hj=>?_,fun j hj=>?_,?_,?_,?_⟩
     ·rw [Nat.add_zero,ea] at hj
      obtain⟨e,k1,k2,k3⟩:=sM hj
      refine⟨e,k1,k2,k3.imp id fun k3=>?_⟩
      have hlt:=nR h2 k1 k2
      rw [e3' e.on hlt] at k3
      exact k3
     ·rw [Nat.add_zero] at hj ⊢
      have:=tP h3 j (ft j) (e2' j hj)
      rw [C5] at this
      rw [ea,ef];exact this
     ·rw [Nat.add_zero,dQ,eA _ _ (by omega),e1,ea,ef]
      intro ho j q off u hj hl
      have:=DG (h6 ho) j (ft j) (e2' j hj) q off u hl
      rw [C5] at this
      exact this
     ·rw [Nat.add_zero,dQ,dQ,dQ,ef]
      exact h7
     ·rw [Nat.add_zero,dQ,dQ,dQ,eA _ _ (by omega),e1,ef];exact h4
    |succ k=>
     have:=e4 k o' (by simpa using hk)
     rw [show i+1+k=i+(k+1) by omega] at this
     refine⟨this.okd,this.edges,this.jX,this.apart,?_,?_,?_⟩
     ·rw [eA _ _ (by omega),eA _ _ (by omega)]
      exact this.held
     ·rw [eA _ _ (by omega),eA _ _ (by omega),eA _ _ (by omega)]
      exact this.ldok
     ·rw [eA _ _ (by omega),eA _ _ (by omega),eA _ _ (by omega),eA _ _ (by omega)]
      exact this.step
   ·rw [show i+(o::os).length=i+1+os.length by simp;omega,eA _ _ (by omega)]
    exact e5
  have fin:∀ (G:List Nat) (onb:Bool),(∀ j want,o.guard=some (j,want)→∃ d,(all[j]?).bind (·.dst)=some d∧d∈G∧((st.t d = .d .und∧onb=false)∨∃ b,st.t d = .d (.bool b)∧onb=(b==want)))→(o.guard=none→onb=true)→
    (onb=true→(bif (match o.dst with|some d=>Nat.blt d nt|none=>true)&&gB i o.after.toList&&V0 st0 (eW ancs o.after.toList) ⟨L8 o.op.operands.toList++G,o.dst,given c.dep st o,bif sJ o.op then [] else given c.dep st o,none⟩ 0 fs&&(given c.dep st o).all (fun x=>Nat.blt x (st0+32*i)) then
     CU c rec o (st0+32*i) (S4 (L8 o.op.operands.toList) (given c.dep st o) st) fun v st'=>bif steady (uF (given c.dep st o) (st0+32*i) st.h st'.h) (eW ancs o.after.toList) ⟨L8 o.op.operands.toList++G,o.dst,given c.dep st o,bif sJ o.op then [] else given c.dep st o,none⟩ 0 fs then qA c rec nt all st0 (i+1) os (fs++[{ (⟨L8 o.op.operands.toList++G,o.dst,given c.dep st o,bif sJ o.op then [] else given c.dep st o,none⟩:bS) with ld:=(IU c.P st o).map fun p=>(p.1,p.2,v) }]) (ancs++[eW ancs o.after.toList]) { st.put o.dst v with h:=uF (given c.dep st o) (st0+32*i) st.h st'.h } K else none
     else none)=some r)→
    (onb=false→(bif (match o.dst with|some d=>Nat.blt d nt|none=>true)&&gB i o.after.toList&&V0 st0 (eW ancs o.after.toList) ⟨G,o.dst,[],[],none⟩ 0 fs then qA c rec nt all st0 (i+1) os (fs++[⟨G,o.dst,[],[],none⟩]) (ancs++[eW ancs o.after.toList]) (st.put o.dst (.d .und)) K else none)=some r)→
    ∃ (s:Nat→St) (v:Nat→V) (ft:Nat→bS) (an:Nat→List Nat) (on:Nat→Bool),s i=st∧(∀ j,j<i→fs[j]? = some (ft j))∧(∀ j,j<i→ancs[j]? = some (an j))∧
   (∀ k o',(o::os)[k]? = some o'→NT c rec nt all st0 (i+k) o' s v ft an on)∧K (s (i+(o::os).length))=some r:=by
   intro G onb hg hfree hon hoff
   cases onb with
   |true=>
    obtain⟨hc,h⟩:=H3 (hon rfl)
    simp only [A9] at hc
    obtain⟨⟨⟨h1,h2⟩,h3⟩,h4⟩:=hc
    rw [Cm] at h
    obtain⟨⟨v0,L9⟩,k1,k2⟩:=kF h
    simp only [] at k2
    obtain⟨k3,k2⟩:=H3 k2
    refine go true v0 { st.put o.dst v0 with h:=uF (given c.dep st o) (st0+32*i) st.h L9.h } ⟨L8 o.op.operands.toList++G,o.dst,given c.dep st o,bif sJ o.op then [] else given c.dep st o,(IU c.P st o).map fun p=>(p.1,p.2,v0)⟩ h1 h2 (by rw [tQ (y:=none)];exact h3) (fun _=>by rw [DH (y:=none)];exact k3) (fun q off u hl=>?_) ⟨rfl,?_,rfl,fun j want hj=>?_,fun _=>rfl,fun _=>⟨L9,fun t ht=>?_,rfl,fun x hx=>?_,k1,rfl⟩,fun hb=>by cases hb⟩ k2
    ·cases hq:IU c.P st o with
     |none=>simp only [hq,Option.map_none] at hl;cases hl
     |some p=>simp only [hq,Option.map_some,B1,C7] at hl;obtain⟨rfl,rfl,rfl⟩:=hl;exact⟨rfl,rfl,rfl⟩
    ·cases o.dst<;>rfl
    ·obtain⟨d,a1,a2,a3⟩:=hg j want hj
     exact⟨d,a1,by simp [a2],a3⟩
    ·simp [ht]
    ·have:=B6.1 h4 x hx
     have:Nat.ble (x+1) (st0+32*i)=true:=this
     exact B3 this
   |false=>
    obtain⟨hc,h⟩:=H3 (hoff rfl)
    simp only [A9] at hc
    obtain⟨⟨h1,h2⟩,h3⟩:=hc
    refine go false (.d .und) _ _ h1 h2 h3 (fun hb=>by cases hb) (fun q off u hl=>by cases hl) ⟨rfl,?_,rfl,hg,fun hn=>(by cases hfree hn),fun hb=>(by cases hb),fun _=>⟨rfl,?_⟩⟩ h
    ·cases o.dst<;>rfl
    ·cases o.dst<;>rfl
  simp only [qA] at h
  split at h
  ·rename_i hg
   exact fin [] true (fun j want hj=>by rw [hg] at hj;cases hj) (fun _=>rfl) (fun _=>h) (fun hb=>by cases hb)
  ·rename_i j want hg
   split at h
   ·cases h
   ·rename_i d hd
    have hd':(all[j]?).bind (·.dst)=some d:=hd
    simp only [hd'] at h
    split at h
    ·rename_i he
     exact fin [d] false (fun j' want' hj=>by rw [hg] at hj;cases hj;exact⟨d,hd',by simp,.inl ⟨he,rfl⟩⟩) (fun hn=>by rw [hg] at hn;cases hn) (fun hb=>by cases hb) (fun _=>h)
    ·rename_i b he
     have hgd:∀ onb,onb=(b==want)→∀ j' want',o.guard=some (j',want')→∃ d,(all[j']?).bind (·.dst)=some d∧d∈[d]∧((st.t d = .d .und∧onb=false)∨∃ b,st.t d = .d (.bool b)∧onb=(b==want')):=by
      intro onb ho j' want' hj
      rw [hg] at hj;cases hj
      exact⟨d,hd',by simp,.inr ⟨b,he,ho⟩⟩
     have hgd':∀ onb,onb=(b==want)→∀ j' want',o.guard=some (j',want')→∃ d',(all[j']?).bind (·.dst)=some d'∧d'∈[d]∧((st.t d' = .d .und∧onb=false)∨∃ b,st.t d' = .d (.bool b)∧onb=(b==want')):=by
      intro onb ho j' want' hj
      rw [hg] at hj;cases hj
      exact⟨d,hd',by simp,.inr ⟨b,he,ho⟩⟩
     have hnn:∀ onb:Bool,o.guard=none→onb=true:=fun _ hn=>by rw [hg] at hn;cases hn
     cases b with
     |true=>
      simp only [cond_true] at h
      rw [lD he] at h
      cases want with
      |true=>simp only [cond_true] at h;exact fin [d] true (hgd' true rfl) (hnn _) (fun _=>h) (fun hb=>by cases hb)
      |false=>simp only [cond_false] at h;exact fin [d] false (hgd' false rfl) (hnn _) (fun hb=>by cases hb) (fun _=>h)
     |false=>
      simp only [cond_false] at h
      rw [lD he] at h
      cases want with
      |true=>simp only [cond_true] at h;exact fin [d] false (hgd' false rfl) (hnn _) (fun hb=>by cases hb) (fun _=>h)
      |false=>simp only [cond_false] at h;exact fin [d] true (hgd' true rfl) (hnn _) (fun _=>h) (fun hb=>by cases hb)
    ·cases h
end
end Go.AE
namespace Go.AE
open Go.RowKit
section
variable {X:FX} {rec:Task→Out} {ops:Array Oper} {st0:Nat} {s:Nat→St} {v:Nat→V} {ft:Nat→bS} {an:Nat→List Nat} {on:Nat→Bool} {L:Nat→Bool} {Q:Exit→Act→World→Prop}
def Nh (ft:Nat→bS)(i t:Nat):Bool:=match (ft i).dst with|some d=>Nat.beq t d|none=>false
def DL (st0:Nat)(ft:Nat→bS)(on:Nat→Bool)(i x:Nat):Bool:=on i&&(V3 x (ft i).writes||qK (st0+32*i) x)
def ST (st0:Nat)(s:Nat→St)(v:Nat→V)(ft:Nat→bS)(on:Nat→Bool)(n:Nat)(L:Nat→Bool):St:=
 ⟨W5 (s 0).t (Nh ft) (fun i _=>v i) L n,W5 (s 0).h (DL st0 ft on) (fun i x=>(s (i+1)).h x) L n,(s 0).m⟩
structure DM (X:FX) (rec:Task→Out) (ops:Array Oper) (st0:Nat) (s:Nat→St) (v:Nat→V) (ft:Nat→bS) (an:Nat→List Nat) (on:Nat→Bool):Prop where
 n:(s 0).n=st0
 good:∀ i o,ops[i]? = some o→NT X.c rec X.fn.ntmps ops.toList st0 i o s v ft an on
theorem Gb (st:St)(d:Option Tmp)(x:V):(st.put d x).m=st.m:=by cases d<;>rfl
theorem PX (st:St)(d:Option Tmp)(x:V)(t:Nat):(st.put d x).t t=if d=some t then x else st.t t:=by
 cases d with
 |none=>simp [St.put]
 |some d=>
  show (st.set d x).t t=_
  rw [QI]
  by_cases e:t=d
  ·subst e;simp
  ·rw [if_neg e,if_neg (by intro h;cases h;exact e rfl)]
theorem DM.text (A:DM X rec ops st0 s v ft an on):∀ i,i≤ops.size→(s i).m=(s 0).m∧(∀ t,(s i).t t=W5 (s 0).t (Nh ft) (fun i _=>v i) (fun _=>true) i t)∧
  (∀ x,(s i).h x=W5 (s 0).h (DL st0 ft on) (fun i x=>(s (i+1)).h x) (fun _=>true) i x)
 |0,_=>⟨rfl,fun _=>rfl,fun _=>rfl⟩
 |i+1,hi=>by
  obtain⟨h0,h1,h2⟩:=A.text i (by omega)
  have G:=A.good i ops[i] (C8 (by omega))
  have S:=G.step
  refine⟨S.n.trans h0,fun t=>?_,fun x=>?_⟩
  ·rw [S.t,PX]
   simp only [W5,Bool.true_and,Nh,S.dst]
   cases hd:ops[i].dst with
   |none=>simp only [cond_false];rw [← h1 t];simp
   |some d=>
    by_cases e:t=d
    ·subst e;rw [if_pos rfl];simp only [];rw [beq_iff.2 rfl,cond_true]
    ·simp only [];rw [beq_false e,cond_false,← h1 t]
     rw [if_neg (by intro h;cases h;exact e rfl)]
  ·simp only [W5,Bool.true_and]
   cases hw:DL st0 ft on i x with
   |true=>rfl
   |false=>
    rw [cond_false,← h2 x]
    cases ho:on i with
    |false=>rw [(S.no ho).2]
    |true=>
     obtain⟨L9,k1,k2,k3,k4,k5⟩:=S.ZJ ho
     unfold DL at hw
     rw [ho,Bool.true_and,Bool.or_eq_false_iff] at hw
     rw [k5]
     unfold uF
     rw [hw.2,Bool.or_false]
     cases hF:V3 x (ft i).objs with
     |false=>rfl
     |true=>
      rw [cond_true]
      cases hro:sJ ops[i].op with
      |false=>rw [k2,hro,cond_false] at hw;rw [hw.1] at hF;cases hF
      |true=>
       have:=PM hro k4 x (by rw [← aO];rw [hw.2];simp)
       rw [this]
       simp [S4,hF]
def Down (ops:Array Oper)(L:Nat→Bool):Prop:=∀ i o,ops[i]? = some o→L i=true→∀ e∈o.after.toList,T0 e=true→L e.on=true
theorem DM.jX (A:DM X rec ops st0 s v ft an on)(hd:Down ops L):∀ m i,i<m→i<ops.size→L i=true→∀ j∈an i,L j=true
 |0,i,h,_,_,_,_=>by omega
 |m+1,i,h,hi,hL,j,hj=>by
  have G:=A.good i ops[i] (C8 hi)
  obtain⟨e,h1,h2,h3⟩:=G.jX j hj
  have hlt:=G.edges e h1 h2
  have hLe:=hd i ops[i] (C8 hi) hL e h1 h2
  rcases h3 with rfl|h3
  ·exact hLe
  ·exact A.jX hd m e.on (by omega) (by omega) hLe j h3
theorem iX {nid:Nat}{a b:bS}(h:xA nid a b=false) :
  (∀ d,a.dst=some d→d∉b.temps)∧(∀ d,b.dst=some d→d∉a.temps)∧(∀ d,a.dst=some d→b.dst≠some d)∧(∀ x∈a.writes,x∉b.objs)∧(a.ld=none→∀ x∈b.writes,x∉a.objs)∧(∀ x∈b.objs,qK nid x=false):=by
 unfold xA at h
 simp only [Bool.or_eq_false_iff] at h
 obtain⟨⟨⟨⟨⟨h1,h2⟩,h3⟩,h4⟩,h5⟩,h6⟩:=h
 have m:∀ {xs ys:List Nat},meets xs ys=false→∀ x∈xs,x∉ys:=by
  intro xs ys h x hx
  unfold meets at h
  have:=List.any_eq_false.1 h x hx
  rw [P2] at this
  exact this
 refine⟨fun d hd=>?_,fun d hd=>?_,fun d hd hd'=>?_,m h4,fun hl=>m (by rw [hl] at h5;simpa using h5),fun x hx=>?_⟩
 ·unfold GG at h1;rw [hd] at h1;exact aF.1 h1
 ·unfold GG at h2;rw [hd] at h2;exact aF.1 h2
 ·rw [hd,hd'] at h3
  simp only [] at h3
  rw [beq_iff.2 rfl] at h3;cases h3
 ·have:=List.any_eq_false.1 h6 x hx
  simpa using this
mutual
theorem D.eq_eq:∀ {x y:D},D.eq x y=true→x=y
 | .top,y,h=>by cases y<;>first|rfl|(simp [D.eq] at h)
 | .bool _,y,h=>by cases y<;>simp [D.eq] at h;rw [h]
 | .int _ _,y,h=>by cases y<;>simp [D.eq] at h;rw [h.1,h.2]
 | .str _,y,h=>by cases y<;>simp [D.eq] at h;rw [h]
 | .Z _ xs,y,h=>by
  cases y<;>simp only [D.eq,D8,A9] at h
  rw [B0 h.1,D.LN h.2]
 | .nils _ _,y,h=>by
  cases y<;>simp only [D.eq,D8,A9] at h
  rw [B0 h.1,B0 h.2]
 | .und,y,h=>by cases y<;>first|rfl|(simp [D.eq] at h)
 | .agg xs,y,h=>by
  cases y<;>simp only [D.eq,D8] at h
  rw [D.LN h]
 | .fn _,y,h=>by
  cases y<;>simp only [D.eq,D8] at h
  rw [B0 h]
 | .nilp,y,h=>by cases y<;>first|rfl|(simp [D.eq] at h)
 | .nilf,y,h=>by cases y<;>first|rfl|(simp [D.eq] at h)
 | .nilm,y,h=>by cases y<;>first|rfl|(simp [D.eq] at h)
 | .nili,y,h=>by cases y<;>first|rfl|(simp [D.eq] at h)
 | .ub,y,h=>by cases y<;>first|rfl|(simp [D.eq] at h)
 | .iface _ x,y,h=>by
  cases y<;>simp only [D.eq,D8,A9] at h
  rw [B0 h.1,D.eq_eq h.2]
 | .meth _ _ x,y,h=>by
  cases y<;>simp only [D.eq,D8,A9,beq_iff_eq] at h
  rw [B0 h.1.1,h.1.2,D.eq_eq h.2]
theorem D.LN:∀ {xs ys:List D},D.eqs xs ys=true→xs=ys
 |[],ys,h=>by cases ys<;>first|rfl|(simp [D.eqs] at h)
 |x::xs,ys,h=>by
  cases ys<;>simp only [D.eqs,D8,A9] at h
  rw [D.eq_eq h.1,D.LN h.2]
end
theorem ZA {x y:V}(h:DK x y=true):x=y∧x≠ .top:=by
 unfold DK at h
 split at h
 ·rw [B0 h];exact⟨rfl,fun e=>by cases e⟩
 ·rw [A9] at h;rw [B0 h.1,B0 h.2];exact⟨rfl,fun e=>by cases e⟩
 ·rw [A9] at h
  refine⟨by rw [D.eq_eq h.2],fun e=>?_⟩
  cases e
  exact absurd h.1 (by simp)
 ·cases h
theorem NR {h:Nat→Option Ob}{q off:Nat}{u:V}(hs:DK (HX h q off) u=true):∃ cs,h q=some (.var cs)∧cs[off]? = some u:=by
 obtain⟨h1,h2⟩:=ZA hs
 unfold HX at h1 h2
 split at h1
 ·rename_i cs hcs
  refine⟨cs,hcs,?_⟩
  rw [hcs] at h2
  cases hc:cs[off]? with
  |none=>simp only [hc,Option.getD_none] at h2;exact absurd rfl h2
  |some z=>rw [hc] at h1;rw [← h1];rfl
 ·rename_i hne
  exfalso
  split at h2
  ·rename_i cs hcs;exact hne cs hcs
  ·exact h2 rfl
theorem RQ {P:Program}{st:St}{o:Oper}{q off:Nat}(h:IU P st o=some (q,off)):∃ t y,o.op = .load t (.tmp y)∧st.t y = .ptr q off∧J5 P t=false:=by
 unfold IU at h
 split at h
 ·rename_i t y hop
  split at h
  ·rename_i q' off' hty
   cases hag:J5 P t with
   |true=>rw [hag] at h;cases h
   |false=>rw [hag] at h;cases h;exact⟨t,y,hop,hty,hag⟩
  ·cases h
 ·cases h
theorem RU {c:Z6}{rec:Task→Out}{o:Oper}{nid:Nat}{st L9:St}{v:V}{t:TypeId}{y q off:Nat}(hop:o.op = .load t (.tmp y))(hty:st.t y = .ptr q off)(hag:J5 c.P t=false)
  (h:CU c rec o nid st (fun v s=>some (v,s))=some (v,L9)):∃ cs,st.h q=some (.var cs)∧cs[off]? = some v∧jZ c.P t=true∧L9=st:=by
 unfold CU at h
 rw [hop] at h
 simp only [I1,hty,mX,hag,cond_false] at h
 obtain⟨ht,h⟩:=I2 h
 split at h
 ·rename_i cs hcs
  split at h
  ·rename_i z hz
   rw [eK] at h
   cases h
   exact⟨cs,hcs,hz,by simpa using ht,rfl⟩
  ·cases h
 ·cases h
theorem MF {c:Z6}{rec:Task→Out}{o:Oper}{nid:Nat}{st:St}{v:V}{t:TypeId}{y q off:Nat}(hop:o.op = .load t (.tmp y))(hty:st.t y = .ptr q off)(hag:J5 c.P t=false)(htk:jZ c.P t=true)
  {cs:List V} (hcs:st.h q=some (.var cs)) (hv:cs[off]? = some v):CU c rec o nid st (fun v s=>some (v,s))=some (v,st):=by
 unfold CU
 rw [hop]
 simp only [I1,hty,mX,hag,cond_false,htk,Bool.not_true,hcs,hv]
 rw [eK]
theorem xW {Rs Vl:Type}(m0:Rs→Vl)(wr:Nat→Rs→Bool)(e:Nat→Rs→Vl){L:Nat→Bool}{x:Rs}(j:Nat):∀ n,(∃ k,j<k∧k<n∧L k=true∧wr k x=true∧W5 m0 wr e L n x=e k x)∨(∀ k,j<k→k<n→L k=false∨wr k x=false)
 |0=> .inr fun k _ h=>by omega
 |n+1=>by
  by_cases hn:j<n∧L n=true∧wr n x=true
  ·refine .inl ⟨n,hn.1,by omega,hn.2.1,hn.2.2,?_⟩
   simp only [W5,hn.2.1,hn.2.2,Bool.and_self,cond_true]
  ·rcases xW m0 wr e (L:=L) (x:=x) j n with ⟨k,h1,h2,h3,h4,h5⟩|h
   ·refine .inl ⟨k,h1,by omega,h3,h4,?_⟩
    have:(L n&&wr n x)=false:=by
     cases hL:L n with
     |false=>rfl
     |true=>cases hw:wr n x with
      |false=>rfl
      |true=>exact absurd ⟨by omega,hL,hw⟩ hn
    simp only [W5,this,cond_false]
    exact h5
   ·refine .inr fun k h1 h2=>?_
    by_cases hk:k=n
    ·subst hk
     cases hL:L k with
     |false=>exact .inl rfl
     |true=>cases hw:wr k x with
      |false=>exact .inr rfl
      |true=>exact absurd ⟨h1,hL,hw⟩ hn
    ·exact h k h1 (by omega)
def pD (st0 n:Nat)(L:Nat→Bool)(x:Nat):Prop:=x<st0∨∃ j,j<n∧L j=true∧st0+32*j≤x∧x<st0+32*j+32
theorem DM.step (A:DM X rec ops st0 s v ft an on)(hn:S8 X.c)(hg0:X.c.qH X.g0.h)(hrec:gS X.c rec)(hd:Down ops L){i:Nat}{o:Oper}(ho:ops[i]? = some o)(hL:L i=false)(hready:∀ e∈o.after.toList,T0 e=true→L e.on=true)
  {g:G} {a:Act} {w:World} (N:nG X (pD st0 ops.size L) g (ST st0 s v ft on ops.size L) a w) {K:Act→World→Prop}
  (hK:∀ g' a' w',nG X (pD st0 ops.size fun k=>bif Nat.beq k i then true else L k) g' (ST st0 s v ft on ops.size fun k=>bif Nat.beq k i then true else L k) a' w'→K a' w') :
  if Region.wanted o (yielded ops a.tmps)=true then o.wp X.c.P a w K Q else K (a.put o.dst undef) w:=by
 have hi:i<ops.size:=by
  rcases Array.getElem?_eq_some_iff.1 ho with ⟨h,_⟩;exact h
 have G:=A.good i o ho
 have S:=G.step
 have hanc:∀ j∈an i,L j=true:=fun j hj=>by
  obtain⟨e,h1,h2,h3⟩:=G.jX j hj
  have hLe:=hready e h1 h2
  rcases h3 with rfl|h3
  ·exact hLe
  ·have hlt:=G.edges e h1 h2
   exact A.jX hd (e.on+1) e.on (by omega) (by omega) hLe j h3
 have bef:∀ j,j<i→L j=true∨xA (st0+32*j) (ft j) (ft i)=false:=fun j hj=>(G.apart j hj).imp (hanc j) id
 have aft:∀ k,i<k→k<ops.size→L k=false∨xA (st0+32*i) (ft i) (ft k)=false:=fun k h1 h2=>by
  cases hk:L k with
  |false=>exact .inl rfl
  |true=>
   right
   have Gk:=A.good k ops[k] (C8 h2)
   rcases Gk.apart i h1 with h|h
   ·have:=A.jX hd (k+1) k (by omega) h2 hk i h
    rw [hL] at this;cases this
   ·exact h
 obtain⟨tx1,tx2,tx3⟩:=A.text i (by omega)
 have objlt:∀ k,k<ops.size→on k=true→∀ x∈(ft k).objs,x<st0+32*k:=fun k hk hon=>by
  obtain⟨L9,_,_,h,_⟩:=(A.good k ops[k] (C8 hk)).step.ZJ hon
  exact h
 have wrobj:∀ k,k<ops.size→on k=true→∀ x∈(ft k).writes,x∈(ft k).objs:=fun k hk hon x hx=>by
  obtain⟨L9,_,h,_⟩:=(A.good k ops[k] (C8 hk)).step.ZJ hon
  rw [h] at hx
  cases hro:sJ ops[k].op with
  |true=>rw [hro] at hx;cases hx
  |false=>rw [hro] at hx;exact hx
 have Gf:∀ t∈(ft i).temps,(ST st0 s v ft on ops.size L).t t=(s i).t t:=fun t ht=>by
  rw [tx2 t]
  refine nW _ _ _ hi hL (fun j hj=>?_) (fun k h1 h2=>?_)
  ·refine (bef j hj).imp id fun h=>?_
   unfold Nh
   split
   ·rename_i d hdj
    exact beq_false fun e=>(iX h).1 d hdj (by rw [← e];exact ht)
   ·rfl
  ·refine (aft k h1 h2).imp id fun h=>?_
   unfold Nh
   split
   ·rename_i d hdk
    exact beq_false fun e=>(iX h).2.1 d hdk (by rw [← e];exact ht)
   ·rfl
 have addT:∀ t,(ST st0 s v ft on ops.size fun k=>bif Nat.beq k i then true else L k).t t=((ST st0 s v ft on ops.size L).put o.dst (v i)).t t:=fun t=>by
  rw [PX]
  refine (sD _ _ _ ops.size hi fun k h1 h2=>?_).trans ?_
  ·refine (aft k h1 h2).imp id fun h=>?_
   have h3:=(iX h).2.2.1
   unfold Nh
   cases hdi:(ft i).dst with
   |none=>exact .inl rfl
   |some d=>
    cases hdk:(ft k).dst with
    |none=>exact .inr rfl
    |some d'=>
     simp only []
     by_cases e:t=d
     ·right
      refine beq_false fun e'=>h3 d hdi ?_
      rw [hdk,← e',e]
     ·exact .inl (beq_false e)
  ·unfold Nh
   rw [S.dst]
   cases hdo:o.dst with
   |none=>simp only [cond_false];rw [if_neg (by simp)];rfl
   |some d=>
    by_cases e:t=d
    ·subst e;rw [if_pos rfl];simp only [];rw [beq_iff.2 rfl,cond_true]
    ·simp only [];rw [beq_false e,cond_false,if_neg (by intro h;cases h;exact e rfl)];rfl
 have addH:∀ x,(ST st0 s v ft on ops.size fun k=>bif Nat.beq k i then true else L k).h x=bif DL st0 ft on i x then (s (i+1)).h x else (ST st0 s v ft on ops.size L).h x:=fun x=>by
  refine sD _ _ _ ops.size hi fun k h1 h2=>?_
  refine (aft k h1 h2).imp id fun h=>?_
  obtain⟨_,_,_,c4,c5,c6⟩:=iX h
  cases hwi:DL st0 ft on i x with
  |false=>exact .inl rfl
  |true=>
   right
   cases hwk:DL st0 ft on k x with
   |false=>rfl
   |true=>
    exfalso
    unfold DL at hwi hwk
    rw [A9,Bool.or_eq_true] at hwi hwk
    obtain⟨oi,wi⟩:=hwi
    obtain⟨ok,wk⟩:=hwk
    rcases wi with wi|wi
    ·have wi:=P2.1 wi
     rcases wk with wk|wk
     ·exact c4 x wi (wrobj k h2 ok x (P2.1 wk))
     ·have:=objlt i hi oi x (wrobj i hi oi x wi)
      have:=aO.1 wk
      omega
    ·rcases wk with wk|wk
     ·have:=c6 x (wrobj k h2 ok x (P2.1 wk))
      rw [wi] at this;cases this
     ·have:=aO.1 wi
      have:=aO.1 wk
      omega
 have rdH:(ft i).ld=none→on i=true→∀ x∈(ft i).objs,(ST st0 s v ft on ops.size L).h x=(s i).h x:=fun hnl hon x hx=>by
  rw [tx3 x]
  refine nW _ _ _ hi hL (fun j hj=>?_) (fun k h1 h2=>?_)
  ·refine (bef j hj).imp id fun h=>?_
   obtain⟨_,_,_,c4,c5,c6⟩:=iX h
   unfold DL
   cases hoj:on j with
   |false=>rfl
   |true=>
    rw [Bool.true_and,Bool.or_eq_false_iff]
    exact⟨aF.2 fun hw=>c4 x hw hx,c6 x hx⟩
  ·refine (aft k h1 h2).imp id fun h=>?_
   obtain⟨_,_,_,c4,c5,c6⟩:=iX h
   unfold DL
   cases hok:on k with
   |false=>rfl
   |true=>
    rw [Bool.true_and,Bool.or_eq_false_iff]
    refine⟨aF.2 fun hw=>c5 hnl x hw hx,?_⟩
    have:=objlt i hi hon x hx
    cases hin:qK (st0+32*k) x with
    |false=>rfl
    |true=>have:=aO.1 hin;omega
 have hpq:∀ x,pD st0 ops.size L x→pD st0 ops.size (fun k=>bif Nat.beq k i then true else L k) x:=fun x hx=>by
  rcases hx with hx|⟨j,h1,h2,h3⟩
  ·exact .inl hx
  ·refine .inr ⟨j,h1,?_,h3⟩
   show (bif Nat.beq j i then true else L j)=true
   rw [h2];cases Nat.beq j i<;>rfl
 have hfr:U7 (pD st0 ops.size L) (pD st0 ops.size fun k=>bif Nat.beq k i then true else L k) (st0+32*i):=fun k hk=>by
  constructor
  ·rintro (h|⟨j,h1,h2,h3,h4⟩)
   ·omega
   ·have:j=i:=by omega
    subst this
    rw [hL] at h2;cases h2
  ·refine .inr ⟨i,hi,?_,by omega,by omega⟩
   show (bif Nat.beq i i then true else L i)=true
   rw [beq_iff.2 rfl];rfl
 have hw:Region.wanted o (yielded ops a.tmps)=on i:=by
  cases hg:o.guard with
  |none=>simp [Region.wanted,hg,S.free hg]
  |some jw=>
   obtain⟨j,want⟩:=jw
   obtain⟨d,h1,h2,h3⟩:=S.guard j want hg
   rw [D0] at h1
   have htm:=N.at_.tm d
   rw [Gf d h2] at htm
   rcases h3 with ⟨h3,h4⟩|⟨b,h3,h4⟩
   ·rw [h3] at htm
    simp [Region.wanted,hg,uW h1 htm,h4]
   ·rw [h3] at htm
    simp [Region.wanted,hg,AH h1 (oW htm),h4]
 rw [hw]
 cases hon:on i with
 |false=>
  rw [if_neg (by simp)]
  obtain⟨hv,hh⟩:=S.no hon
  refine hK g _ _ ?_
  have N1:=N.put (vv:=v i) (L9:=ST st0 s v ft on ops.size L) (v:=undef) G.okd hpq (N.at_.hp.more hpq) (I6.refl _ g).w (Ext.refl g w) (by rw [hv];exact (rfl:undef=undef)) (by rw [hv];trivial) rfl rfl
  have e:(ST st0 s v ft on ops.size fun k=>bif Nat.beq k i then true else L k).h=((ST st0 s v ft on ops.size L).put o.dst (v i)).h:=by
   funext x
   rw [addH x]
   have:DL st0 ft on i x=false:=by unfold DL;rw [hon];rfl
   rw [this,cond_false]
   cases o.dst<;>rfl
  refine⟨⟨?_,fun t=>?_,fun t=>?_⟩,N1.size,(by have k:=N1.def_;simp only [Gb] at k;exact k),N1.ext,N1.keep,N1.pre⟩
  ·rw [e];exact N1.at_.hp
  ·rw [addT t];exact N1.at_.tm t
  ·rw [addT t];exact N1.at_.nm t
 |true=>
  rw [if_pos rfl]
  obtain⟨L9,k1,k2,k3,k4,k5⟩:=S.ZJ hon
  obtain⟨st1',k4',kq⟩:∃ st1',CU X.c rec o (st0+32*i) (S4 (L8 o.op.operands.toList) (ft i).objs (ST st0 s v ft on ops.size L)) (fun v s=>some (v,s))=some (v i,st1')∧∀ x,DL st0 ft on i x=true→st1'.h x=L9.h x:=by
   have er1:∀ t,(S4 (L8 o.op.operands.toList) (ft i).objs (s i)).t t=(S4 (L8 o.op.operands.toList) (ft i).objs (ST st0 s v ft on ops.size L)).t t:=fun t=>by
    simp only [S4]
    cases ht:V3 t (L8 o.op.operands.toList) with
    |false=>rfl
    |true=>simp only [cond_true];rw [Gf t (k1 t (P2.1 ht))]
   cases hnl:(ft i).ld with
   |some ql=>
    obtain⟨q,off,u⟩:=ql
    obtain⟨_,hu,hlo⟩:=G.ldok q off u hnl
    obtain⟨t,y,hop,hty,hag⟩:=RQ hlo
    have hym:V3 y (L8 o.op.operands.toList)=true:=P2.2 (by rw [hop];exact C3.2 rfl)
    have hty':(S4 (L8 o.op.operands.toList) (ft i).objs (s i)).t y = .ptr q off:=by simp only [S4,hym,cond_true];exact hty
    obtain⟨cs,hcs,hcv,htk,fU⟩:=RU hop hty' hag k4
    have hqF:V3 q (ft i).objs=true:=by
     simp only [S4] at hcs
     cases hm:V3 q (ft i).objs with
     |true=>rfl
     |false=>rw [hm] at hcs;cases hcs
    have hcs0:(s i).h q=some (.var cs):=by simpa only [S4,hqF,cond_true] using hcs
    have hqlt:=k3 q (P2.1 hqF)
    have hST:∃ cs',(ST st0 s v ft on ops.size L).h q=some (.var cs')∧cs'[off]? = some (v i):=by
     rcases xW (s 0).h (DL st0 ft on) (fun i x=>(s (i+1)).h x) (L:=L) (x:=q) i ops.size with ⟨k,h1,h2,h3,h4,h5⟩|hno
     ·have Gk:=A.good k ops[k] (C8 h2)
      unfold DL at h4
      rw [A9,Bool.or_eq_true] at h4
      have hqw:q∈(ft k).writes:=by
       rcases h4.2 with h|h
       ·exact P2.1 h
       ·have:=aO.1 h;omega
      have hh:(ST st0 s v ft on ops.size L).h q=(s (k+1)).h q:=h5
      rcases Gk.held h4.1 i q off u h1 hnl with h|h|h
      ·have:=A.jX hd (k+1) k (by omega) h2 h3 i h
       rw [hL] at this;cases this
      ·exact absurd hqw h
      ·rw [← hu,hh]
       exact NR h
     ·refine⟨cs,?_,hcv⟩
      rw [← hcs0,tx3 q]
      refine nW _ _ _ hi hL (fun j hj=>?_) hno
      refine (bef j hj).imp id fun h=>?_
      obtain⟨_,_,_,c4,c5,c6⟩:=iX h
      unfold DL
      cases hoj:on j with
      |false=>rfl
      |true=>
       rw [Bool.true_and,Bool.or_eq_false_iff]
       exact⟨aF.2 fun hw=>c4 q hw (P2.1 hqF),c6 q (P2.1 hqF)⟩
    obtain⟨cs',hc1,hc2⟩:=hST
    refine⟨_,MF hop (by rw [← er1];exact hty') hag htk (cs:=cs') (by simp only [S4,hqF,cond_true];exact hc1) hc2,fun x hw=>?_⟩
    have hro:sJ o.op=true:=by rw [hop];rfl
    unfold DL at hw
    rw [k2,hro,cond_true,hon,Bool.true_and] at hw
    have hin:qK (st0+32*i) x=true:=by
     rw [Bool.or_eq_true] at hw
     rcases hw with h|h
     ·cases h
     ·exact h
    have hnF:V3 x (ft i).objs=false:=aF.2 fun hx=>by have:=k3 x hx;have:=aO.1 hin;omega
    rw [fU]
    simp only [S4,hnF,cond_false]
   |none=>
    refine⟨L9,?_,fun _ _=>rfl⟩
    have er:S4 (L8 o.op.operands.toList) (ft i).objs (s i)=S4 (L8 o.op.operands.toList) (ft i).objs (ST st0 s v ft on ops.size L):=by
     have e1:(fun t=>bif V3 t (L8 o.op.operands.toList) then (s i).t t else V.top)=fun t=>bif V3 t (L8 o.op.operands.toList) then (ST st0 s v ft on ops.size L).t t else V.top:=funext er1
     have e2:(fun x=>bif V3 x (ft i).objs then (s i).h x else none)=fun x=>bif V3 x (ft i).objs then (ST st0 s v ft on ops.size L).h x else none:=by
      funext x
      cases hx:V3 x (ft i).objs with
      |false=>rfl
      |true=>simp only [cond_true];rw [rdH hnl hon x (P2.1 hx)]
     unfold S4
     rw [e1,e2,tx1];rfl
    rw [← er];exact k4
  have hold:=N.at_.hp
  have S0:J2 X.u (pD st0 ops.size L) g (S4 (L8 o.op.operands.toList) (ft i).objs (ST st0 s v ft on ops.size L)).h w:=hold.Fk fun x ob hx=>by
   simp only [S4] at hx
   cases hm:V3 x (ft i).objs with
   |false=>rw [hm] at hx;cases hx
   |true=>rw [hm] at hx;exact hx
  have P:Pass X.u (pD st0 ops.size L) (pD st0 ops.size L) g g (ST st0 s v ft on ops.size L).h (S4 (L8 o.op.operands.toList) (ft i).objs (ST st0 s v ft on ops.size L)).h w (fun l o=>l=o):=
   ⟨hold,S0,fun _ _ h=>h,fun l x0 hl=>⟨l,x0,rfl,by
    simp only [S4] at hl
    cases hm:V3 l (ft i).objs with
    |false=>rw [hm] at hl;cases hl
    |true=>rw [hm] at hl;exact hl,fun _ h=>h⟩⟩
  have At0:At (jU g (S4 (L8 o.op.operands.toList) (ft i).objs (ST st0 s v ft on ops.size L)).h w) (pD st0 ops.size L) g (S4 (L8 o.op.operands.toList) (ft i).objs (ST st0 s v ft on ops.size L)) a w:=by
   refine⟨P.Lz,fun t=>?_,fun t=>?_⟩
   ·simp only [S4]
    cases V3 t (L8 o.op.operands.toList) with
    |true=>exact N.at_.tm t
    |false=>exact (trivial:VD g.h .top _)
   ·simp only [S4]
    cases V3 t (L8 o.op.operands.toList) with
    |true=>exact N.at_.nm t
    |false=>trivial
  obtain⟨vv,st2',hkk,hop⟩:=JN hn (hn.2.2.1 _ _ N.ext.h hg0) hrec At0 hpq hfr k4'
  cases hkk
  refine hop.wp fun val w' ⟨g',s1,s2,s3,s4,s5,s6,s7,s8⟩=>hK g' _ _ ?_
  have hH:J2 X.u (pD st0 ops.size fun k=>bif Nat.beq k i then true else L k) g' (ST st0 s v ft on ops.size fun k=>bif Nat.beq k i then true else L k).h w':=by
   refine P.back (f:=fun l=>l) s1 s2.h s2 (fun _ _ h=>h) hpq fun x ob hx=>?_
   have right:st1'.h x=some ob→(∃ l ob1,st1'.h l=some ob1∧x=l∧OB g' x ob w'∧(∀ b,S9 g' x ob b→S9 g' l ob1 b)∧pD st0 ops.size (fun k=>bif Nat.beq k i then true else L k) x∧ob.K5 (pD st0 ops.size fun k=>bif Nat.beq k i then true else L k)):=fun h1=>
    ⟨x,ob,h1,rfl,s1.ob _ _ h1,fun _ h=>h,(s1.use _ _ h1).1,(s1.use _ _ h1).2⟩
   rw [addH x] at hx
   cases hwi:DL st0 ft on i x with
   |true=>
    rw [hwi,cond_true,k5] at hx
    refine .inr (right ?_)
    unfold uF at hx
    have:(V3 x (ft i).objs||qK (st0+32*i) x)=true:=by
     unfold DL at hwi
     rw [A9,Bool.or_eq_true] at hwi
     rw [Bool.or_eq_true]
     exact hwi.2.imp (fun h=>P2.2 (wrobj i hi hon x (P2.1 h))) id
    rw [this] at hx;rw [kq x hwi];exact hx
   |false=>
    rw [hwi,cond_false] at hx
    unfold DL at hwi
    rw [hon,Bool.true_and,Bool.or_eq_false_iff] at hwi
    cases hF:V3 x (ft i).objs with
    |false=>
     refine .inl ⟨hx,fun l x0 hl e=>?_,fun b hb=> .inl (hold.sep _ _ _ hx hb).1,fun i'=>by rw [s8 x (hold.use _ _ hx).1 (by simp only [S4,hF];rfl)]⟩
     subst e
     simp only [S4,hF] at hl;cases hl
    |true=>
     refine .inr (right ?_)
     cases hro:sJ o.op with
     |false=>rw [k2,hro,cond_false] at hwi;rw [hwi.1] at hF;cases hF
     |true=>
      have:=PM hro k4' x (by rw [← aO];rw [hwi.2];simp)
      rw [this]
      simp only [S4,hF,cond_true];exact hx
  have N1:=N.put (L9:={ ST st0 s v ft on ops.size L with h:=(ST st0 s v ft on ops.size fun k=>bif Nat.beq k i then true else L k).h }) G.okd hpq hH s2 s3 s4 s5 rfl rfl
  refine⟨⟨?_,fun t=>?_,fun t=>?_⟩,N1.size,(by have k:=N1.def_;simp only [Gb] at k;exact k),N1.ext,N1.keep,N1.pre⟩
  ·exact hH
  ·rw [addT t]
   have:=N1.at_.tm t
   rw [PX] at this ⊢;exact this
  ·rw [addT t]
   have:=N1.at_.nm t
   rw [PX] at this ⊢;exact this
theorem nV {Rs Vl:Type}(m0:Rs→Vl)(wr:Nat→Rs→Bool)(e:Nat→Rs→Vl):∀ (n:Nat) (x:Rs),W5 m0 wr e (fun _=>false) n x=m0 x
 |0,_=>rfl
 |n+1,x=>by simp only [W5,Bool.false_and,cond_false];exact nV m0 wr e n x
def LD (listed:Array Bool)(i:Nat):Bool:=listed.getD i false
theorem KP {listed:Array Bool}{i:Nat}(hi:i<listed.size):LD (listed.setIfInBounds i true)=fun k=>bif Nat.beq k i then true else LD listed k:=by
 funext k
 unfold LD
 by_cases e:k=i
 ·subst e;rw [beq_iff.2 rfl];simp [D4,hi]
 ·rw [beq_false e];simp [D4,Array.getElem?_setIfInBounds,Ne.symm e]
theorem DM.any (A:DM X rec ops st0 s v ft an on)(hn:S8 X.c)(hg0:X.c.qH X.g0.h)(hrec:gS X.c rec)
  (hQ:∀ g a w,nG X (pD st0 ops.size fun _=>true) g (s ops.size) a w→Q .normal a w) :
  ∀ (fuel:Nat) (listed:Array Bool) (g:G) (a:Act) (w:World),listed.size=ops.size→(List.range ops.size).countP (fun i=>!LD listed i)≤fuel→Down ops (LD listed)→
   nG X (pD st0 ops.size (LD listed)) g (ST st0 s v ft on ops.size (LD listed)) a w→wpAny X.c.P .any ops Q fuel listed a w:=by
 have fin:∀ (listed:Array Bool) (g:G) (a:Act) (w:World),listed.size=ops.size→Region.ready .any ops listed=[]→nG X (pD st0 ops.size (LD listed)) g (ST st0 s v ft on ops.size (LD listed)) a w→Q .normal a w:=by
  intro listed g a w hsz hr N
  have hall:∀ m i,i<m→i<ops.size→LD listed i=true:=by
   intro m
   induction m with
   |zero=>intro i h;omega
   |succ m ih=>
    intro i h1 h2
    cases hL:LD listed i with
    |true=>rfl
    |false=>
     exfalso
     have:i∈Region.ready .any ops listed:=by
      unfold Region.ready
      rw [List.mem_filter]
      refine⟨by simpa using h2,?_⟩
      have hl:listed.getD i true=false:=by
       unfold LD at hL
       rw [D4,C8 (by omega)] at hL ⊢
       exact hL
      rw [hl,C8 h2]
      simp only [Bool.not_false,Bool.true_and,Option.map_some,Option.getD_some]
      rw [← Array.all_toList,B6]
      intro e he
      rw [BO]
      cases hb:T0 e with
      |false=>rfl
      |true=>
       have hlt:=(A.good i ops[i] (C8 h2)).edges e he hb
       have:=ih e.on (by omega) (by omega)
       unfold LD at this
       simp [this]
     rw [hr] at this;cases this
  have eT:∀ t,(ST st0 s v ft on ops.size (LD listed)).t t=(s ops.size).t t:=fun t=>by
   rw [(A.text ops.size (B9 _)).2.1 t]
   exact dD _ _ _ _ fun i hi=> .inl (hall (i+1) i (by omega) hi)
  have eH:(ST st0 s v ft on ops.size (LD listed)).h=(s ops.size).h:=funext fun x=>by
   rw [(A.text ops.size (B9 _)).2.2 x]
   exact dD _ _ _ _ fun i hi=> .inl (hall (i+1) i (by omega) hi)
  have hpq:∀ x,pD st0 ops.size (LD listed) x→pD st0 ops.size (fun _=>true) x:=fun x hx=>hx.imp id fun ⟨j,h1,_,h3⟩=>⟨j,h1,rfl,h3⟩
  refine hQ g a w ⟨⟨?_,fun t=>?_,fun t=>?_⟩,N.size,(by rw [(A.text ops.size (B9 _)).1];exact N.def_),N.ext,N.keep,fun l o h=>hpq _ (N.pre l o h)⟩
  ·rw [← eH];exact N.at_.hp.more hpq
  ·rw [← eT t];exact N.at_.tm t
  ·rw [← eT t];exact (N.at_.nm t).mono hpq
 intro fuel
 induction fuel with
 |zero=>
  intro listed g a w hsz hc hd N
  have hr:Region.ready .any ops listed=[]:=by
   rw [List.eq_nil_iff_forall_not_mem]
   intro i hi
   unfold Region.ready at hi
   rw [List.mem_filter] at hi
   have h0:=List.countP_eq_zero.1 (Nat.le_zero.1 hc) i hi.1
   have hi2:=hi.2
   rw [A9] at hi2
   have hlt:i<listed.size:=by rw [hsz];simpa using hi.1
   unfold LD at h0
   rw [D4,C8 hlt] at h0 hi2
   simp at h0 hi2
   rw [h0] at hi2;simp at hi2
  exact⟨hr,fin listed g a w hsz hr N⟩
 |succ fuel ih=>
  intro listed g a w hsz hc hd N
  refine⟨fun hr=>fin listed g a w hsz hr N,fun i hi=>?_⟩
  unfold Region.ready at hi
  rw [List.mem_filter] at hi
  obtain⟨hi1,hi2⟩:=hi
  have hlt:i<ops.size:=by simpa using hi1
  rw [A9] at hi2
  have hL:LD listed i=false:=by
   have:=hi2.1
   unfold LD
   rw [D4,C8 (by omega)] at this ⊢
   simpa using this
  have ho:ops[i]? = some ops[i]:=C8 hlt
  have hready:∀ e∈ops[i].after.toList,T0 e=true→LD listed e.on=true:=by
   have h2:=hi2.2
   rw [ho] at h2
   simp only [Option.map_some,Option.getD_some] at h2
   rw [← Array.all_toList,B6] at h2
   intro e he hb
   have:=h2 e he
   rw [BO,hb] at this
   simpa [LD] using this
  have key:=A.step hn hg0 hrec (Q:=Q) (K:=wpAny X.c.P .any ops Q fuel (listed.setIfInBounds i true)) hd ho hL hready N fun g' a' w' N'=>by
   rw [← KP (by omega)] at N'
   refine ih _ g' a' w' (by simpa using hsz) ?_ (fun k o hk hLk e he hb=>?_) N'
   ·rw [KP (by omega)]
    have hcnt:∀ (l:List Nat),i∈l→l.Nodup→l.countP (fun k=>!(bif Nat.beq k i then true else LD listed k))+1=l.countP (fun k=>!LD listed k):=by
     intro l
     induction l with
     |nil=>intro h;cases h
     |cons x xs ihl=>
      intro hm hnd
      rw [List.nodup_cons] at hnd
      by_cases e:x=i
      ·subst e
       rw [List.countP_cons,List.countP_cons,beq_iff.2 rfl,hL]
       have:xs.countP (fun k=>!(bif Nat.beq k x then true else LD listed k))=xs.countP (fun k=>!LD listed k):=by
        refine List.countP_congr fun k hk=>?_
        have:k≠x:=fun e=>hnd.1 (by rw [← e];exact hk)
        rw [beq_false this];rfl
       rw [this];simp
      ·have:=ihl ((B7.1 hm).resolve_left (Ne.symm e)) hnd.2
       rw [List.countP_cons,List.countP_cons,beq_false e,cond_false]
       omega
    have:=hcnt (List.range ops.size) hi1 List.nodup_range
    show (List.range ops.size).countP (fun k=>!(bif Nat.beq k i then true else LD listed k))≤fuel
    omega
   ·rw [KP (by omega)] at hLk ⊢
    have hdone:LD listed e.on=true:=by
     by_cases ek:k=i
     ·subst ek
      rw [ho] at hk;cases hk
      exact hready e he hb
     ·simp only [beq_false ek,cond_false] at hLk
      exact hd k o hk hLk e he hb
    show (bif Nat.beq e.on i then true else LD listed e.on)=true
    rw [hdone];cases Nat.beq e.on i<;>rfl
  unfold wpOp
  rw [ho]
  simp only []
  split
  ·rename_i hw;rw [if_pos hw] at key;exact .inl key
  ·rename_i hw;rw [if_neg hw] at key;exact key
theorem IB {id:Nat}(hn:S8 X.c)(hg0:X.c.qH X.g0.h)(hrec:gS X.c rec)(hm:X.c.P.follows .mixedOrders=true){st:St}{g:G}{a:Act}{w:World}{K:St→Out}{r:Bool×List D}(N:nG X (·<st.n) g st a w)(h:qA X.c rec X.fn.ntmps ops.toList st.n 0 ops.toList [] [] st K=some r)
  (hK:∀ st' a' w' g',K st'=some r→nG X (·<st.n+32*ops.size) g' st' a' w'→st'.n=st.n→Q .normal a' w'):(Code.region id ops true).wp X.c.P Q a w:=by
 obtain⟨s,v,ft,an,on,e1,_,_,e4,e5⟩:=xK ops.toList 0 [] [] st rfl rfl h
 have A:DM X rec ops st.n s v ft an on:=⟨by rw [e1],fun i o ho=>by
  have:=e4 i o (by rw [D0];exact ho)
  rw [C5] at this;exact this⟩
 have hsz:0+ops.toList.length=ops.size:=by simp
 rw [hsz] at e5
 refine wp_region_any hm ?_
 have hL0:LD (Array.replicate ops.size false)=fun _=>false:=by
  funext i
  unfold LD
  rw [D4,Array.getElem?_replicate]
  split<;>rfl
 refine A.any hn hg0 hrec (fun g' a' w' N'=>?_) ops.size _ g a _ (by simp) (Nat.le_trans List.countP_le_length (by simp)) (fun i o _ hLi=>by rw [hL0] at hLi;cases hLi) ?_
 ·refine hK (s ops.size) a' w' g' e5 ?_ (by have:=(A.text ops.size (B9 _)).1;rw [e1] at this;exact congrArg Mk.k this)
  have hpq:∀ x,pD st.n ops.size (fun _=>true) x→x<st.n+32*ops.size:=fun x hx=>by
   rcases hx with hx|⟨j,h1,_,h3,h4⟩<;>omega
  exact⟨⟨N'.at_.hp.more hpq,N'.at_.tm,fun t=>(N'.at_.nm t).mono hpq⟩,N'.size,N'.def_,N'.ext,N'.keep,fun l o h=>hpq _ (N'.pre l o h)⟩
 ·rw [hL0]
  have eT:(ST st.n s v ft on ops.size fun _=>false).t=st.t:=funext fun t=>by rw [← e1];exact nV _ _ _ _ t
  have eH:(ST st.n s v ft on ops.size fun _=>false).h=st.h:=funext fun x=>by rw [← e1];exact nV _ _ _ _ x
  have hpq:∀ x,x<st.n→pD st.n ops.size (fun _=>false) x:=fun x hx=> .inl hx
  refine⟨⟨?_,fun t=>?_,fun t=>?_⟩,N.size,(by show a.defers=Ae X.g0 (s 0).m.df∧∀ d∈(s 0).m.df,∀ l∈d.2,I4 X.pre l.1=some l.1;rw [e1];exact N.def_),⟨N.ext.h,N.ext.os,N.ext.tape,N.ext.output,N.ext.size⟩,N.keep,fun l o h=>hpq _ (N.pre l o h)⟩
  ·rw [eH];exact (N.at_.hp.more hpq).same rfl
  ·rw [eT];exact N.at_.tm t
  ·rw [eT];exact (N.at_.nm t).mono hpq
end
end Go.AE
namespace Go.AE
open Go.RowKit
def ZL (X:FX)(out:List D)(v:Value)(w:World):Prop:=
 ∃ g' tm',J2 X.u (·<X.osk.objs.length) g' (J6 E0 X.osk out).h w∧
  (∀ t,VV g' ((J6 E0 X.osk out).t t) (tm' t)∧((J6 E0 X.osk out).t t).K5 (·<X.osk.objs.length))∧Ext X.g0 X.w0 g' w∧DS X.pre X.g0 g'∧v=oK X.osk.slots tm'
def Fin (X:FX)(out:List D)(a:Act)(w:World):Prop:=Leaves X.c.P X.fn a.tmps (fun e w'=>∃ v,e = .returned v∧ZL X out v w') a.defers .returning w
def TM (m:Nat)(c:Z6)(f:Nat)(osk:Sk)(pre:List (Nat×Nat))(df:List (Nat×List (Nat×Nat)))(once:Bool)(id:Nat)(body:Code)(sk:Sk)(ds:List D)(b:Bool)(out:List D):Prop:=
 ∀ (X:FX),X.c=c→c.qH X.g0.h→c.P.funcs[f]? = some X.fn→X.osk=osk→X.pre=pre→(∀ l o,I4 pre l=some o→o=l)→∀ (a:Act) (w:World) (g:G),nG X (·<sk.objs.length) g ((J6 E0 sk ds).later df) a w→
  ∀ Q:Exit→Act→World→Prop,(b=false→∀ a' w' g',nG X (·<sk.objs.length) g' ((J6 E0 sk out).later df) a' w'→Q .normal a' w')→(b=true→∀ a' w',Fin X out a' w'→Q .ret a' w')→
   if once=true then body.wp c.P Q a w else Code.rounds c.P body (Exit.inBlock id Q) m a w
def Hc (m:Nat)(c:Z6)(rec:Task→Out):Prop:=∀ f osk pre df once id body sk ds b out,rec (.loop f osk pre df once id body sk ds)=some (b,out)→TM m c f osk pre df once id body sk ds b out
theorem Z7 {P:Program}{fn:Func}{tmps:Array Value}{R:Ending→World→Prop}:∀ (ds:List Deferred) (u:FrameMode) (w:World) (fr:Frame)
  (cs:List Frame),fr.mode=u→fr.defers=ds→fr.tmps=tmps→P.funcs[fr.fn]? = some fn→fr.kind = .deferred→Leaves P fn tmps R ds u w→
  ∃ e w' fr',R e w'∧Comes P (lone fr cs w) (lone fr' cs w') e∧fr'.kind = .deferred∧fr'.going P w' e
 |[],u,w,fr,cs,hu,hd,ht,hf,hk,h=>by
  cases u with
  |run=>exact h.elim
  |returning=>
   obtain⟨v,hr,hR⟩:=h
   exact⟨.returned v,w,fr,hR,Steps.refl P _,hk,hu,hd,fn,hf,ht▸hr⟩
  |panicking chain=>exact⟨.panicked chain,w,fr,h,Steps.refl P _,hk,hu,hd,fn,hf⟩
 |d::ds,u,w,fr,cs,hu,hd,ht,hf,hk,h=>by
  obtain⟨hrun,fv,cap,f,args,htar,hinv,hcall⟩:=h
  have h1:=step_defer (cs:=cs) (hu▸hrun) hd htar hinv
  obtain⟨e,u',w',frX,hR,hsteps,hkX,hgo⟩:=hcall { fr with defers:=ds } cs hu
  cases e with
  |returned v=>
   have h2:=step_going_returned (c:={ { fr with defers:=ds } with mode:=u' }) (cs:=cs) hkX hgo
   obtain⟨e',w'',fr',hR',hs',hk',hl'⟩:=Z7 ds (settle u') w' { { { fr with defers:=ds } with mode:=u' } with mode:=settle u' } cs rfl rfl ht hf hk hR
   exact⟨e',w'',fr',hR',Comes.of_steps (.head h1 (Steps.trans hsteps (.one h2))) hs',hk',hl'⟩
  |panicked chain=>
   have h2:=step_going_panicked (c:={ { fr with defers:=ds } with mode:=u' }) (cs:=cs) hgo
   obtain⟨e',w'',fr',hR',hs',hk',hl'⟩:=Z7 ds (raised u' chain) w' { { { fr with defers:=ds } with mode:=u' } with mode:=raised u' chain } cs rfl rfl ht hf hk hR
   exact⟨e',w'',fr',hR',Comes.of_steps (.head h1 (Steps.trans hsteps (.one h2))) hs',hk',hl'⟩
  |outgrown=>exact⟨.outgrown,w',fr,hR,Outgrown.of_steps (.one h1) hsteps,hk,trivial⟩
theorem mL {P:Program}{f:FuncId}{fn:Func}{c:Code}{args:Array Value}{u:FrameMode}{w:World}{R:Ending→World→Prop}
  (hu:u = .returning) (hf:P.funcs[f]? = some fn) (hb:fn.body=some c)
  (h:c.wp P (bodyPostD P fn R) { tmps:=args++Array.replicate (fn.ntmps-args.size) undef,defers:=[] } w) :
  CallsD P f args u w fun e u' w'=>u'=u∧R e w':=by
 intro c₀ cs hu
 let b:Frame:={ (default:Frame) with fn:=f,kind:= .deferred }
 have henter:Frame.enter P f args .deferred =
   b.at { tmps:=args++Array.replicate (fn.ntmps-args.size) undef,defers:=[] } [.code c]:=by
  simp [Frame.enter,Frame.at,hf,hb,b]
 have hc:({ c₀ with mode:=u }:Frame)=c₀:=by subst hu;rfl
 obtain⟨e,a',w',hq,harr⟩:=h b [] (c₀::cs)
 rw [← henter] at harr
 cases e with
 |normal=>
  obtain⟨e',w'',fr',hR,hs,hk,hl⟩:=Z7 a'.defers .returning w' { b.at a' [] with mode:= .returning } (c₀::cs) rfl rfl rfl hf rfl hq
  exact⟨e',u,w'',fr',⟨rfl,hR⟩,(by rw [hc];exact Comes.of_steps (Steps.trans harr (.one step_end)) hs),hk,hl⟩
 |ret=>
  obtain⟨todo,hs₀⟩:=harr
  obtain⟨e',w'',fr',hR,hs,hk,hl⟩:=Z7 a'.defers .returning w' { b.at a' todo with mode:= .returning } (c₀::cs) rfl rfl rfl hf rfl hq
  exact⟨e',u,w'',fr',⟨rfl,hR⟩,(by rw [hc];exact Comes.of_steps hs₀ hs),hk,hl⟩
 |panic chain=>
  obtain⟨todo,hs₀⟩:=harr
  obtain⟨e',w'',fr',hR,hs,hk,hl⟩:=Z7 a'.defers (.panicking chain) w' { b.at a' todo with mode:= .panicking chain } (c₀::cs) rfl rfl rfl hf rfl hq
  exact⟨e',u,w'',fr',⟨rfl,hR⟩,(by rw [hc];exact Comes.of_steps hs₀ hs),hk,hl⟩
 |exit id=>exact hq.elim
 |goto l=>exact hq.elim
 |outgrown=>exact⟨.outgrown,u,w',b,⟨rfl,hq⟩,harr.resolve_left (by simp [b]),rfl,trivial⟩
theorem DD:∀ {a b:List (Nat×Nat)},GS a b=true→a=b
 |[],[],_=>rfl
 |[],_::_,h=>by cases h
 |_::_,[],h=>by cases h
 |(x,y)::r,(x',y')::q,h=>by
  simp only [GS,A9] at h
  rw [B0 h.1.1,B0 h.1.2,DD h.2]
theorem mJ:∀ {a b:List (Nat×List (Nat×Nat))},zQ a b=true→a=b
 |[],[],_=>rfl
 |[],_::_,h=>by cases h
 |_::_,[],h=>by cases h
 |(x,y)::r,(x',y')::q,h=>by
  simp only [zQ,A9] at h
  rw [B0 h.1.1,DD h.1.2,mJ h.2]
def Tj:Ex→Exit
 | .normal=> .normal
 | .ret=> .ret
 | .exit id=> .exit id
section
variable {X:FX} {rec:Task→Out} {r:Bool×List D} {f:Nat}
theorem wR {x:Out}{k:List D→Out}(h:cX x k=some r):(∃ ds,x=some (true,ds)∧r=(true,ds))∨∃ ds,x=some (false,ds)∧k ds=some r:=by
 unfold cX at h
 split at h
 ·rename_i ds;cases h;exact .inl ⟨ds,rfl,rfl⟩
 ·rename_i ds;exact .inr ⟨ds,rfl,h⟩
 ·cases h
theorem jG {p:Nat→Prop}{g:G}{st:St}{a:Act}{w:World}(N:nG X p g st a w){x:Operand}{b:Bool}(h:I1 st x = .d (.bool b)):refine st x b=st:=by
 cases x with
 |tmp t=>exact lD h
 |const _=>rfl
 |global _=>rfl
 |func _=>rfl
theorem Q3 (hn:S8 X.c)(hg0:X.c.qH X.g0.h)(hrec:gS X.c rec){m:Nat}(hrecL:Hc m X.c rec)(hid:∀ l o,I4 X.pre l=some o→o=l)(hf:X.c.P.funcs[f]? = some X.fn) :
  ∀ (code:Code) {st:St} {a:Act} {w:World} {g:G} {K:Ex→St→Out} {Q:Exit→Act→World→Prop},exec X.c rec f X.fn.ntmps X.osk X.pre code st K=some r→nG X (·<st.n) g st a w→
   (∀ e st' a' w' g',K e st'=some r→nG X (·<st'.n) g' st' a' w'→Q (Tj e) a' w')→(∀ out,r=(true,out)→∀ a' w',Fin X out a' w'→Q .ret a' w')→code.wp X.c.P Q a w
 | .skip,st,a,w,g,K,Q,h,N,hK,hR=>wp_skip (hK .normal st a w g h N)
 | .exit id,st,a,w,g,K,Q,h,N,hK,hR=>wp_exit (hK (.exit id) st a w g h N)
 | .ret,st,a,w,g,K,Q,h,N,hK,hR=>wp_ret (hK .ret st a w g h N)
 | .region id ops draw,st,a,w,g,K,Q,h,N,hK,hR=>by
  simp only [exec] at h
  cases draw with
  |true=>
   simp only [cond_true] at h
   obtain⟨hm,h⟩:=H3 h
   refine IB hn hg0 hrec hm N h fun st' a' w' g' h1 h2 h3=>hK .normal _ a' w' g' h1 ?_
   exact⟨⟨h2.at_.hp,h2.at_.tm,h2.at_.nm⟩,h2.size,h2.def_,h2.ext,h2.keep,h2.pre⟩
  |false=>
   simp only [cond_false] at h
   refine wp_region_list (cE hn hg0 hrec ops.toList 0 h (by simpa using N) rfl fun st' a' w' g' h1 h2 h3=>hK .normal _ a' w' g' h1 ?_)
   have e:st.n+32*(0+ops.toList.length)=st.n+32*ops.size:=by simp
   rw [e] at h2
   exact⟨⟨h2.at_.hp,h2.at_.tm,h2.at_.nm⟩,h2.size,h2.def_,h2.ext,h2.keep,h2.pre⟩
 | .seq x y,st,a,w,g,K,Q,h,N,hK,hR=>by
  simp only [exec] at h
  refine wp_seq (Q3 hn hg0 hrec hrecL hid hf x h N (fun e st' a' w' g' h1 h2=>?_) (fun out ho a' w' hfin=>hR out ho a' w' hfin))
  cases e with
  |normal=>exact Q3 hn hg0 hrec hrecL hid hf y h1 h2 hK hR
  |ret=>exact hK .ret st' a' w' g' h1 h2
  |exit id=>exact hK (.exit id) st' a' w' g' h1 h2
 | .cond x y z,st,a,w,g,K,Q,h,N,hK,hR=>by
  simp only [exec] at h
  split at h
  ·rename_i t ts hcut
   obtain⟨g1,N1⟩:=KJ N (X.pre.map (·.1)) (t::ts)
   split at h
   ·rename_i cf hcf
    obtain⟨g2,N2⟩:=kJ N1 hid hcf
    rcases wR h with ⟨ds,h1,h2⟩|⟨ds,h1,h2⟩
    ·have:=hrecL _ _ _ _ _ _ _ _ _ _ _ h1 X rfl hg0 hf rfl rfl hid a w g2 N2 Q (fun hb=>by cases hb) (fun _ a' w' hfin=>hR ds h2 a' w' hfin)
     simpa using this
    ·obtain⟨hchk,h2⟩:=H3 h2
     have:=hrecL _ _ _ _ _ _ _ _ _ _ _ h1 X rfl hg0 hf rfl rfl hid a w g2 N2 Q (fun _ a' w' g' N3=>hK .normal _ a' w' g' h2 (vK N3 hchk)) (fun hb=>by cases hb)
     simpa using this
   ·cases h
  ·split at h
   ·rename_i b hb
    have hv:=N.at_.ev x
    rw [hb] at hv
    have hv:=oW hv
    cases b with
    |true=>
     simp only [cond_true] at h
     rw [jG N hb] at h
     exact wp_cond_true hv (Q3 hn hg0 hrec hrecL hid hf y h N hK hR)
    |false=>
     simp only [cond_false] at h
     rw [jG N hb] at h
     exact wp_cond_false hv (Q3 hn hg0 hrec hrecL hid hf z h N hK hR)
   ·rename_i hb
    have hv:=N.at_.ev x
    rw [hb] at hv
    obtain⟨b,hv⟩:=hv
    obtain⟨h1,h2⟩:=wM h
    cases b with
    |true=>exact wp_cond_true hv (Q3 hn hg0 hrec hrecL hid hf y h1 N hK hR)
    |false=>exact wp_cond_false hv (Q3 hn hg0 hrec hrecL hid hf z h2 N hK hR)
   ·cases h
 | .block id b,st,a,w,g,K,Q,h,N,hK,hR=>by
  by_cases hb:∃ body,b = .loop body
  ·obtain⟨body,rfl⟩:=hb
   simp only [exec] at h
   obtain⟨g1,N1⟩:=KJ N (X.pre.map (·.1)) ((X.c.keep f id).filter fun t=>!X.c.nowid f t)
   split at h
   ·rename_i cf hcf
    obtain⟨g2,N2⟩:=kJ N1 hid hcf
    have fin:Code.rounds X.c.P body (Exit.inBlock id Q) m a w→(Code.block id (.loop body)).wp X.c.P Q a w:=fun hn=>wp_block (wp_loop_rounds m hn)
    rcases wR h with ⟨ds,h1,h2⟩|⟨ds,h1,h2⟩
    ·have:=hrecL _ _ _ _ _ _ _ _ _ _ _ h1 X rfl hg0 hf rfl rfl hid a w g2 N2 Q (fun hb=>by cases hb) (fun _ a' w' hfin=>hR ds h2 a' w' hfin)
     exact fin (by simpa using this)
    ·obtain⟨hchk,h2⟩:=H3 h2
     have:=hrecL _ _ _ _ _ _ _ _ _ _ _ h1 X rfl hg0 hf rfl rfl hid a w g2 N2 Q (fun _ a' w' g' N3=>hK .normal _ a' w' g' h2 (vK N3 hchk)) (fun hb=>by cases hb)
     exact fin (by simpa using this)
   ·cases h
  ·have h':exec X.c rec f X.fn.ntmps X.osk X.pre b st (fun e st'=>match e with | .exit j=>bif Nat.beq j id then K .normal st' else K (.exit j) st'|e=>K e st')=some r:=by
    cases b<;>first|exact h|exact absurd ⟨_,rfl⟩ hb
   refine wp_block (Q3 hn hg0 hrec hrecL hid hf b h' N (fun e st' a' w' g' h1 h2=>?_) (fun out ho a' w' hfin=>hR out ho a' w' hfin))
   cases e with
   |normal=>exact hK .normal st' a' w' g' h1 h2
   |ret=>exact hK .ret st' a' w' g' h1 h2
   |exit j=>
    simp only [] at h1
    show Exit.inBlock id Q (.exit j) a' w'
    by_cases hj:j=id
    ·subst hj
     rw [beq_iff.2 rfl] at h1
     simp only [Exit.inBlock,if_true]
     exact hK .normal st' a' w' g' h1 h2
    ·rw [beq_false hj] at h1
     simp only [Exit.inBlock,hj,if_false]
     exact hK (.exit j) st' a' w' g' h1 h2
 | .loop _,st,a,w,g,K,Q,h,N,hK,hR=>by simp [exec] at h
 | .scope _,st,a,w,g,K,Q,h,N,hK,hR=>by simp [exec] at h
 | .label _,st,a,w,g,K,Q,h,N,hK,hR=>by simp [exec] at h
 | .goto _,st,a,w,g,K,Q,h,N,hK,hR=>by simp [exec] at h
 | .refuse _,st,a,w,g,K,Q,h,N,hK,hR=>by simp [exec] at h
 | .rangeFunc ..,st,a,w,g,K,Q,h,N,hK,hR=>by simp [exec] at h
theorem lB {p:Nat→Prop}{g:G}{st:St}{a:Act}{w:World}{P:Program}{u:Nat→Option Obj}(S:At u p g st a w):∀ {rs:List ResultVar},iG P st rs=true→
  ∃ vals,(rs.mapM fun rv=>(match rv with | .tmp t=>pure (a.tmps.getD t undef) | .cell b t=>do loadVar t (← asAddr (a.tmps.getD b undef)):Sem Value)).run P w = .ok vals w∧F2 (VV g) (R2 P st rs) vals∧∀ x∈R2 P st rs,x.K5 p
 |[],_=>⟨[],by simp,.nil,fun x hx=>nomatch hx⟩
 | .tmp t::rs,h=>by
  obtain⟨vals,h1,h2,h3⟩:=lB S (rs:=rs) h
  refine⟨a.tmps.getD t undef::vals,?_,.cons (S.tm t) h2,fun x hx=>?_⟩
  ·rw [List.mapM_cons]
   simp only [Sem.run_bind,Sem.run_pure,Result.andThen_ok,h1]
  ·simp only [R2] at hx
   rcases B7.1 hx with rfl|hx
   ·exact S.nm t
   ·exact h3 x hx
 | .cell b t::rs,h=>by
  simp only [iG,A9] at h
  obtain⟨vals,h1,h2,h3⟩:=lB S (rs:=rs) h.2
  have h0:=h.1
  split at h0
  ·rename_i o off he
   split at h0
   ·rename_i cs ho
    have hv:=S.tm b
    rw [he] at hv
    have hv:=rN hv
    obtain⟨c,e,hb,hF,hone⟩:=S.hp.ob _ _ ho
    simp only [A9] at h0
    obtain⟨htok,h0⟩:=h0
    obtain⟨d,info,hd,hinfo,hg,hs⟩:=R4 htok
    have hcell:U1 w ⟨g.blk o,0,none⟩ c.toList:=fun j v hj=>by
     rw [H8,C5,cell_of_row w _ j c e (0,0) hb]
     simpa using hj
    have fin:∀ v vv,R2 P st (.cell b t::rs)=vv::R2 P st rs→(loadVar t ⟨g.blk o,off,none⟩).run P w = .ok v w→VV g vv v→vv.K5 p→
      ∃ vals,((ResultVar.cell b t::rs).mapM fun rv=>(match rv with | .tmp t=>pure (a.tmps.getD t undef) | .cell b t=>do loadVar t (← asAddr (a.tmps.getD b undef)):Sem Value)).run P w = .ok vals w∧F2 (VV g) (R2 P st (.cell b t::rs)) vals∧
       ∀ x∈R2 P st (.cell b t::rs),x.K5 p:=by
     intro v vv e1 e2 e3 e4
     rw [e1]
     refine⟨v::vals,?_,.cons e3 h2,fun x hx=>?_⟩
     ·have hA:(asAddr (a.tmps.getD b undef)).run P w = .ok ⟨g.blk o,off,none⟩ w:=by rw [hv];simp [asAddr]
      rw [List.mapM_cons]
      simp only [Sem.run_bind,hA,Sem.run_pure,Result.andThen_ok,e2,h1]
     ·rcases B7.1 hx with rfl|hx
      ·exact e4
      ·exact h3 x hx
    cases hag:J5 P t with
    |true=>
     rw [hag] at h0 hg
     have hle:off+K2 P t≤cs.length:=B3 h0
     have hlen:=hF.length
     refine fin _ (T8 ((cs.drop off).take (K2 P t))) (by simp only [R2,he,ho,hag,cond_true]) (aC hd hinfo hg.symm (us:=(c.toList.drop off).take (K2 P t)) (by simp at hlen ⊢;omega) ?_) (P1 (hY ((hF.drop off).take _))) (O2 (cD fun y hy=>?_))
     ·have:=(hcell.sub (w:=w) off).take (K2 P t)
      rwa [H8,C5] at this
     ·exact (S.hp.use _ _ ho).2 y (List.mem_of_mem_drop (List.mem_of_mem_take hy))
    |false=>
     rw [hag] at h0 hg
     have hlt:Nat.ble (off+1) cs.length=true:=h0
     have hlt:=B3 hlt
     obtain⟨v,hv2,hvv⟩:=hF.get off _ (C2 hlt)
     have:=hcell off v hv2
     rw [H8,C5] at this
     refine fin v cs[off] ?_ (P0 hd hg.symm this) (P1 hvv) (O2 ((S.hp.use _ _ ho).2 _ (C6 hlt)))
     simp only [R2,he,ho,hag,cond_false]
     rw [C2 hlt];rfl
   ·cases h0
  ·cases h0
theorem xB:∀ {sl:List (Nat×SV)} {i:Nat} {pre vals:List Value},EM i sl=true→pre.length=i→sl.length=vals.length→(sl.map fun x=>(pre++vals).getD x.1 undef)=vals
 |[],i,pre,vals,_,_,hl=>by
  have:vals=[]:=D3 hl.symm
  subst this;rfl
 |(j,s)::sl,i,pre,[],_,_,hl=>by simp at hl
 |(j,s)::sl,i,pre,v::vals,hc,hp,hl=>by
  simp only [EM,A9] at hc
  have hj:i=j:=beq_iff.1 hc.1
  subst hj
  have ih:=xB (sl:=sl) (i:=i+1) (pre:=pre++[v]) (vals:=vals) hc.2 (by simp [hp]) (by simpa using hl)
  simp only [C1,List.singleton_append] at ih
  simp only [List.map_cons,ih]
  congr 1
  subst hp
  simp
theorem EX {p:Nat→Prop}{st:St}{a:Act}{w:World}{g:G}{b:Bool}{out:List D}(hid:∀ l o,I4 X.pre l=some o→o=l)(hat:At X.u p g st a w)(hext:Ext X.g0 X.w0 g w)(hkeep:DS X.pre X.g0 g)(h:finish X.c.P X.fn.results.toList X.osk X.pre st=some (b,out)) :
  ∃ v,(results X.fn a.tmps).run X.c.P w = .ok v w∧ZL X out v w:=by
 unfold finish at h
 obtain⟨hc,h⟩:=H3 h
 simp only [A9] at hc
 obtain⟨⟨hok,hcon⟩,hlen⟩:=hc
 have hlen:X.osk.slots.length=X.fn.results.toList.length:=beq_iff.1 hlen
 obtain⟨vals,h1,h2,h3⟩:=lB hat hok
 split at h
 ·rename_i cf hcf
  cases h
  have hone:fV X.pre:=fun l l' o h h'=>by rw [← hid l o h,← hid l' o h']
  obtain⟨gF,M⟩:=nQ (tm:=fun t=>vals.getD t undef) hcf hat.hp (FR h2) (sR h3) hone
  have hrl:(R2 X.c.P st X.fn.results.toList).length=X.fn.results.toList.length:=by
   generalize X.fn.results.toList=rs
   induction rs with
   |nil=>rfl
   |cons x rs ih=>cases x<;>simp [R2,ih]
  have hvl:X.osk.slots.length=vals.length:=by rw [hlen,← hrl,h2.length]
  refine⟨oK X.osk.slots fun t=>vals.getD t undef,?_,eL g gF cf.ren,fun t=>vals.getD t undef,M.Lz hat.hp,fun t=>⟨M.tm t,M.nm t⟩,hext.trans ⟨M.a.h,rfl,rfl,rfl,B9 _⟩,fun l o hl=>?_,rfl⟩
  ·have hm:=xB (pre:=[]) hcon rfl hvl
   simp only [List.nil_append] at hm
   unfold oK
   rw [hm]
   unfold results
   have e:(X.fn.results.mapM fun rv=>(match rv with | .tmp t=>pure (a.tmps.getD t undef) | .cell b t=>do loadVar t (← asAddr (a.tmps.getD b undef)):Sem Value)).run X.c.P w = .ok vals.toArray w:=by
    rw [Array.mapM_eq_mapM_toList,map_eq_pure_bind]
    simp only [Sem.run_bind,h1,Result.andThen_ok,Sem.run_pure]
   simp only [Sem.run_bind]
   refine (congrArg (fun z:Result (Array Value)=>z.andThen fun (a:Array Value) w'=>Sem.run X.c.P (pure (if h:a.size=1 then a[0] else .tuple a)) w') e).trans ?_
   simp only [Result.andThen_ok,Sem.run_pure]
   congr 1
   match vals with
   |[]=>rfl
   |[v]=>rfl
   |v::v'::vs=>simp
  ·have k1:=M.pre l o hl
   have k2:=hid l o hl
   subst k2
   obtain⟨k3,k4⟩:=hkeep o o hl
   exact⟨by simp only [eL,k1,Option.getD_some];exact k3,by simp only [eL,k1,Option.getD_some];exact k4⟩
 ·cases h
theorem IJ {st:St}{b:Bool}{out:List D}(h:finish X.c.P X.fn.results.toList X.osk X.pre st=some (b,out)):b=true:=by
 unfold finish at h
 obtain⟨_,h⟩:=H3 h
 split at h
 ·cases h;rfl
 ·cases h
theorem qE:∀ {df:List (Nat×List (Nat×Nat))} {st:St} {b:Bool} {out:List D},eD X.c rec X.fn.results.toList X.osk X.pre df st=some (b,out)→b=true
 |[],st,b,out,h=>IJ h
 |(f,zs)::r,st,b,out,h=>by
  simp only [eD] at h
  rw [iO] at h
  obtain⟨⟨v,st'⟩,_,h⟩:=kF h
  exact qE h
theorem PV {g:G}(hkeep:DS X.pre X.g0 g):∀ {zs:List (Nat×Nat)},(∀ l∈zs,I4 X.pre l.1=some l.1)→F2 (VV g) (zs.map fun x=>V.ptr x.1 x.2) (zs.map fun l=>Value.pointer (some ⟨X.g0.blk l.1,l.2,none⟩))
 |[],_=> .nil
 |x::zs,h=>by
  refine .cons ?_ (PV hkeep fun l hl=>h l (by simp [hl]))
  show Value.pointer _ = .pointer (some ⟨g.blk x.1,x.2,none⟩)
  rw [(hkeep _ _ (h x (by simp))).1]
theorem AR (hn:S8 X.c)(hg0:X.c.qH X.g0.h)(hrec:gS X.c rec)(hid:∀ l o,I4 X.pre l=some o→o=l){b:Bool}{out:List D}:∀ (df:List (Nat×List (Nat×Nat))) (st:St) (a:Act) (w:World) (g:G),eD X.c rec X.fn.results.toList X.osk X.pre df st=some (b,out)→
  At X.u (·<st.n) g st a w→Ext X.g0 X.w0 g w→DS X.pre X.g0 g→(∀ l o,I4 X.pre l=some o→l<st.n)→(∀ d∈df,∀ l∈d.2,I4 X.pre l.1=some l.1)→
  Leaves X.c.P X.fn a.tmps (fun e w'=>∃ v,e = .returned v∧ZL X out v w') (Ae X.g0 df) .returning w:=by
 intro df
 induction df with
 |nil=>
  intro st a w g h hat hext hkeep hpre hlab
  obtain⟨v,h1,h2⟩:=EX hid hat hext hkeep h
  exact⟨v,h1,v,rfl,h2⟩
 |cons d r ih=>
  obtain⟨fid,zs⟩:=d
  intro st a w g h hat hext hkeep hpre hlab
  simp only [eD] at h
  have hl0:=hlab (fid,zs) (by simp)
  have hF:=PV (g:=g) hkeep hl0
  have hu:∀ x∈(zs.map fun x=>V.ptr x.1 x.2),x.K5 (·<st.n):=by
   intro x hx
   obtain⟨y,hy,rfl⟩:=List.mem_map.1 hx
   exact hpre _ _ (hl0 y hy)
  obtain⟨fn,hfn,hb,vv,L9,hk,hc⟩:=tZ (CL:=Ek X.c.P) (q:=(·<st.n+32)) (fun f a w R R' h hr=>CallsD.mono h fun e u' w' k=>⟨k.1,hr _ _ k.2⟩) (no:=true) hn.2.2.1 (hn.2.2.1 _ _ hext.h hg0) (fun sk ds out h hno=>(hrec _ _ _ _ h).2 (hno rfl)) hat.hp (fun x hx=>(Nat.lt_add_right 32 hx:x<st.n+32)) (fun k hk=>⟨Nat.not_lt.2 (Nat.le_add_right _ _),(Nat.add_lt_add_left hk _:st.n+k<st.n+32)⟩) hF hu h
  have e0:Ae X.g0 ((fid,zs)::r)={ target:= .fn (.func fid) #[],args:=(zs.map fun l=>Value.pointer (some ⟨X.g0.blk l.1,l.2,none⟩)).toArray }::Ae X.g0 r:=rfl
  rw [e0]
  generalize (zs.map fun l=>Value.pointer (some ⟨X.g0.blk l.1,l.2,none⟩)).toArray=vals at hc
  generalize Ae X.g0 r=ds0 at ih
  refine leaves_cons (f:=fid) (args:=vals) (u:= .returning) (by simp) ?_ (CallsD.mono hc ?_)
  ·have hname:=hn.1 fid fn hfn
   have hname:fn.name≠"runtime.NumGoroutine":=by simpa using hname
   have hbn:fn.body≠none:=by intro h;rw [h] at hb;cases hb
   simp [invoke,callFunc,hfn,hname,hbn]
  ·rintro e u' w' ⟨rfl,v,rfl,g',s1,s2,s3,s4,s5,s6,s7⟩
   show Leaves _ _ _ _ _ .returning w'
   refine ih { L9 with m:=⟨st.n+32,L9.m.df⟩ } a w' g' hk ⟨s1,fun t=>?_,fun t=>?_⟩ (hext.trans s3) (hkeep.agree s2 hpre) (fun l o hl=>Nat.lt_of_lt_of_le (hpre l o hl) (by show st.n≤st.n+32;omega)) (fun d hd=>hlab d (by simp [hd]))
   ·show VV g' (L9.t t) _
    rw [s6]
    exact (hat.tm t).agree s2 (hat.nm t)
   ·show (L9.t t).K5 _
    rw [s6]
    exact (hat.nm t).mono (fun x hx=>by show x<st.n+32;omega)
theorem vM (hn:S8 X.c)(hg0:X.c.qH X.g0.h)(hrec:gS X.c rec)(hid:∀ l o,I4 X.pre l=some o→o=l){b:Bool}{out:List D}{st:St}{a:Act}{w:World}{g:G}(h:eD X.c rec X.fn.results.toList X.osk X.pre st.m.df st=some (b,out))(N:nG X (·<st.n) g st a w):b=true∧Fin X out a w:=by
 refine⟨qE h,?_⟩
 unfold Fin
 rw [N.def_.1]
 exact AR hn hg0 hrec hid _ _ _ _ _ h N.at_ N.ext N.keep N.pre N.def_.2
theorem ET (hn:S8 X.c)(hg0:X.c.qH X.g0.h)(hrec:gS X.c rec){m:Nat}(hrecL:Hc m X.c rec)(hid:∀ l o,I4 X.pre l=some o→o=l)(hf:X.c.P.funcs[f]? = some X.fn){code:Code}{st:St}{a:Act}{w:World}{g:G}{K:Ex→St→Out}{Q:Exit→Act→World→Prop}
  (h:LO X.c rec f X.fn.ntmps X.osk X.pre code st K=some r) (N:nG X (·<st.n) g st a w)
  (hK:∀ e st' a' w' g',K e st'=some r→nG X (·<st'.n) g' st' a' w'→Q (Tj e) a' w') (hR:∀ out,r=(true,out)→∀ a' w',Fin X out a' w'→Q .ret a' w'):code.wp X.c.P Q a w:=by
 unfold LO at h
 split at h
 ·rename_i x y z
  split at h
  ·rename_i b hb
   have hv:=N.at_.ev x
   rw [hb] at hv
   have hv:=oW hv
   cases b with
   |true=>
    simp only [cond_true] at h
    rw [jG N hb] at h
    exact wp_cond_true hv (Q3 hn hg0 hrec hrecL hid hf y h N hK hR)
   |false=>
    simp only [cond_false] at h
    rw [jG N hb] at h
    exact wp_cond_false hv (Q3 hn hg0 hrec hrecL hid hf z h N hK hR)
  ·cases h
 ·cases h
theorem LU (args:Array Value)(n t:Nat):(args++Array.replicate n undef).getD t undef=args.getD t undef:=by
 simp only [D4,Array.getElem?_append]
 split
 ·rfl
 ·rename_i hlt
  rw [Array.getElem?_eq_none (by omega:args.size≤t),Array.getElem?_replicate]
  split<;>rfl
theorem DC {c:Z6}(hn:S8 c)(horc:∀ f sk ds r,c.orc f sk ds=some r→cU c f sk ds r):∀ n,gS c (run c n)∧Hc n c (run c n)
 |0=>⟨fun f sk ds out h=>by simp [run] at h,fun f osk pre df once id body sk ds b out h=>by simp [run] at h⟩
 |n+1=>by
  obtain⟨ih1,ih2⟩:=DC hn horc n
  refine⟨fun f sk ds out h=>?_,fun f osk pre df once id body sk ds b out h=>?_⟩
  ·simp only [run] at h
   split at h
   ·rename_i r hr
    cases h
    exact⟨horc f sk ds _ hr,fun hno=>by rw [hno] at hr;cases hr⟩
   ·split at h
    ·rename_i fn hfn
     split at h
     ·rename_i body hbody
      obtain⟨hchk,h⟩:=H3 h
      have main:∀ (u:Nat→Option Obj) (g:G),c.qH g.h→∀ (args:Array Value) (w:World),args.size=sk.slots.length→J2 u (·<sk.objs.length) g (J6 E0 sk ds).h w→
        (∀ t,VV g ((J6 E0 sk ds).t t) (args.getD t undef)∧((J6 E0 sk ds).t t).K5 (·<sk.objs.length))→
        body.wp c.P (bodyPostD c.P fn fun e w'=>∃ v,e = .returned v∧ZL ⟨c,fn,u,V5 c.P (c.dres f) fn.resultTypes.toList sk,L2 0 sk.objs,g,w⟩ out v w') { tmps:=args++Array.replicate (fn.ntmps-args.size) undef,defers:=[] } w:=by
       intro u g hg0 args w hsize S T
       let X:FX:=⟨c,fn,u,V5 c.P (c.dres f) fn.resultTypes.toList sk,L2 0 sk.objs,g,w⟩
       have hid:∀ l o,I4 X.pre l=some o→o=l:=fun l o hl=>(Y9.1 hl).1
       have N0:nG X (·<sk.objs.length) g ((J6 E0 sk ds).later []) { tmps:=args++Array.replicate (fn.ntmps-args.size) undef,defers:=[] } w:=by
        refine⟨⟨S,fun t=>?_,fun t=>(T t).2⟩,?_,⟨rfl,fun d hd=>by cases hd⟩,Ext.refl g w,fun l o _=>⟨rfl,rfl,fun _ _ k=>k⟩,fun l o hl=>?_⟩
        ·show VV g _ ((args++Array.replicate (fn.ntmps-args.size) undef).getD t undef)
         rw [LU];exact (T t).1
        ·show fn.ntmps≤(args++Array.replicate (fn.ntmps-args.size) undef).size
         simp;omega
        ·obtain⟨_,k,s,h1,h2,_⟩:=Y9.1 hl
         have:=(List.getElem?_eq_some_iff.1 h2).1
         omega
       refine Q3 (X:=X) hn hg0 ih1 ih2 hid hfn body h (vK N0 hchk) (fun e st' a' w' g' h1 h2=>?_) (fun out' ho a' w' hfin=>?_)
       ·cases e with
        |ret=>exact (vM hn hg0 ih1 hid h1 h2).2
        |normal=>exact (vM hn hg0 ih1 hid h1 h2).2
        |exit j=>cases h1
       ·cases ho
        exact hfin
      refine⟨fun fn' hfn' u g hg0 args w hsize S T=>?_,fun _ fn' hfn' u g hg0 args w hsize S T=>?_⟩
      ·rw [hfn] at hfn'
       cases hfn'
       exact calls_of_wp_defers hfn hbody (main u g hg0 args w hsize S T)
      ·rw [hfn] at hfn'
       cases hfn'
       exact mL rfl hfn hbody (main u g hg0 args w hsize S T)
     ·cases h
    ·cases h
  ·simp only [run] at h
   split at h
   ·rename_i fn hfn
    obtain⟨hchk,h⟩:=H3 h
    intro X hX hg0 hXf hXo hXp hid a w g N Q hQ hQr
    subst hX
    rw [hfn] at hXf
    simp only [B1] at hXf
    subst hXf
    subst hXo
    subst hXp
    have N1:=vK N hchk
    cases once with
    |true=>
     simp only [cond_true] at h
     simp only [if_true]
     refine ET hn hg0 ih1 ih2 hid hfn h N1 (fun e st' a' w' g' h1 h2=>?_) (fun out' ho a' w' hfin=>?_)
     ·cases e with
      |ret=>
       obtain⟨hb,hfin⟩:=vM hn hg0 ih1 hid h1 h2
       exact hQr hb a' w' hfin
      |normal=>
       simp only [] at h1
       replace h1:=I2 h1
       obtain⟨hdf,h1⟩:=h1
       rw [Bool.not_eq_false'] at hdf
       have hdf:=mJ hdf
       subst hdf
       split at h1
       ·rename_i cf hcf
        simp only [cond_true,B1,C7] at h1
        obtain⟨h1,h3⟩:=h1
        obtain⟨g2,N2⟩:=kJ h2 hid hcf
        rw [h3] at N2
        exact hQ h1.symm a' w' g2 N2
       ·cases h1
      |exit j=>simp at h1
     ·cases ho
      exact hQr rfl a' w' hfin
    |false=>
     simp only [cond_false] at h
     simp only [D8,if_false,rounds_succ]
     refine Q3 hn hg0 ih1 ih2 hid hfn body h N1 (fun e st' a' w' g' h1 h2=>?_) (fun out' ho a' w' hfin=>?_)
     ·cases e with
      |ret=>
       obtain⟨hb,hfin⟩:=vM hn hg0 ih1 hid h1 h2
       exact hQr hb a' w' hfin
      |normal=>
       simp only [] at h1
       replace h1:=I2 h1
       obtain⟨hdf,h1⟩:=h1
       rw [Bool.not_eq_false'] at hdf
       have hdf:=mJ hdf
       subst hdf
       split at h1
       ·rename_i cf hcf
        obtain⟨g2,N2⟩:=kJ h2 hid hcf
        have:=ih2 _ _ _ _ _ _ _ _ _ _ _ h1 X rfl hg0 hfn rfl rfl hid a' w' g2 N2 Q hQ hQr
        simp only [D8,if_false] at this
        exact this
       ·cases h1
      |exit j=>
       replace h1:=H3 h1
       obtain⟨hj,h1⟩:=h1
       simp only [Bool.not_false,Bool.and_true,A9] at hj
       have hdf:=mJ hj.2
       subst hdf
       have hj:j=id:=beq_iff.1 hj.1
       subst hj
       split at h1
       ·rename_i cf hcf
        cases h1
        obtain⟨g2,N2⟩:=kJ h2 hid hcf
        show Exit.inBlock j Q (.exit j) a' w'
        simp only [Exit.inBlock,if_true]
        exact hQ rfl a' w' g2 N2
       ·cases h1
     ·cases ho
      exact hQr rfl a' w' hfin
   ·cases h
end
end Go.AE
namespace Go.AE
open Go.RowKit
def xO:List D→Option (Bool×List D)
 |[.int .u64 x,.int .u64 y,.int .u64 c]=>some (decide (0≤x)&&decide (0≤y)&&decide (0≤c)&&decide (c≤1),[.int .u64 ((x+y+c) % 18446744073709551616),.int .u64 ((x+y+c) / 18446744073709551616)])
 |_=>none
def Z9 (c:UInt8):G0→Nat→Int
 |[],_=>-1
 |x::xs,j=>bif x==c then (j:Int) else Z9 c xs (j+1)
def iR:List D→Option (Bool×List D)
 |[.str s,.int .u8 c]=>some (true,[.int .i64 (Z9 c.toNat.toUInt8 s 0)])
 |_=>none
def rM (gv:Nat)(h:Nat→Option Obj):Prop:=∃ m:Int,dW h ⟨gv,0,none⟩=some (.int .i64 m)
def KO (c:Z6)(f:Nat)(x:List D→Option (Bool×List D)):Prop:=∀ (ds r:List D),x ds=some (true,r)→∀ (g:G) (vals:Array Value) (w:World),F2 (VV g) (ds.map V.d) vals.toList→
 ∃ v,(callFunc f vals).run c.P w = .ok (.value v) w∧VV g (FU (r.map V.d)) v
def EV:List (Nat×(List D→Option (Bool×List D)))→Nat→List D→Option (Bool×List D)
 |[],_,_=>none
 |(a,x)::r,f,ds=>bif Nat.beq f a then x ds else EV r f ds
theorem IG {c:Z6}:∀ (l:List (Nat×(List D→Option (Bool×List D)))),(∀ p∈l,KO c p.1 p.2)→(∀ f ds,c.ext f ds=EV l f ds)→NS c:=by
 intro l hl he f ds r h
 rw [he] at h
 clear he
 induction l with
 |nil=>cases h
 |cons p l ih=>
  obtain⟨a,x⟩:=p
  simp only [EV] at h
  by_cases e:f=a
  ·subst e
   rw [beq_iff.2 rfl,cond_true] at h
   exact hl (f,x) (by simp) ds r h
  ·rw [beq_false e,cond_false] at h
   exact ih (fun p hp=>hl p (by simp [hp])) h
theorem RF {c:Z6}{f:Nat}{fn:Func}(hf:c.P.funcs[f]? = some fn)(hname:(fn.name=="runtime.NumGoroutine")=false)(hb:fn.body.isNone=true)(hn:Extern.findNext fn=none)(he:Extern.find fn=some add64Entry):KO c f xO:=by
 intro ds r h g vals w hF
 unfold xO at h
 split at h
 ·rename_i x y z
  cases h1:(decide (0≤x)&&decide (0≤y)&&decide (0≤z)&&decide (z≤1)) with
  |false=>rw [h1] at h;cases h
  |true=>
   rw [h1] at h
   simp only [A9,decide_eq_true_eq] at h1
   cases h
   have hv:vals=#[.int .u64 x,.int .u64 y,.int .u64 z]:=by
    obtain⟨l,hv⟩:∃ l,vals.toList=l:=⟨_,rfl⟩
    rw [hv] at hF
    cases hF with
    |@cons _ v1 _ _ a1 hF=>cases hF with
     |@cons _ v2 _ _ a2 hF=>cases hF with
      |@cons _ v3 _ _ a3 hF=>cases hF with
       |nil=>
        apply Array.ext'
        rw [hv]
        have b1:v1 = .int .u64 x:=a1
        have b2:v2 = .int .u64 y:=a2
        have b3:v3 = .int .u64 z:=a3
        rw [b1,b2,b3]
   subst hv
   refine⟨.tuple #[.int .u64 ((x+y+z) % 18446744073709551616),.int .u64 ((x+y+z) / 18446744073709551616)],?_,?_⟩
   ·rw [run_callFunc_extern hf hname hb hn he,run_add64 x y z h1.1.1.1 h1.1.1.2 h1.1.2 h1.2]
    rfl
   ·exact⟨_,rfl,.cons rfl (.cons rfl .nil)⟩
 ·cases h
theorem FF (c:UInt8)(s:G0)(b:ByteArray)(hb:b.data.toList=s):firstIdx b c=Z9 c s 0:=by
 have key:∀ (l:G0) (j:Nat),(∀ k,k<l.length→b[j+k]! = l[k]!)→Z9 c l j=match (List.range' j l.length).find? (fun i=>b[i]! == c) with|some i=>(i:Int)|none=>-1:=by
  intro l
  induction l with
  |nil=>intro j _;rfl
  |cons x xs ih=>
   intro j hk
   simp only [Z9,A0,List.range'_succ,List.find?_cons]
   have h0:=hk 0 (by simp)
   simp at h0
   rw [h0]
   cases x==c with
   |true=>rfl
   |false=>
    simp only [cond_false]
    rw [ih (j+1) fun k hkl=>by
     have:=hk (k+1) (by simpa using hkl)
     rw [show j+(k+1)=j+1+k by omega] at this
     rw [this];simp]
 have hsz:b.size=s.length:=by rw [← hb];simp
 unfold firstIdx
 rw [key s 0 fun k hk=>by
  rw [C5]
  subst hb
  have hk':k<b.size:=by rw [hsz];exact hk
  rw [getElem!_pos b k hk',getElem!_pos b.data.toList k hk]
  simp [ByteArray.getElem_eq_getElem_data],hsz,List.range_eq_range']
 cases List.find? (fun i=>b[i]! == c) (List.range' 0 s.length)<;>rfl
theorem AQ {c:Z6}{f:Nat}{fn:Func}(hf:c.P.funcs[f]? = some fn)(hname:(fn.name=="runtime.NumGoroutine")=false)(hb:fn.body.isNone=true)(hn:Extern.findNext fn=none)(he:Extern.find fn=some Extern.BytealgIndexByte.indexByte):KO c f iR:=by
 intro ds r h g vals w hF
 unfold iR at h
 split at h
 ·rename_i s n
  cases h
  have hv:∃ b:ByteArray,b.data.toList=s∧vals=#[.string b,.int .u8 n]:=by
   obtain⟨l,hv⟩:∃ l,vals.toList=l:=⟨_,rfl⟩
   rw [hv] at hF
   cases hF with
   |@cons _ v1 _ _ a1 hF=>cases hF with
    |@cons _ v2 _ _ a2 hF=>cases hF with
     |nil=>
      obtain⟨b,b1,b2⟩:=(show VD g.h (.str s) v1 from a1)
      have b3:v2 = .int .u8 n:=a2
      refine⟨b,b2,?_⟩
      apply Array.ext'
      rw [hv,b1,b3]
  obtain⟨b,hs,rfl⟩:=hv
  refine⟨.int .i64 (firstIdx b n.toNat.toUInt8),?_,?_⟩
  ·rw [run_callFunc_extern hf hname hb hn he,run_indexByte_string]
   rfl
  ·show Value.int .i64 _=_
   rw [FF _ s b hs]
 ·cases h
end Go.AE
namespace Go.AE
open Go.ChangeShapes Go.WideShapes Go.ChangeAt Go.RowKit
def snap (W:World):Nat→Option Obj:=fun b=>W.heap[b]?
mutual
def pH:D→Nat
 | .str s=>s.length+1
 | .Z _ xs=>U0 xs+1
 | .agg cs=>U0 cs
 |_=>1
def U0:List D→Nat
 |[]=>0
 |x::xs=>pH x+U0 xs
end
structure KS {H:Type} (m:DataW H→Nat) (ma:List (DataW H)→Nat):Prop where
 one:∀ d,1≤m d
 str:∀ b,b.length+1≤m (.lit (.string b))
 slice:∀ e s,ma e+1≤m (.slice e s)
 agg:∀ p,ma p≤m (.agg p)
 nil:ma []=0
 cons:∀ d r,ma (d::r)=m d+ma r
def PB (P:Program)(total:Nat):Nat→List Field→Bool
 |off,[]=>Nat.beq off total
 |off,f::fs=>Nat.beq f.offset off&&PB P total (off+P.cellsOf f.type) fs
def Z5 (P:Program):Nat→TypeId→Bool
 |0,_=>false
 |n+1,t=>match P.underlying t with
  |some .bool=>true
  |some (.int _)=>true
  |some .string=>true
  |some (.slice e)=>Z5 P n e&&jZ P e
  |some (.struct fs)=>PB P (P.cellsOf t) 0 fs.toList&&fs.toList.all fun f=>Z5 P n f.type
  |some (.array k e)=>Nat.beq (P.cellsOf t) (k*P.cellsOf e)&&Z5 P n e
  |_=>false
def wC (P:Program):Nat→TypeId→List D→Prop
 |0,_,_=>False
 |n+1,t,xs=>match P.underlying t with
  |some .bool=>∃ b,xs=[.bool b]
  |some (.int k)=>∃ i,xs=[.int k i]∧(Lit.int k i).wf=true
  |some .string=>∃ s,xs=[.str s]
  |some (.slice e)=>∃ ys,xs=[.Z (K2 P e) ys]∧∀ y∈ys,if J5 P e=true then ∃ cs,y = .agg cs∧wC P n e cs else wC P n e [y]
  |some (.struct fs)=>∃ parts:List (List D),xs=parts.flatten∧F2 (fun f p=>wC P n f.type p) fs.toList parts
  |some (.array k e)=>∃ parts:List (List D),xs=parts.flatten∧parts.length=k∧∀ p∈parts,wC P n e p
  |_=>False
def KL (P:Program)(n:Nat)(t:TypeId)(x:D):Prop:=if J5 P t=true then ∃ cs,x = .agg cs∧wC P n t cs else wC P n t [x]
theorem KD (P:Program)(t:TypeId):K2 P t=P.cellsOf t:=by
 unfold K2 Program.cellsOf
 cases P.info? t<;>rfl
theorem pJ (xs ys:List D):U0 (xs++ys)=U0 xs+U0 ys:=by
 induction xs with
 |nil=>simp [U0]
 |cons x xs ih=>simp only [List.cons_append,U0,ih];omega
theorem wH {h:Nat→Option Obj}{xs ys:List D}{us vs:List Value}(h1:jV h xs us)(h2:jV h ys vs):jV h (xs++ys) (us++vs):=
 (W7 h _ _).2 (((W7 h _ _).1 h1).append ((W7 h _ _).1 h2))
section
variable {H:Type} {enc:TypeId×Value→H} {P:Program} {W:World} {base:Nat} {sp:Nat→Bool} {held:Bool} {m:DataW H→Nat} {ma:List (DataW H)→Nat}
def Leaves (P:Program)(W:World)(n:Nat)(t:TypeId)(cs:List Value)(b:Nat):Prop:=
 ∃ xs,jV (snap W) xs cs∧wC P n t xs∧U0 xs≤b∧∀ u∈cs,u.oneCell'=true
theorem bF {α β:Type}{f:α→Option β}{x:α}{l:List α}{r:List β}(h:(x::l).mapM f=some r):∃ y ys,f x=some y∧l.mapM f=some ys∧r=y::ys:=by
 rw [List.mapM_cons] at h
 cases hx:f x with
 |none=>rw [hx] at h;cases h
 |some y=>
  rw [hx] at h
  cases hl:l.mapM f with
  |none=>rw [hl] at h;cases h
  |some ys=>rw [hl] at h;cases h;exact⟨y,ys,rfl,rfl,rfl⟩
theorem mR (M:KS m ma){n fuel:Nat}(ih:∀ t cs d ps,DataW.trod enc P W base sp held fuel t cs=some (d,ps)→Z5 P n t=true→Leaves P W n t cs (m d)){cs:List Value}{total:Nat}(hlen:cs.length=total) :
  ∀ (fs:List Field) (off:Nat) (ys:List (DataW H×List MemPlace)),PB P total off fs=true→(fs.all fun f=>Z5 P n f.type)=true→
   (fs.mapM fun f=>DataW.trod enc P W base sp held fuel f.type ((cs.drop f.offset).take (P.cellsOf f.type)))=some ys→
   ∃ parts:List (List D),F2 (fun f p=>wC P n f.type p) fs parts∧jV (snap W) parts.flatten (cs.drop off)∧U0 parts.flatten≤ma (ys.map (·.1))∧∀ u∈cs.drop off,u.oneCell'=true
 |[],off,ys,hl,_,h=>by
  have:off=total:=beq_iff.1 hl
  subst this
  have e:cs.drop off=[]:=D6 (by omega)
  cases h
  rw [e]
  exact⟨[],.nil,rfl,by simp [U0],fun u hu=>by cases hu⟩
 |f::fs,off,ys,hl,hp,h=>by
  simp only [PB,A9] at hl
  simp only [List.all_cons,A9] at hp
  have ho:f.offset=off:=beq_iff.1 hl.1
  obtain⟨y,ys',h1,h2,rfl⟩:=bF h
  obtain⟨d,ps⟩:=y
  obtain⟨xs,k1,k2,k3,k4⟩:=ih _ _ _ _ h1 hp.1
  obtain⟨parts,j1,j2,j3,j4⟩:=mR M ih hlen fs (off+P.cellsOf f.type) ys' hl.2 hp.2 h2
  rw [ho] at k1 k4
  have e:cs.drop off=(cs.drop off).take (P.cellsOf f.type)++cs.drop (off+P.cellsOf f.type):=by
   rw [← List.drop_drop,List.take_append_drop]
  refine⟨xs::parts,.cons k2 j1,?_,?_,fun u hu=>?_⟩
  ·rw [e,List.flatten_cons];exact wH k1 j2
  ·rw [List.flatten_cons,pJ,List.map_cons,M.cons];exact Nat.add_le_add k3 j3
  ·rw [e] at hu
   rcases D5.1 hu with hu|hu
   ·exact k4 u hu
   ·exact j4 u hu
theorem pG (M:KS m ma){n fuel:Nat}(ih:∀ t cs d ps,DataW.trod enc P W base sp held fuel t cs=some (d,ps)→Z5 P n t=true→Leaves P W n t cs (m d)){cs:List Value}{e:TypeId}(he:Z5 P n e=true) :
  ∀ (k s:Nat) (ys:List (DataW H×List MemPlace)),cs.length=(s+k)*P.cellsOf e→
   ((List.range' s k).mapM fun i=>DataW.trod enc P W base sp held fuel e ((cs.drop (i*P.cellsOf e)).take (P.cellsOf e)))=some ys→
   ∃ parts:List (List D),parts.length=k∧(∀ p∈parts,wC P n e p)∧jV (snap W) parts.flatten (cs.drop (s*P.cellsOf e))∧U0 parts.flatten≤ma (ys.map (·.1))∧∀ u∈cs.drop (s*P.cellsOf e),u.oneCell'=true
 |0,s,ys,hl,h=>by
  have e:cs.drop (s*P.cellsOf e)=[]:=D6 (by rw [hl];simp)
  cases h
  rw [e]
  refine⟨[],rfl,fun p hp=>(by cases hp),rfl,by simp [U0],fun u hu=>(by cases hu)⟩
 |k+1,s,ys,hl,h=>by
  rw [List.range'_succ] at h
  obtain⟨y,ys',h1,h2,rfl⟩:=bF h
  obtain⟨d,ps⟩:=y
  obtain⟨xs,k1,k2,k3,k4⟩:=ih _ _ _ _ h1 he
  obtain⟨parts,j1,j2,j3,j4,j5⟩:=pG M ih he k (s+1) ys' (by rw [hl];congr 1;omega) h2
  have e:cs.drop (s*P.cellsOf e)=(cs.drop (s*P.cellsOf e)).take (P.cellsOf e)++cs.drop ((s+1)*P.cellsOf e):=by
   rw [Nat.succ_mul,← List.drop_drop,List.take_append_drop]
  refine⟨xs::parts,by simp [j1],fun p hp=>?_,?_,?_,fun u hu=>?_⟩
  ·rcases B7.1 hp with rfl|hp
   ·exact k2
   ·exact j2 p hp
  ·rw [e,List.flatten_cons];exact wH k1 j3
  ·rw [List.flatten_cons,pJ,List.map_cons,M.cons];exact Nat.add_le_add k3 j4
  ·rw [e] at hu
   rcases D5.1 hu with hu|hu
   ·exact k4 u hu
   ·exact j5 u hu
theorem JA {α β:Type}{f:α→Option β}:∀ {l:List α} {r:List β},l.mapM f=some r→∀ (j:Nat) (y:β),r[j]? = some y→∃ x,l[j]? = some x∧f x=some y
 |[],r,h,j,y,hj=>by cases h;simp at hj
 |x::l,r,h,j,y,hj=>by
  obtain⟨y0,ys,h1,h2,rfl⟩:=bF h
  cases j with
  |zero=>simp at hj;subst hj;exact⟨x,rfl,h1⟩
  |succ j=>simpa using JA h2 j y (by simpa using hj)
theorem CT {n:Nat}{t:TypeId}{cs:List Value}{b:Nat}(h:Leaves P W n t cs b):∃ (x:D) (v:Value),VD (snap W) x v∧KL P n t x∧pH x≤b∧v.cells.toList=cs:=by
 obtain⟨xs,h1,h2,h3,h4⟩:=h
 unfold KL
 cases n with
 |zero=>exact h2.elim
 |succ n=>
  cases hg:J5 P t with
  |true=>
   refine⟨.agg xs,.agg cs.toArray,⟨cs.toArray,rfl,by simpa using h1⟩,by rw [if_pos rfl];exact⟨xs,rfl,h2⟩,by simpa [pH] using h3,by simp [Value.cells]⟩
  |false=>
   have one:∀ x,xs=[x]→∃ (x:D) (v:Value),VD (snap W) x v∧(if false=true then ∃ cs,x = .agg cs∧wC P (n+1) t cs else wC P (n+1) t [x])∧pH x≤b∧v.cells.toList=cs:=by
    intro x hx
    subst hx
    obtain⟨u,r,rfl,k1,k2⟩:=h1
    have k2:r=[]:=k2
    subst k2
    refine⟨x,u,k1,by rw [if_neg (by simp)];exact h2,?_,?_⟩
    ·simpa [U0] using h3
    ·rw [aK (h4 u (by simp))]
   have h2':=h2
   simp only [wC] at h2'
   split at h2'
   ·obtain⟨b,rfl⟩:=h2';exact one _ rfl
   ·obtain⟨b,rfl,_⟩:=h2';exact one _ rfl
   ·obtain⟨b,rfl⟩:=h2';exact one _ rfl
   ·obtain⟨b,rfl,_⟩:=h2';exact one _ rfl
   ·rename_i e;simp [J5,e,O5] at hg
   ·rename_i e;simp [J5,e,O5] at hg
   ·exact h2'.elim
theorem rF (M:KS m ma){n fuel:Nat}(ih:∀ t cs d ps,DataW.trod enc P W base sp held fuel t cs=some (d,ps)→Z5 P n t=true→Leaves P W n t cs (m d)){a:Addr}{e:TypeId}(he:Z5 P n e=true) :
  ∀ (k s:Nat) (ys:List (DataW H×List MemPlace)),
   ((List.range' s k).mapM fun i=>(W.cells? base (a.add (i*P.cellsOf e)) (P.cellsOf e)).bind (DataW.trod enc P W base sp held fuel e))=some ys→
   ∃ xs:List D,xs.length=k∧HG (snap W) (P.cellsOf e) xs (a.add (s*P.cellsOf e))∧(∀ x∈xs,KL P n e x)∧U0 xs≤ma (ys.map (·.1))
 |0,s,ys,h=>by cases h;exact⟨[],rfl,trivial,fun x hx=>(by cases hx),by simp [U0]⟩
 |k+1,s,ys,h=>by
  rw [List.range'_succ] at h
  obtain⟨y,ys',h1,h2,rfl⟩:=bF h
  obtain⟨d,ps⟩:=y
  obtain⟨xs,j1,j2,j3,j4⟩:=rF M ih he k (s+1) ys' h2
  cases hc:W.cells? base (a.add (s*P.cellsOf e)) (P.cellsOf e) with
  |none=>rw [hc] at h1;cases h1
  |some cs=>
   rw [hc] at h1
   have hL:=ih _ _ _ _ h1 he
   have h4:∀ u∈cs,u.oneCell'=true:=hL.choose_spec.2.2.2
   obtain⟨x,v,k1,k2,k3,k4⟩:=CT hL
   unfold World.cells? at hc
   split at hc
   ·have hlen:cs.length=P.cellsOf e:=by
     have:=Go.mapM_some_length hc
     simpa using this
    refine⟨x::xs,by simp [j1],⟨⟨v,?_,fun j u hj=>?_,?_,k1⟩,?_⟩,fun y hy=>?_,?_⟩
    ·rw [← E4,k4,hlen]
    ·rw [← D0,k4] at hj
     obtain⟨i,hi,hcell⟩:=JA hc j u hj
     have:i=j:=by
      have hlt:j<P.cellsOf e:=by
       rcases Nat.lt_or_ge j (P.cellsOf e) with h|h
       ·exact h
       ·rw [List.getElem?_eq_none (by simpa using h)] at hi;cases hi
      rw [List.getElem?_range hlt] at hi
      cases hi;rfl
     subst this
     exact hcell
    ·rw [k4];exact h4
    ·rw [O3]
     rw [show (s+1)*P.cellsOf e=s*P.cellsOf e+P.cellsOf e from Nat.succ_mul _ _] at j2
     exact j2
    ·rcases B7.1 hy with rfl|hy
     ·exact k2
     ·exact j3 y hy
    ·simp only [U0,List.map_cons,M.cons];exact Nat.add_le_add k3 j4
   ·cases hc
theorem uU (M:KS m ma):∀ (fuel n:Nat) (t:TypeId) (cs:List Value) (d:DataW H) (ps:List MemPlace),DataW.trod enc P W base sp held fuel t cs=some (d,ps)→Z5 P n t=true→Leaves P W n t cs (m d)
 |0,n,t,cs,d,ps,h,hp=>by simp [DataW.trod] at h
 |fuel+1,0,t,cs,d,ps,h,hp=>by simp [Z5] at hp
 |fuel+1,n+1,t,cs,d,ps,h,hp=>by
  have ih:=fun t cs d ps=>uU M fuel n t cs d ps
  unfold Leaves
  simp only [Z5] at hp
  split at hp
  ·rename_i hu
   obtain⟨b,rfl,hz⟩:=DataW.trod_bool hu h
   refine⟨[.bool b],⟨_,_,rfl,rfl,rfl⟩,by simp only [wC,hu];exact⟨b,rfl⟩,by simpa [U0,pH] using M.one d,fun u hu=>by simp at hu;subst hu;rfl⟩
  ·rename_i k hu
   obtain⟨i,rfl,hz,hw⟩:=DataW.trod_int hu h
   exact⟨[.int _ _],⟨_,_,rfl,rfl,rfl⟩,by simp only [wC,hu];exact⟨_,rfl,hw⟩,by simpa [U0,pH] using M.one d,fun u hu=>by simp at hu;subst hu;rfl⟩
  ·rename_i hu
   obtain⟨s,rfl,hz,hw⟩:=DataW.trod_string hu h
   cases hz
   exact⟨[.str _],⟨_,_,rfl,⟨_,rfl,rfl⟩,rfl⟩,by simp only [wC,hu];exact⟨_,rfl⟩,by simp only [U0,pH];exact M.str _,fun u hu=>by simp at hu;subst hu;rfl⟩
  ·rename_i e hu
   simp only [A9] at hp
   rcases DataW.trod_slice hu h with ⟨rfl,hz⟩|⟨a,len,cap,elems,rest,n',hf,rfl,hz,hb,hl,hc,hel,hget,_,_⟩
   ·cases hz
    refine⟨[.Z (K2 P e) []],⟨_,_,rfl,⟨none,0,rfl,B9 _,by unfold maxLen;omega,.inl rfl⟩,rfl⟩,by simp only [wC,hu];exact⟨[],rfl,fun y hy=>(by cases hy)⟩,by simpa [U0,pH] using M.one _,fun u hu=>by simp at hu;subst hu;rfl⟩
   ·cases hz
    cases hf
    have hm:(List.range len).mapM (fun i=>(W.cells? base (a.add (i*P.cellsOf e)) (P.cellsOf e)).bind (DataW.trod enc P W base sp held fuel e))=some elems:=
     mapM_some_of_get _ _ (by simp [hel]) fun i x hi=>by
      obtain⟨hlt,hx⟩:=List.getElem?_eq_some_iff.1 hi
      simp at hlt hx
      subst hx
      exact hget i hlt
    rw [List.range_eq_range'] at hm
    obtain⟨xs,k1,k2,k3,k4⟩:=rF M ih hp.1 len 0 elems hm
    rw [Nat.zero_mul] at k2
    have ha0:a.add 0=a:=by simp [Addr.add]
    rw [ha0] at k2
    refine⟨[.Z (K2 P e) xs],⟨_,_,rfl,⟨some a,cap,by rw [k1],by omega,hc,.inr ⟨a,rfl,by rw [KD];exact k2⟩⟩,rfl⟩,?_,?_,fun u hu=>by simp at hu;subst hu;rfl⟩
    ·simp only [wC,hu];exact⟨xs,rfl,k3⟩
    ·have:=M.slice (elems.map (·.1)) (rest.map (·.1))
     simp only [U0,pH]
     omega
  ·rename_i fs hu
   simp only [A9] at hp
   obtain⟨ys,n',hf,hz,hlen,hsz,hget⟩:=DataW.trod_struct hu h
   cases hf
   cases hz
   have hm:(fs.toList.mapM fun f=>DataW.trod enc P W base sp held fuel f.type ((cs.drop f.offset).take (P.cellsOf f.type)))=some ys:=
    mapM_some_of_get _ _ (by simp [hsz]) fun i x hi=>hget i x (by simpa using hi)
   obtain⟨parts,j1,j2,j3,j4⟩:=mR M ih hlen fs.toList 0 ys hp.1 hp.2 hm
   rw [List.drop_zero] at j2 j4
   exact⟨parts.flatten,j2,by simp only [wC,hu];exact⟨parts,rfl,j1⟩,Nat.le_trans j3 (M.agg _),j4⟩
  ·rename_i k e hu
   simp only [A9] at hp
   obtain⟨ys,n',hf,hz,hlen,hsz,hget⟩:=DataW.trod_array hu h
   cases hf
   cases hz
   have hm:((List.range k).mapM fun i=>DataW.trod enc P W base sp held fuel e ((cs.drop (i*P.cellsOf e)).take (P.cellsOf e)))=some ys:=
    mapM_some_of_get _ _ (by simp [hsz]) fun i x hi=>by
     obtain⟨hlt,hx⟩:=List.getElem?_eq_some_iff.1 hi
     simp at hlt hx
     subst hx
     exact hget i hlt
   rw [List.range_eq_range'] at hm
   have hsz:P.cellsOf t=k*P.cellsOf e:=beq_iff.1 hp.1
   obtain⟨parts,j1,j2,j3,j4,j5⟩:=pG M ih hp.2 k 0 ys (by rw [hlen,hsz];simp) hm
   rw [Nat.zero_mul,List.drop_zero] at j3 j5
   exact⟨parts.flatten,j3,by simp only [wC,hu];exact⟨parts,rfl,j1,j2⟩,Nat.le_trans j4 (M.agg _),j5⟩
  ·cases hp
end
end Go.AE
namespace Go.AE
open Go.ChangeShapes Go.WideShapes Go.ChangeAt Go.RowKit Go.WideElems
def fF (P:Program):Nat→List TypeId→List (Nat×SV)
 |_,[]=>[]
 |i,t::ts=>(i,.d (kA P t))::fF P (i+1) ts
def uG (P:Program)(ts:List TypeId):Sk:=⟨fF P 0 ts,[]⟩
def yP (P:Program)(t:TypeId):Bool:=Z5 P 8 t&&P.readableRec t&&decide (t<P.types.size)
section
variable {H:Type} {enc:TypeId×Value→H} {P:Program} {W W':World} {base:Nat} {m:DataW H→Nat} {ma:List (DataW H)→Nat}
theorem LF {r:Reach}{t:TypeId}{v:Value}(hg:J5 P t=false)(hp:Z5 P 8 t=true)(hv:Value.okWide P W r base t v):v.cells=#[v]:=by
 unfold Value.okWide at hv
 unfold J5 at hg
 simp only [Z5] at hp
 cases v with
 |agg cs=>
  split at hp<;>rename_i hu<;>first|(rw [hu] at hg;simp [O5] at hg;done)|(simp [hu,Cell.okWide,Cell.ok] at hv;done)|(cases hp;done)
 |_=>rfl
theorem FL {h:Nat→Option Obj}{n:Nat}{t:TypeId}{x:D}{v:Value}(hg:J5 P t=false)(j2:KL P n t x)(j1:VD h x v)(cs:Array Value):v≠ .agg cs:=by
 rintro rfl
 unfold KL at j2
 rw [hg,if_neg (by simp)] at j2
 cases n with
 |zero=>exact j2
 |succ n=>
  simp only [wC] at j2
  split at j2
  ·obtain⟨b,e⟩:=j2;cases e;cases j1
  ·obtain⟨b,e,_⟩:=j2;cases e;cases j1
  ·obtain⟨b,e⟩:=j2;cases e;obtain⟨_,e,_⟩:=j1;cases e
  ·obtain⟨b,e,_⟩:=j2;cases e;obtain⟨_,_,e,_⟩:=j1;cases e
  ·rename_i e;simp [J5,e,O5] at hg
  ·rename_i e;simp [J5,e,O5] at hg
  ·exact j2
theorem tR (M:KS m ma){r:Reach}{sp:Nat→Bool}{held:Bool}:∀ {ts:List TypeId} {vs:List Value} {ds:List (DataW H)} {ps:List MemPlace},DataW.TrodAll enc P W base sp held ts vs ds ps→(ts.all (yP P))=true→
  (∀ (j:Nat) (t:TypeId) (v:Value),ts[j]? = some t→vs[j]? = some v→∃ r b,Value.okWide P W r b t v)→∃ xs,F2 (VD (snap W)) xs vs∧F2 (KL P 8) ts xs∧U0 xs≤ma ds
 |[],[],[],_,_,_,_=>⟨[],.nil,.nil,by simp [U0]⟩
 |t::ts,v::vs,d::ds,ps,⟨p,q,h1,h2,_⟩,hp,hv=>by
  simp only [List.all_cons,A9] at hp
  obtain⟨xs,k1,k2,k3⟩:=tR M (r:=r) h2 hp.2 fun j t v ht hv'=>hv (j+1) t v (by simpa using ht) (by simpa using hv')
  obtain⟨fuel,h1⟩:=h1
  have hpl:Z5 P 8 t=true:=by
   have:=hp.1
   simp only [yP,A9] at this
   exact this.1.1
  have hL:=uU M _ 8 _ _ _ _ h1 hpl
  obtain⟨x,v',j1,j2,j3,j4⟩:=CT hL
  obtain⟨r',b',hok⟩:=hv 0 t v rfl rfl
  have hvv:v'=v:=by
   cases hg:J5 P t with
   |true=>
    have:∃ cs,v = .agg cs:=by
     unfold Value.okWide at hok
     unfold J5 at hg
     split at hg
     ·rename_i d hu
      rw [hu] at hok
      cases d<;>simp [O5] at hg<;>(obtain⟨cs,h,_⟩:=hok;exact⟨cs,h⟩)
     ·cases hg
    obtain⟨cs,rfl⟩:=this
    unfold KL at j2
    rw [hg,if_pos rfl] at j2
    obtain⟨ys,rfl,_⟩:=j2
    obtain⟨us,rfl,_⟩:=j1
    congr 1
    apply Array.ext'
    exact j4
   |false=>
    have h5:=LF hg hpl hok
    rw [h5] at j4
    have h6:∀ u∈v.cells.toList,u.oneCell'=true:=hL.choose_spec.2.2.2
    have h7:v.oneCell'=true:=h6 v (by rw [h5];simp)
    cases v' with
    |agg cs=>
     exact absurd rfl (FL hg j2 j1 cs)
    |_=>exact (List.cons.inj j4).1
  subst hvv
  refine⟨x::xs,.cons j1 k1,.cons j2 k2,?_⟩
  simp only [U0]
  rw [M.cons]
  exact Nat.add_le_add j3 k3
 |[],_::_,_,_,h,_,_=>h.elim
 |[],[],_::_,_,h,_,_=>h.elim
 |_::_,[],_,_,h,_,_=>h.elim
 |_::_,_::_,[],_,h,_,_=>h.elim
theorem nC (hl:laidOutB P=true){sp:Nat→Bool}:∀ {ts:List TypeId} {vs:List Value} {ds:List (DataW H)} {ps:List MemPlace},DataW.TrodAll enc P W 0 (fun _=>true) true ts vs ds ps→(ts.all (yP P))=true→
  (∀ p∈ps,W.sameAt W' p)→(∀ p∈ps,sp p.block=true)→DataW.TrodAll enc P W' 0 sp true ts vs ds ps
 |[],[],[],_,h,_,_,_=>h
 |t::ts,v::vs,d::ds,ps,⟨p,q,h1,h2,e⟩,hp,hs,hsp=>by
  simp only [List.all_cons,A9] at hp
  have h0:=hp.1
  simp only [yP,A9,decide_eq_true_eq] at h0
  refine⟨p,q,Trod_stays hl h0.1.2 h0.2 h1 (fun x hx=>hs x (by rw [e];simp [hx])) (fun x hx=>hsp x (by rw [e];simp [hx])),nC hl h2 hp.2 (fun x hx=>hs x (by rw [e];simp [hx])) (fun x hx=>hsp x (by rw [e];simp [hx])),e⟩
 |[],_::_,_,_,h,_,_,_=>h.elim
 |[],[],_::_,_,h,_,_,_=>h.elim
 |_::_,[],_,_,h,_,_,_=>h.elim
 |_::_,_::_,[],_,h,_,_,_=>h.elim
theorem NA {f:Func}{s:ChangeSpec}{apart fresh handsOn again:Bool}{args:Array Value}{v:Value}{ds gs:List (DataW H)}{before pa pv:List MemPlace}
  (hW:DataW.Whole enc P f.params.toList s.vars apart W args.toList ds gs before)
  (hres:∀ (b:Nat) (sp:Nat→Bool) (hd:Bool),DataW.TrodAll enc P W' b sp hd f.resultTypes.toList (v.resultList f.resultTypes.size) (s.fn H (ds++gs)).results [])
  (hargs:∀ sp:Nat→Bool,(∀ p∈before,sp p.block=true)→DataW.TrodAll enc P W' 0 sp true f.params.toList args.toList (s.fn H (ds++gs)).args pa)
  (hvars:∀ sp:Nat→Bool,(∀ p∈before,sp p.block=true)→DataW.TrodVars enc P W' sp s.vars (s.fn H (ds++gs)).vars pv)
  (hps:before=pa++pv) (hb:Below W.heap.size W W')
  (hok:∀ (j:Nat) (t:TypeId) (r:Value),f.resultTypes[j]? = some t→(v.resultList f.resultTypes.size)[j]? = some r→Value.okWide P W' .any 0 t r) :
  s.post enc P f apart fresh handsOn again W args v W':=by
 have hlt:∀ p∈before,p.block<W.heap.size:=fun p hp=>hW.lt p hp
 have hold:∀ p∈before,(fun b=>decide (b<W.heap.size)) p.block=true:=fun p hp=>by simpa using hlt p hp
 refine⟨ds,gs,before,[],pa,pv,hW,hres _ _ _,hargs _ hold,hvars _ hold,World.keptBut_mono (fun p hp=>⟨hp,?_⟩) (hb.frame (·∈before)),fun _=>?_⟩
 ·rw [hps,D5] at hp
  exact Or.inr hp
 ·obtain⟨_,_,_,_,_,hz,hn⟩:=hW
  refine⟨hok,_,_,([]++pa)++pv,⟨[]++pa,pv,trodAll_append (hargs _ (fun _ _=>rfl)) (hres _ _ _),hvars _ (fun _ _=>rfl),rfl,?_,?_⟩,?_⟩
  ·intro b off hp
   have hin:MemPlace.cell b off∈before:=by rw [hps];simpa using hp
   rw [hb.frozen (hlt _ hin)]
   exact hz b off hin
  ·intro ha
   have:=hn ha
   rw [hps] at this
   simpa using this
  ·intro p hp _
   rw [hps]
   simpa using hp
theorem qP:∀ (ts:List TypeId) (i:Nat),(fF P i ts).length=ts.length
 |[],_=>rfl
 |t::ts,i=>by simp [fF,qP ts (i+1)]
theorem qO {g:G}{q:Nat→Prop}:∀ {ts:List TypeId} {i j:Nat} {xs pre:List D} {vs prev:List Value},F2 (VD g.h) xs vs→ts.length=xs.length→pre.length=j→prev.length=i→
  ∀ t,VV g ((L1 E0 (pre++xs) (fF P i ts) j).1 t) ((prev++vs).getD t undef)∧((L1 E0 (pre++xs) (fF P i ts) j).1 t).K5 q
 |[],i,j,xs,pre,vs,prev,_,_,_,_,t=>⟨trivial,trivial⟩
 |ty::ts,i,j,[],pre,vs,prev,_,hl,_,_,t=>by simp at hl
 |ty::ts,i,j,x::xs,pre,_,prev,.cons (b:=v) (bs:=vs) h1 h2,hl,hp,hq,t=>by
  have ih:=qO (q:=q) (ts:=ts) (i:=i+1) (j:=j+1) (pre:=pre++[x]) (prev:=prev++[v]) h2 (by simpa using hl) (by simp [hp]) (by simp [hq]) t
  simp only [C1,List.singleton_append] at ih
  simp only [fF,L1,S7,M3]
  have hn:Y (pre++x::xs) j=x:=by rw [← hp];exact yX pre x xs
  by_cases e:t=i
  ·subst e
   rw [beq_iff.2 rfl,cond_true,hn]
   refine⟨?_,trivial⟩
   have:(prev++v::vs).getD t undef=v:=by
    rw [← hq];simp
   rw [this]
   exact h1
  ·rw [beq_false e,cond_false]
   exact ih
theorem RP {c:Z6}(hn:S8 c)(horc:∀ f sk ds r,c.orc f sk ds=some r→cU c f sk ds r){f:Nat}{fn:Func}(hf:c.P.funcs[f]? = some fn){tb:TypeId}(hres:fn.resultTypes=#[tb])(hb:c.P.underlying tb=some .bool)
  (hd:(c.dres f).o 0=none∧(c.dres f).m 0=0) (hgok:c.qH (snap W)) (hl:laidOutB c.P=true) (hpl:fn.params.toList.all (yP c.P)=true) {B:Nat}
  (hrun:∀ xs,F2 (KL c.P 8) fn.params.toList xs→U0 xs≤B→∃ n,run c n (.call f (uG c.P fn.params.toList) xs)=some (true,[.bool true]))
  (M:KS m ma) {args:Array Value} {ds gs:List (DataW H)} {before:List MemPlace} {s:ChangeSpec} {apart fresh handsOn again:Bool}
  (hval:∀ (j:Nat) t v,fn.params[j]? = some t→args[j]? = some v→Value.okWide c.P W .any base t v) (hvars:s.vars=[]) (hW:DataW.Whole enc c.P fn.params.toList s.vars apart W args.toList ds gs before) (hB:ma (ds++gs)≤B)
  (hs:gs=[]→s.fn H (ds++gs)={ results:=[.lit (.bool true)],args:=ds }) :
  Calls c.P f args W fun e W'=>∃ v,e = .returned v∧s.post enc c.P fn apart fresh handsOn again W args v W':=by
 have hW0:=hW
 obtain⟨p,q,hA,hV,hpq,hz,hnd⟩:=hW
 rw [hvars] at hV
 obtain⟨rfl,rfl⟩:=trodVars_none hV
 have hs:=hs rfl
 simp only [D7] at hs hB hpq
 subst hpq
 obtain⟨xs,k1,k2,k3⟩:=tR M (r:= .any) hA hpl fun j t v ht hv=>⟨.any,base,hval j t v (by simpa using ht) (by simpa using hv)⟩
 obtain⟨n,hrun⟩:=hrun xs k2 (Nat.le_trans k3 hB)
 have hspec:=((DC hn horc n).1 f _ _ _ hrun).1 fn hf (fun _=>none) ⟨snap W,fun _=>0,fun _=>undef,fun _ _=>none⟩ hgok args W
 have hlen:fn.params.toList.length=xs.length:=k2.length
 have hlen2:xs.length=args.toList.length:=k1.length
 have hinj:(J6 E0 (uG c.P fn.params.toList) xs).h=fun _=>none:=rfl
 refine (hspec ?_ ?_ ?_).mono ?_
 ·simp only [uG,qP]
  rw [hlen,hlen2];simp
 ·refine⟨fun b x h=>h,fun b x h=>(by cases h),fun o x h=>?_,fun o x b h=>?_,fun o o' x x' b h=>?_,fun o x h=>?_,fun b=> .inr rfl⟩
  all_goals (rw [hinj] at h;cases h)
 ·intro t
  have:=qO (P:=c.P) (g:=⟨snap W,fun _=>0,fun _=>undef,fun _ _=>none⟩) (q:=(·<(uG c.P fn.params.toList).objs.length)) (ts:=fn.params.toList) (i:=0) (j:=0) (pre:=[]) (prev:=[]) k1 hlen rfl rfl t
  simp only [List.nil_append] at this
  have e:args.getD t undef=args.toList.getD t undef:=by simp [D4,List.getD_eq_getElem?_getD]
  rw [e]
  exact this
 ·rintro e W' ⟨v,he,g',tm',h1,h2,h3,h4,h5⟩
  refine⟨v,he,?_⟩
  have hbel:Below W.heap.size W W':=by
   refine⟨h3.os,h3.tape,h3.output,h3.size,fun k hk=>?_⟩
   have hk':W.heap[k]? = some W.heap[k]:=C8 hk
   rw [h1.frz k _ (h3.h k _ hk'),hk']
  have hel:O6 c.P tb=none:=by simp [O6,hb]
  have hosk:(V5 c.P (c.dres f) fn.resultTypes.toList (uG c.P fn.params.toList))=⟨[(0,.d (.leaf .bool))],[]⟩:=by
   have:kA c.P tb = .leaf .bool:=by simp [kA,J5,hb,O5,Q0]
   simp only [hres,V5,uG,A8,hd.1,oG,hd.2,hel,fN,this]
   rfl
  rw [hosk] at h5 h2
  have hv:v = .bool true:=by
   rw [h5]
   have:=(h2 0).1
   exact this
  subst hv
  have htrod:∀ sp:Nat→Bool,(∀ x∈before,sp x.block=true)→DataW.TrodAll enc c.P W' 0 sp true fn.params.toList args.toList ds before:=fun sp hsp=>
   nC hl hA hpl (fun x hx=>?_) hsp
  ·refine NA (pa:=before) (pv:=[]) hW0 (fun b sp hd=>?_) (fun sp hsp=>?_) (fun sp hsp=>?_) (by simp) hbel ?_
   ·rw [hres]
    simp only [D7]
    rw [hs]
    exact trodAll_mk1 (shut_bool hb _)
   ·simp only [D7]
    rw [hs]
    exact htrod sp hsp
   ·simp only [D7]
    rw [hs,hvars]
    exact rfl
   ·exact ok_one hres rfl (okWide_bool_mk hb _)
  ·have hlt:=hW0.lt x hx
   cases x with
   |cell b off=>
    have:=hbel.block b hlt
    simp only [World.sameAt,World.cell?,this]
   |map b=>exact hbel.block b hlt
end
section
variable {P:Program} {n:Nat} {t e:TypeId} {x:D} {xs:List D}
theorem kV (h:P.underlying t=some .bool∨(∃ k,P.underlying t=some (.int k))∨P.underlying t=some .string∨∃ e,P.underlying t=some (.slice e)):J5 P t=false:=by
 rcases h with h|⟨k,h⟩|h|⟨e,h⟩<;>simp [J5,h,O5]
theorem AG (hg:J5 P t=false)(h:KL P n t x):wC P n t [x]:=by
 unfold KL at h
 rwa [hg,if_neg (by simp)] at h
theorem Eg {k:IntKind}(ht:P.underlying t=some (.int k))(h:KL P (n+1) t x):∃ i,x = .int k i∧(Lit.int k i).wf=true:=by
 have:=AG (kV (.inr (.inl ⟨k,ht⟩))) h
 simp only [wC,ht] at this
 obtain⟨b,e,hw⟩:=this
 cases e;exact⟨b,rfl,hw⟩
theorem Eh (ht:P.underlying t=some .string)(h:KL P (n+1) t x):∃ s,x = .str s:=by
 have:=AG (kV (.inr (.inr (.inl ht)))) h
 simp only [wC,ht] at this
 obtain⟨b,e⟩:=this
 cases e;exact⟨b,rfl⟩
theorem SS (ht:P.underlying t=some (.slice e))(h:KL P (n+1) t x):∃ ys,x = .Z (K2 P e) ys∧∀ y∈ys,KL P n e y:=by
 have:=AG (kV (.inr (.inr (.inr ⟨e,ht⟩)))) h
 simp only [wC,ht] at this
 obtain⟨ys,e,hw⟩:=this
 cases e;exact⟨ys,rfl,hw⟩
theorem wf_u8 {i:Int}(h:(Lit.int .u8 i).wf=true):0≤i∧i≤255:=by
 simpa [Lit.wf,IntKind.min,IntKind.max,IntKind.signed,IntKind.bits] using h
end
end Go.AE
