import Derived.Test.YtpmjplpnpnmlcaaGreatDoorEng1
import Derived.Laws.MakeOwn
import Derived.Laws.AppendOwnNone
import Derived.Laws.IdiomCopy
import Derived.Lib.AppendStr
import Derived.MapKept
import Derived.Laws.IdiomRangeMap
set_option linter.all false
namespace Go.AE
open Go.RowKit
section
variable {u:Nat→Option Obj} {p q:Nat→Prop} {g:G} {st:St} {h h':Nat→Option Ob} {a:Act} {w w':World} {P:Program} {o:Oper} {R:Type} {K:V→St→Option R} {r:R}
theorem beq_iff {x y:Nat}:Nat.beq x y=true↔x=y:=⟨B0,fun e=>by subst e;exact Nat.beq_refl x⟩
theorem J7 (st:St)(o:Nat)(ob:Option Ob)(x:Nat):(st.M7 o ob).h x=if x=o then ob else st.h x:=by
 simp only [St.M7]
 by_cases e:x=o
 ·rw [if_pos e,beq_iff.2 e];rfl
 ·rw [if_neg e]
  cases k:Nat.beq x o with
  |true=>exact absurd (beq_iff.1 k) e
  |false=>rfl
theorem rR {x:V}{v:Value}(hc:W8 x=true)(hv:VV g x v):v.oneCell'=true:=by
 match x,hc,hv with
 | .d (.bool _),_,hv=>have hv:v=_:=hv;subst hv;rfl
 | .d (.int _ _),_,hv=>have hv:v=_:=hv;subst hv;rfl
 | .d (.str _),_,hv=>obtain⟨b,rfl,_⟩:=hv;rfl
 | .d (.Z _ _),_,hv=>obtain⟨A,cap,rfl,_⟩:=hv;rfl
 | .d (.nils _ _),_,hv=>have hv:v=_:=hv;subst hv;rfl
 | .d (.fn _),_,hv=>have hv:v=_:=hv;subst hv;rfl
 | .d .nilp,_,hv=>have hv:v=_:=hv;subst hv;rfl
 | .d .nilf,_,hv=>have hv:v=_:=hv;subst hv;rfl
 | .d .nilm,_,hv=>have hv:v=_:=hv;subst hv;rfl
 | .d .nili,_,hv=>have hv:v=_:=hv;subst hv;rfl
 | .d .ub,_,hv=>obtain⟨_,rfl⟩:=hv;rfl
 | .d (.iface _ _),_,hv=>obtain⟨_,rfl,_⟩:=hv;rfl
 | .d (.meth ..),_,hv=>obtain⟨_,rfl,_⟩:=hv;rfl
 | .ptr _ _,_,hv=>have hv:v=_:=hv;subst hv;rfl
 | .el ..,_,hv=>obtain⟨_,_,_,rfl⟩:=hv;rfl
 | .rp ..,_,hv=>obtain⟨_,_,_,rfl⟩:=hv;rfl
 | .sub ..,_,hv=>obtain⟨_,_,_,rfl,_⟩:=hv;rfl
 | .fn _ [],_,hv=>have hv:v=_:=hv;subst hv;rfl
 | .fn _ (_::_),_,hv=>obtain⟨_,rfl,_⟩:=hv;rfl
 | .row ro,_,hv=>exact hv.2
 | .mp _,_,hv=>have hv:v=_:=hv;subst hv;rfl
 | .ir ..,_,hv=>exact hv.2.1
 | .irp ..,_,hv=>obtain⟨_,_,_,_,_,_,rfl⟩:=hv;rfl
 | .bp ..,_,hv=>rcases (hv:v=_∨v=_) with rfl|rfl<;>rfl
theorem aW {x:V}{v:Value}(hc:O7 x=true)(hv:VV g x v)(hx:x.K5 p) :
  F2 (VA g) x.cells v.cells.toList∧(∀ y∈v.cells.toList,y.oneCell'=true)∧(∀ c∈x.cells,c.K7 p):=by
 have one:∀ (cs:List V) (us:List Value),F2 (VA g) cs us→cs.all W8=true→∀ y∈us,y.oneCell'=true:=by
  intro cs us hF
  induction hF with
  |nil=>intro _ y hy;cases hy
  |cons h1 _ ih=>
   intro hall y hy
   simp only [List.all_cons,A9] at hall
   rcases B7.1 hy with rfl|hy
   ·exact rR hall.1 (P1 h1)
   ·exact ih hall.2 y hy
 have single:x.cells=[x]→W8 x=true→VA g x v→x.K7 p→F2 (VA g) x.cells v.cells.toList∧(∀ y∈v.cells.toList,y.oneCell'=true)∧(∀ c∈x.cells,c.K7 p):=by
  intro e h1 h2 h3
  have h4:=rR h1 hv
  rw [e,aK h4]
  refine⟨.cons h2 .nil,?_,?_⟩
  ·intro y hy;simp at hy;subst hy;exact h4
  ·intro c hc;simp at hc;subst hc;exact h3
 have all1:x.cells=[x]→W8 x=true:=by intro e;unfold O7 at hc;rw [e] at hc;simpa using hc
 match x,hc,hv,hx,one,single,all1 with
 | .d (.agg cs),hc,hv,_,one,_,_=>
  obtain⟨us,rfl,h1⟩:=hv
  have hF:F2 (VA g) (cs.map V.d) us.toList:=F2.qT (((W7 _ _ _).1 h1).mono fun c _ b hb=>hb)
  exact⟨hF,one _ _ hF hc,fun c hc=>by obtain⟨d,_,rfl⟩:=List.mem_map.1 hc;trivial⟩
 | .agg cs,hc,hv,hx,one,_,_=>
  obtain⟨us,rfl,h1⟩:=KW hv
  have hF:F2 (VA g) cs us.toList:=h1.mono fun c _ b hb=>W6 hb
  exact⟨hF,one _ _ hF hc,fun c hcm=>by obtain⟨b,_,hb⟩:=h1.mem c hcm;exact aV hb (hx c hcm)⟩
 | .tup vs,_,hv,_,_,_,all1=>have:=all1 rfl;simp [W8] at this
 | .d .top,_,hv,_,_,single,all1=>exact single rfl (all1 rfl) hv trivial
 | .d .und,_,hv,_,_,single,all1=>exact single rfl (all1 rfl) hv trivial
 | .d (.bool _),_,hv,_,_,single,all1=>exact single rfl (all1 rfl) hv trivial
 | .d (.int _ _),_,hv,_,_,single,all1=>exact single rfl (all1 rfl) hv trivial
 | .d (.str _),_,hv,_,_,single,all1=>exact single rfl (all1 rfl) hv trivial
 | .d (.Z _ _),_,hv,_,_,single,all1=>exact single rfl (all1 rfl) hv trivial
 | .d (.nils _ _),_,hv,_,_,single,all1=>exact single rfl (all1 rfl) hv trivial
 | .d (.fn _),_,hv,_,_,single,all1=>exact single rfl (all1 rfl) hv trivial
 | .d .nilp,_,hv,_,_,single,all1=>exact single rfl (all1 rfl) hv trivial
 | .d .nilf,_,hv,_,_,single,all1=>exact single rfl (all1 rfl) hv trivial
 | .d .nilm,_,hv,_,_,single,all1=>exact single rfl (all1 rfl) hv trivial
 | .d .nili,_,hv,_,_,single,all1=>exact single rfl (all1 rfl) hv trivial
 | .d .ub,_,hv,_,_,single,all1=>exact single rfl (all1 rfl) hv trivial
 | .d (.iface _ _),_,hv,_,_,single,all1=>exact single rfl (all1 rfl) hv trivial
 | .d (.meth ..),_,hv,_,_,single,all1=>exact single rfl (all1 rfl) hv trivial
 | .ptr _ _,_,hv,hx,_,single,all1=>exact single rfl (all1 rfl) hv hx
 | .el ..,_,hv,hx,_,single,all1=>exact single rfl (all1 rfl) hv trivial
 | .rp ..,_,hv,hx,_,single,all1=>exact single rfl (all1 rfl) hv hx
 | .row _,_,hv,hx,_,single,all1=>exact single rfl (all1 rfl) hv hx
 | .mp _,_,hv,hx,_,single,all1=>exact single rfl (all1 rfl) hv hx
 | .ir ..,_,hv,hx,_,single,all1=>exact single rfl (all1 rfl) hv hx
 | .irp ..,_,hv,hx,_,single,all1=>exact single rfl (all1 rfl) hv hx
 | .sub ..,_,hv,hx,_,single,all1=>exact single rfl (all1 rfl) hv hx
 | .fn _ [],_,hv,hx,_,single,all1=>exact single rfl (all1 rfl) hv hx
 | .fn _ (_::_),_,hv,hx,_,single,all1=>exact single rfl (all1 rfl) hv hx
theorem uK (S:J2 u p g h w)(hpq:∀ x,p x→q x){no:Nat}(hnp:¬ p no)(hqo:q no){cs:List V}{us:Array Value}{e:TypeId}(hF:F2 (fun c v=>(c.K7 p∧VA g c v)∨(∃ t f,c = .bp t no f∧v = .pointer none)) cs us.toList)
  (h1:∀ y∈us.toList,y.oneCell'=true) (hbp:∀ t o' f,V.bp t o' f∈cs→e=t) (hh:∀ x,h' x=if x=no then some (.var cs) else h x) :
  ∃ g',I6 p g g'∧g'.h=g.h∧g'.hdr=g.hdr∧g'.blk no=w.heap.size∧J2 u q g' h' (w.alloc (.cells us e)):=by
 have ha:I6 p g ⟨g.h,fun x=>if x=no then w.heap.size else g.blk x,g.hdr,g.ihdr⟩:=⟨fun _ _ h=>h,fun x hx=>by
  have:x≠no:=fun e=>hnp (e▸hx)
  simp [this],fun _ _=>rfl,fun _ _=>rfl⟩
 refine⟨_,ha,rfl,rfl,by simp,?_⟩
 refine S.update ha rfl none (fun k hk _=>heap_alloc_old w _ hk) (fun b hb=>by cases hb) hpq no ?_ ?_
 ·intro o' x hx hne
  rw [hh,if_neg hne] at hx
  exact⟨hx,fun b _ e=>by cases e⟩
 ·intro x hx
  rw [hh,if_pos rfl] at hx
  simp only [B1] at hx
  subst hx
  refine⟨⟨us,e,?_,hF.mono fun c hc b hb=>?_,h1,hbp⟩,?_,hqo,fun c hc=>?_⟩
  ·simp only [if_true];exact heap_alloc_new w _
  ·rcases hb with ⟨hu,hb⟩|⟨t,f,rfl,rfl⟩
   ·exact VA.agree ha hu hb
   ·exact (Or.inl rfl:VL _ (.bp t no f) _)
  ·intro b hb
   simp only [S9,if_true] at hb
   exact .inr (by omega)
  ·have:∀ {cs:List V} {us:List Value},F2 (fun c v=>(c.K7 p∧VA g c v)∨(∃ t f,c = .bp t no f∧v = .pointer none)) cs us→∀ c∈cs,c.K7 q:=by
    intro cs us h
    induction h with
    |nil=>intro c hc;cases hc
    |cons hr _ ih=>
     intro c hc
     rcases B7.1 hc with rfl|hc
     ·rcases hr with ⟨hu,_⟩|⟨t,f,rfl,_⟩
      ·exact hu.mono hpq
      ·exact hqo
     ·exact ih c hc
   exact this hF c hc
theorem oB (S:J2 u p g h w)(hpq:∀ x,p x→q x){no:Nat}(hnp:¬ p no)(hqo:q no){cs:List V}{us:Array Value}{e:TypeId}(hF:F2 (VA g) cs us.toList)
  (h1:∀ y∈us.toList,y.oneCell'=true) (hu:∀ c∈cs,c.K7 p) (hbp:∀ t o' f,V.bp t o' f∈cs→e=t) (hh:∀ x,h' x=if x=no then some (.var cs) else h x) :
  ∃ g',I6 p g g'∧g'.h=g.h∧g'.hdr=g.hdr∧g'.blk no=w.heap.size∧J2 u q g' h' (w.alloc (.cells us e)):=
 uK S hpq hnp hqo (hF.mono fun c hc _ hb=> .inl ⟨hu c hc,hb⟩) h1 hbp hh
theorem fJ {vv:V}(h:O7 vv=true){t o f:Nat}:V.bp t o f∉vv.cells:=fun hm=>by
 have:=B6.1 h _ hm
 simp [W8] at this
theorem F2.Ta {α β:Type}{R:α→β→Prop}{zs:List α}{bs:List β}(h:F2 R zs bs):∀ {j:Nat} {a:α} {b:β},bs[j]? = some b→R a b→F2 R (zs.set j a) bs:=by
 induction h with
 |nil=>intro j a b hb;simp at hb
 |cons hr hs ih=>
  intro j a b hb ha
  cases j with
  |zero=>simp at hb;subst hb;exact .cons ha hs
  |succ j=>exact .cons hr (ih (by simpa using hb) ha)
theorem R7 (S:J2 u p g h w)(hpq:∀ x,p x→q x){no:Nat}(hnp:¬ p no)(hqo:q no){e sz:Nat}{xs:List D}{v:Value}{us:List Value}{row:Option Nat}
  (hg:w.grownBy w' row) (hown:w'.ownsRow 0 e sz v xs.length us) (hsz:0<sz) (hf:aT g.h sz xs us) (hrow:∀ b,row=some b→g.h b=none∧u b=none)
  (hblk:∀ b,v.ownBlock=some b→some b=row∨w.heap.size≤b)
  (hoth:∀ o' x,h' o'=some x→o'≠no→h o'=some x∧∀ b,S9 g o' x b→some b≠row) (ho:h' no=some (.row e sz xs false)) :
  ∃ g',I6 p g g'∧g'.h=g.h∧g'.blk=g.blk∧g'.hdr no=v∧J2 u q g' h' w':=by
 have ha:I6 p g ⟨g.h,g.blk,fun x=>if x=no then v else g.hdr x,g.ihdr⟩:=⟨fun _ _ h=>h,fun _ _=>rfl,fun x hx=>by
  have:x≠no:=fun e=>hnp (e▸hx)
  simp [this],fun _ _=>rfl⟩
 refine⟨_,ha,rfl,rfl,by simp,?_⟩
 refine S.update ha rfl row hg.block hrow hpq no hoth ?_
 intro x hx
 rw [ho] at hx
 simp only [B1] at hx
 subst hx
 refine⟨⟨us,hsz,by simpa using hown,hf⟩,?_,hqo,trivial⟩
 intro b hb
 simp only [S9,if_true] at hb
 exact hblk b hb
theorem lR {g':G}{row:Option Nat}(hg:w.grownBy w' row)(ha:I6 p g g'):Ext g w g' w':=⟨ha.h,hg.os,hg.tape,hg.output,hg.size⟩
theorem Y6 {g':G}{x:Obj}(ha:I6 p g g'):Ext g w g' (w.alloc x):=⟨ha.h,rfl,rfl,rfl,by simp⟩
theorem fD (w:World)(row:Option Nat):w.grownBy w row:=⟨rfl,rfl,rfl,B9 _,fun _ _ _=>rfl⟩
def U7 (p q:Nat→Prop)(nid:Nat):Prop:=∀ k,k<32→¬ p (nid+k)∧q (nid+k)
theorem U7.zero {nid:Nat}(h:U7 p q nid):¬ p nid∧q nid:=h 0 (by omega)
theorem GK {K:V→St→Option R}(S:J2 u p g st.h w)(hpq:∀ x,p x→q x){no:Nat}(hnp:¬ p no)(hqo:q no){t:TypeId}{vv:V}{v:Value}(hv:VV g vv v)(hu:vv.K5 p)
  (h:oH P t no vv st K=some r) :
  ∃ g' vv' st',K vv' st'=some r∧J2 u q g' st'.h w∧I6 p g g'∧g'.h=g.h∧g'.blk=g.blk∧VV g' vv' v∧vv'.K5 q∧st'.t=st.t∧st'.m=st.m∧
   (∀ x,x≠no→st'.h x=st.h x)∧(O7 vv=true→O7 vv'=true)∧(W8 vv=true→W8 vv'=true)∧(W8 vv=true→vv'.K7 q∧VA g' vv' v):=by
 unfold oH at h
 split at h
 ·rename_i x y
  split at h
  ·rename_i e he
   obtain⟨hsz,h⟩:=H3 h
   have hsz:0<K2 P e:=by have h1:Nat.ble 1 (K2 P e)=true:=hsz;exact B3 h1
   have hv:v = .slice none 0 0:=hv
   subst hv
   obtain⟨g',a1,a2,a3,a4,a5⟩:=R7 (h':=(newRow st no e (K2 P e) []).h) S hpq hnp hqo (e:=e) (sz:=K2 P e) (xs:=[]) (v:= .slice none 0 0) (us:=[]) (row:=none) (fD w none) (World.ownsRow_nil w 0 e (K2 P e)) hsz rfl
    (fun b hb=>by cases hb) (fun b hb=>by cases hb) (fun o' x hx hne=>by rw [newRow,J7,if_neg hne] at hx;exact⟨hx,fun _ _ e=>by cases e⟩) (by rw [newRow,J7,if_pos rfl])
   have hV:VL g' (.row no) (.slice none 0 0):=⟨a4.symm,rfl⟩
   refine⟨g',.row no,_,h,a5,a1,a2,a3,hV,hqo,rfl,rfl,?_,fun _=>rfl,fun _=>rfl,fun _=>⟨hqo,hV⟩⟩
   intro x hne
   rw [newRow,J7,if_neg hne]
  ·cases h
 ·refine⟨g,vv,st,h,S.more hpq,I6.refl p g,rfl,rfl,hv,hu.mono hpq,rfl,rfl,fun _ _=>rfl,id,id,?_⟩
  intro hc
  match vv,hc,hv,hu with
  | .d (.agg _),hc,_,_=>simp [W8] at hc
  | .agg _,hc,_,_=>simp [W8] at hc
  | .tup _,hc,_,_=>simp [W8] at hc
  | .d _,_,hv,_=>exact⟨trivial,hv⟩
  | .ptr ..,_,hv,hu=>exact⟨hpq _ hu,hv⟩
  | .el ..,_,hv,hu=>exact⟨trivial,hv⟩
  | .rp ..,_,hv,hu=>exact⟨hpq _ hu,hv⟩
  | .row _,_,hv,hu=>exact⟨hpq _ hu,hv⟩
  | .mp _,_,hv,hu=>exact⟨hpq _ hu,hv⟩
  | .ir ..,_,hv,hu=>exact⟨hpq _ hu,hv⟩
  | .irp ..,_,hv,hu=>exact⟨hpq _ hu,hv⟩
  | .bp ..,hc,_,_=>simp [W8] at hc
  | .sub ..,_,hv,hu=>exact⟨hpq _ hu,hv⟩
  | .fn _ [],_,hv,hu=>exact⟨V.K7.mono hpq (x:= .fn _ []) hu,hv⟩
  | .fn _ (_::_),_,hv,hu=>exact⟨V.K7.mono hpq (x:= .fn _ (_::_)) hu,hv⟩
theorem Goal.res {vv:V}{st':St}{v:Value}{g':G}(hk:K vv st'=some r)(hr:(execOp a.eval o).run P w = .ok (.value v) w')(hs:J2 u q g' st'.h w')(ha:I6 p g g')(he:Ext g w g' w')(hv:VV g' vv v)(hu:vv.K5 q)(ht:st'.t=st.t)(hn:st'.m=st.m) :
  Goal u p q g st a w P o K r:=⟨vv,st',hk,.inl ⟨v,w',hr,g',hs,ha,he,hv,hu,ht,hn,fun o ho _=>ha.ihdr o ho⟩⟩
theorem Goal.skip {st':St}{g':G}(hk:K .top st'=some r)(hr:(execOp a.eval o).run P w = .ok .skip w')(hs:J2 u q g' st'.h w')(ha:I6 p g g')(he:Ext g w g' w')(ht:st'.t=st.t)(hn:st'.m=st.m) :
  Goal u p q g st a w P o K r:=⟨.top,st',hk,.inr (.inl ⟨w',hr,g',hs,ha,he,(trivial:VD g'.h .top _),trivial,ht,hn,fun o ho _=>ha.ihdr o ho⟩)⟩
theorem Goal.Tb {st':St}{g':G}(hk:K .top st'=some r)(hr:(execOp a.eval o).run P w = .ok .skip w')(hs:J2 u q g' st'.h w')(ha:V7 p g g')(he:Ext g w g' w')(ht:st'.t=st.t)(hn:st'.m=st.m)(hi:∀ o,p o→st.h o=none→g'.ihdr o=g.ihdr o) :
  Goal u p q g st a w P o K r:=⟨.top,st',hk,.inr (.inl ⟨w',hr,g',hs,ha,he,(trivial:VD g'.h .top _),trivial,ht,hn,hi⟩)⟩
theorem SC (S:At u p g st a w)(hpq:∀ x,p x→q x){nid:Nat}{b:Bool}(hfr:U7 p q nid){x:Operand}(ho:o.op = .assign x)
  (h:(force (I1 st x) fun v=>match v with
  | .d (.nils _ _)=>bif M6 P o.type then (bif b then K (Y1 P o.type v) st else oH P o.type nid v st K) else K v st
  |v=>K v st)=some r):Goal u p q g st a w P o K r:=by
 rw [cC] at h
 have plain:K (I1 st x) st=some r→Goal u p q g st a w P o K r:=fun h=>⟨_,_,h,PN S hpq (.inr ho)⟩
 split at h
 ·rename_i e sz he
  cases hs:M6 P o.type with
  |false=>rw [hs] at h;exact plain h
  |true=>
   rw [hs] at h
   simp only [cond_true] at h
   cases b with
   |true=>
    have hx:VV g (I1 st x) (a.eval x):=S.ev x
    rw [he] at hx
    refine Goal.val S hpq h (v:=a.eval x) (by simp [execOp,ho]) ?_ ?_
    ·unfold Y1
     rw [he]
     simp only []
     split<;>exact hx
    ·unfold Y1
     rw [he]
     simp only []
     split<;>trivial
   |false=>
   simp only [cond_false] at h
   obtain⟨g',vv',st',k1,k2,k3,k4,_,k5,k6,k7,k8,_⟩:=GK S.hp hpq hfr.zero.1 hfr.zero.2 (S.ev x) (S.L7 x) h
   exact Goal.res k1 (v:=a.eval x) (w':=w) (by simp [execOp,ho]) k2 k3 ⟨k3.h,rfl,rfl,rfl,B9 _⟩ k5 k6 k7 k8
 ·exact plain h
theorem uX {hh:Nat→Option Obj}{t:TypeId}{x:D}{v:Value}(h:VD hh x v):VD hh (zeroCell P t x) v:=by
 unfold zeroCell
 split
 ·split
  ·exact h
  ·exact h
 ·exact h
theorem rH {hh:Nat→Option Obj}:∀ {ts:List TypeId} {xs:List D} {us:List Value},jV hh xs us→jV hh (zeroCells P ts xs) us
 |[],xs,us,h=>by cases xs<;>exact h
 |t::ts,[],us,h=>h
 |t::ts,x::xs,us,h=>by
  obtain⟨v,r,rfl,h1,h2⟩:=h
  exact⟨v,r,rfl,uX h1,rH h2⟩
theorem oP {t:TypeId}{z:D}(h:AI P t=some z):∃ i zv,P.info? t=some i∧i.zero=some zv∧∀ hh,VD hh z zv:=by
 unfold AI at h
 split at h
 ·rename_i i hi
  split at h
  ·rename_i zv hz
   refine⟨i,zv,hi,hz,fun hh=>?_⟩
   have hc:=pX hh zv
   split at h
   ·rename_i cs hcs
    rw [hcs] at hc
    simp only [B1] at h
    subst h
    obtain⟨us,rfl,h1⟩:=hc
    exact⟨us,rfl,rH h1⟩
   ·simp only [B1] at h
    subst h
    exact uX hc
  ·cases h
 ·cases h
theorem mkVar (S:At u p g st a w)(hpq:∀ x,p x→q x){nid:Nat}(hfr:U7 p q nid){t:TypeId}{vv:V}{v:Value}(hok:O7 vv=true)(hv:VV g vv v)(hu:vv.K5 p)
  (hrun:(execOp a.eval o).run P w = .ok (.value (.pointer (some ⟨w.heap.size,0,none⟩))) (w.alloc (.cells v.cells t)))
  (h:K (.ptr nid 0) (newVar st nid vv.cells)=some r):Goal u p q g st a w P o K r:=by
 obtain⟨c1,c2,c3⟩:=aW hok hv hu
 obtain⟨g',a1,a2,a3,a4,a5⟩:=oB (h':=(newVar st nid vv.cells).h) (e:=t) S.hp hpq hfr.zero.1 hfr.zero.2 c1 c2 c3 (fun t o' f hm=>absurd hm (fJ hok)) (fun x=>by rw [newVar,J7])
 exact Goal.res h hrun a5 a1 (Y6 a1) (by show _=_;rw [show g'.blk nid=w.heap.size from a4]) hfr.zero.2 rfl rfl
theorem JE (S:At u p g st a w)(hpq:∀ x,p x→q x){nid:Nat}(hfr:U7 p q nid){t t':TypeId}{vv:V}{v:Value}(hok:O7 vv=true)(hv:VV g vv v)(hu:vv.K5 p)
  (hrun:(execOp a.eval o).run P w = .ok (.value (.pointer (some ⟨w.heap.size,0,none⟩))) (w.alloc (.cells v.cells t')))
  (h:(oH P t (nid+1) vv st fun v st=>K (.ptr nid 0) (newVar st nid v.cells))=some r):Goal u p q g st a w P o K r:=by
 obtain⟨g1,vv1,L9,k1,k2,k3,k4,k5,k6,k7,k8,k9,Fq,Ur,_⟩:=GK (q:=fun x=>p x∨x=nid+1) S.hp (fun x hx=> .inl hx) (hfr 1 (by omega)).1 (.inr rfl) hv hu h
 have hpq1:∀ x,(p x∨x=nid+1)→q x:=by
  intro x hx
  rcases hx with hx|rfl
  ·exact hpq x hx
  ·exact (hfr 1 (by omega)).2
 obtain⟨c1,c2,c3⟩:=aW (Ur hok) k6 k7
 obtain⟨g',a1,a2,a3,a4,a5⟩:=oB (h':=(newVar L9 nid vv1.cells).h) (e:=t') (no:=nid) k2 hpq1 (by intro e;rcases e with e|e;exact hfr.zero.1 e;omega) hfr.zero.2 c1 c2 c3 (fun t o' f hm=>absurd hm (fJ (Ur hok))) (fun x=>by rw [newVar,J7])
 have ha:I6 p g g':=⟨fun b x e=>a1.h b x (k3.h b x e),fun x hx=>(a1.blk x (.inl hx)).trans (k3.blk x hx),fun x hx=>(a1.hdr x (.inl hx)).trans (k3.hdr x hx),fun x hx=>(a1.ihdr x (.inl hx)).trans (k3.ihdr x hx)⟩
 exact Goal.res k1 hrun a5 ha (Y6 ha) (by show _=_;rw [a4]) hfr.zero.2 k8 k9
theorem iL {a b:Nat}(h:a≠b):Nat.beq a b=false:=by rw [← Bool.not_eq_true];intro hc;exact h (B0 hc)
theorem oI:∀ {new:List (Nat×Ob)} {h:Nat→Option Ob} {x:Nat},(∀ e∈new,e.1≠x)→Y0 h new x=h x
 |[],_,_,_=>rfl
 |(o,ob)::r,h,x,hx=>by
  simp only [Y0]
  rw [iL (fun e=>hx (o,ob) (by simp) e.symm),cond_false]
  exact oI fun e he=>hx e (by simp [he])
theorem lA {o:Nat}{ob:Ob}:∀ {new:List (Nat×Ob)} {h:Nat→Option Ob} (x:Nat),(∀ e∈new,e.1≠o)→Y0 (fun x=>bif Nat.beq x o then some ob else h x) new x=(bif Nat.beq x o then some ob else Y0 h new x)
 |[],_,_,_=>rfl
 |(o',ob')::r,h,x,hx=>by
  simp only [Y0]
  have ih:=lA (ob:=ob) (new:=r) (h:=h) x (fun e he=>hx e (by simp [he]))
  rw [ih]
  by_cases e:x=o'
  ·subst e
   rw [Nat.beq_refl,iL (hx (x,ob') (by simp))]
   rfl
  ·rw [iL e];rfl
theorem bQ {sel:Nat→Bool}{e sz:Nat}(he:sel (e+1)=true)(cs:List V)(m:Nat):H5 sel (.d (.nils (e+1) (sz+1))::cs) m=(.row m::(H5 sel cs (m+1)).1,(m,.row (e+1) (sz+1) [] false)::(H5 sel cs (m+1)).2.1,(H5 sel cs (m+1)).2.2):=by
 simp only [H5,he,cond_true]
theorem cT {sel:Nat→Bool}{c:V}(hc:¬ ∃ e sz,c = .d (.nils (e+1) (sz+1))∧sel (e+1)=true)(cs:List V)(m:Nat):H5 sel (c::cs) m=(c::(H5 sel cs m).1,(H5 sel cs m).2.1,(H5 sel cs m).2.2):=by
 match c,hc with
 | .d (.nils (e+1) (sz+1)),hc=>
  have:sel (e+1)=false:=by
   cases hs:sel (e+1) with
   |true=>exact absurd ⟨e,sz,rfl,hs⟩ hc
   |false=>rfl
  simp only [H5,this,cond_false]
 | .d (.nils 0 _),_=>rfl
 | .d (.nils (_+1) 0),_=>rfl
 | .d .top,_ | .d (.bool _),_ | .d (.int _ _),_ | .d (.str _),_ | .d (.Z _ _),_ | .d .und,_ | .d (.agg _),_ | .d (.fn _),_ | .d .nilp,_ | .d .nilf,_ | .d .nilm,_ | .d .nili,_ | .d .ub,_ | .d (.iface _ _),_ | .d (.meth ..),_=>rfl
 | .ptr ..,_ | .el ..,_ | .rp ..,_ | .row _,_ | .sub ..,_ | .agg _,_ | .fn ..,_ | .tup _,_ | .mp _,_ | .bp ..,_ | .ir ..,_ | .irp ..,_=>rfl
theorem cR {sel:Nat→Bool}:∀ (cs:List V) (m:Nat),m≤(H5 sel cs m).2.2
 |[],m=>B9 m
 |c::r,m=>by
  by_cases hc:∃ e sz,c = .d (.nils (e+1) (sz+1))∧sel (e+1)=true
  ·obtain⟨e,sz,rfl,hs⟩:=hc
   have:=cR (sel:=sel) r (m+1)
   rw [bQ hs]
   show m≤(H5 sel r (m+1)).2.2
   omega
  ·rw [cT hc]
   exact cR r m
theorem gR {sel:Nat→Bool}:∀ {cs:List V} {m:Nat} {e:Nat×Ob},e∈(H5 sel cs m).2.1→m≤e.1∧e.1<(H5 sel cs m).2.2
 |[],m,e,h=>by cases h
 |c::r,m,x,h=>by
  by_cases hc:∃ e sz,c = .d (.nils (e+1) (sz+1))∧sel (e+1)=true
  ·obtain⟨e,sz,rfl,hs⟩:=hc
   have hle:=cR (sel:=sel) r (m+1)
   rw [bQ hs] at h ⊢
   show m≤x.1∧x.1<(H5 sel r (m+1)).2.2
   have h:x∈(m,Ob.row (e+1) (sz+1) [] false)::(H5 sel r (m+1)).2.1:=h
   rcases B7.1 h with rfl|h
   ·exact⟨B9 m,by show m<_;omega⟩
   ·have:=gR h
    omega
  ·rw [cT hc] at h ⊢
   exact gR h
theorem cQ {sel:Nat→Bool}{ty o f:Nat}:∀ {cs:List V} {n:Nat},V.bp ty o f∈(H5 sel cs n).1→V.bp ty o f∈cs
 |[],n,h=>by cases h
 |c::r,n,h=>by
  by_cases hc:∃ e sz,c = .d (.nils (e+1) (sz+1))∧sel (e+1)=true
  ·obtain⟨e,sz,rfl,hs⟩:=hc
   rw [bQ hs] at h
   rcases B7.1 h with h|h
   ·cases h
   ·exact C0 _ (cQ h)
  ·rw [cT hc] at h
   rcases B7.1 h with h|h
   ·rw [h];exact B8 ..
   ·exact C0 _ (cQ h)
theorem lG {sel:Nat→Bool}{u:Nat→Option Obj}{p:Nat→Prop}{w:World}{base:Nat}:∀ {cs:List V} {m:Nat} {g:G} {h:Nat→Option Ob} {vals:List Value},base≤m→(∀ x,base≤x→x<(H5 sel cs m).2.2→¬ p x)→J2 u (fun x=>p x∨(base≤x∧x<m)) g h w→F2 (VA g) cs vals→(∀ c∈cs,c.K7 (fun x=>p x∨(base≤x∧x<m)))→
  ∃ g',I6 (fun x=>p x∨(base≤x∧x<m)) g g'∧g'.h=g.h∧g'.blk=g.blk∧F2 (VA g') (H5 sel cs m).1 vals∧(∀ c∈(H5 sel cs m).1,c.K7 (fun x=>p x∨(base≤x∧x<(H5 sel cs m).2.2)))∧m≤(H5 sel cs m).2.2∧
   (∀ e∈(H5 sel cs m).2.1,m≤e.1∧e.1<(H5 sel cs m).2.2)∧J2 u (fun x=>p x∨(base≤x∧x<(H5 sel cs m).2.2)) g' (Y0 h (H5 sel cs m).2.1) w:=by
 intro cs
 induction cs with
 |nil=>
  intro m g h vals hbm hfree S hF hu
  cases hF
  have e0:H5 sel [] m=([],[],m):=rfl
  rw [e0]
  exact⟨g,I6.refl _ g,rfl,rfl,.nil,(fun c hc=>nomatch hc),B9 _,(fun e he=>nomatch he),S⟩
 |cons c cs ih=>
  intro m g h vals hbm hfree S hF hu
  cases hF with
  |@cons _ v _ vals h1 h2=>
   have plain:H5 sel (c::cs) m=(c::(H5 sel cs m).1,(H5 sel cs m).2.1,(H5 sel cs m).2.2)→∃ g',I6 (fun x=>p x∨(base≤x∧x<m)) g g'∧g'.h=g.h∧g'.blk=g.blk∧F2 (VA g') (H5 sel (c::cs) m).1 (v::vals)∧
     (∀ x∈(H5 sel (c::cs) m).1,x.K7 (fun x=>p x∨(base≤x∧x<(H5 sel (c::cs) m).2.2)))∧m≤(H5 sel (c::cs) m).2.2∧(∀ e∈(H5 sel (c::cs) m).2.1,m≤e.1∧e.1<(H5 sel (c::cs) m).2.2)∧J2 u (fun x=>p x∨(base≤x∧x<(H5 sel (c::cs) m).2.2)) g' (Y0 h (H5 sel (c::cs) m).2.1) w:=by
    intro e
    rw [e] at hfree ⊢
    obtain⟨g',a1,a2,a3,a4,a5,a6,a7,a8⟩:=ih hbm hfree S h2 (fun x hx=>hu x (by simp [hx]))
    refine⟨g',a1,a2,a3,.cons (VA.agree a1 (hu c (by simp)) h1) a4,fun x hx=>?_,a6,a7,a8⟩
    rcases B7.1 hx with rfl|hx
    ·exact (hu _ (by simp)).mono fun o ho=>ho.imp id fun k=>⟨k.1,Nat.lt_of_lt_of_le k.2 a6⟩
    ·exact a5 x hx
   by_cases hn:∃ e sz,c = .d (.nils (e+1) (sz+1))∧sel (e+1)=true
   ·obtain⟨e,sz,rfl,hs⟩:=hn
    have e1:=bQ (sz:=sz) hs cs m
    rw [e1] at hfree ⊢
    have h1:v = .slice none 0 0:=h1
    subst h1
    have hm1:∀ x,(p x∨(base≤x∧x<m))→(p x∨(base≤x∧x<m+1)):=fun x hx=>hx.imp id fun k=>⟨k.1,by omega⟩
    have hmono:m+1≤(H5 sel cs (m+1)).2.2:=cR cs (m+1)
    have hmin:¬ (p m∨(base≤m∧m<m)):=fun k=>k.elim (hfree m hbm (by show m<(H5 sel cs (m+1)).2.2;omega)) fun k=>Nat.lt_irrefl _ k.2
    obtain⟨g1,b1,b2,b3,b4,b5⟩:=R7 (h':=fun x=>bif Nat.beq x m then some (.row (e+1) (sz+1) [] false) else h x) S hm1 hmin (.inr ⟨hbm,Nat.lt_succ_self m⟩) (e:=e+1) (sz:=sz+1) (xs:=[]) (v:= .slice none 0 0) (us:=[]) (row:=none) (fD w none) (World.ownsRow_nil w 0 (e+1) (sz+1)) (Nat.succ_pos sz) rfl
     (fun b hb=>by cases hb) (fun b hb=>by cases hb) (fun o' x hx hne=>by rw [iL hne] at hx;exact⟨hx,fun _ _ e=>by cases e⟩) (by simp [Nat.beq_refl])
    obtain⟨g2,a1,a2,a3,a4,a5,a6,a7,a8⟩:=ih (m:=m+1) (by omega) hfree b5 (F2.mono h2 fun y hy z hz=>VA.agree b1 (hu y (by simp [hy])) hz) (fun y hy=>(hu y (by simp [hy])).mono hm1)
    have ha:I6 (fun x=>p x∨(base≤x∧x<m)) g g2:=⟨fun b x k=>a1.h b x (b1.h b x k),fun o ho=>(a1.blk o (hm1 o ho)).trans (b1.blk o ho),fun o ho=>(a1.hdr o (hm1 o ho)).trans (b1.hdr o ho),fun o ho=>(a1.ihdr o (hm1 o ho)).trans (b1.ihdr o ho)⟩
    have hm2:m<(H5 sel cs (m+1)).2.2:=by omega
    refine⟨g2,ha,a2.trans b2,a3.trans b3,.cons ⟨by rw [a1.hdr m (.inr ⟨hbm,Nat.lt_succ_self m⟩),b4],rfl⟩ a4,fun x hx=>?_,Nat.le_trans (Nat.le_succ m) a6,fun x hx=>?_,?_⟩
    ·rcases B7.1 hx with rfl|hx
     ·exact .inr ⟨hbm,hm2⟩
     ·exact a5 x hx
    ·rcases B7.1 hx with rfl|hx
     ·exact⟨B9 _,hm2⟩
     ·have:=a7 x hx
      exact⟨by omega,this.2⟩
    ·have e2:Y0 h ((m,.row (e+1) (sz+1) [] false)::(H5 sel cs (m+1)).2.1)=Y0 (fun x=>bif Nat.beq x m then some (.row (e+1) (sz+1) [] false) else h x) (H5 sel cs (m+1)).2.1:=by
      funext x
      rw [lA x fun y hy=>by have:=(a7 y hy).1;omega]
      rfl
     rw [e2]
     exact a8
   ·exact plain (cT hn cs m)
theorem WJ {c:Z6}(S:At u p g st a w)(hpq:∀ x,p x→q x){nid:Nat}(hfr:U7 p q nid){t:TypeId}{vv:V}{v:Value}(hok:O7 vv=true)(hv:VV g vv v)(hu:vv.K5 p)
  (hrun:(execOp a.eval o).run P w = .ok (.value (.pointer (some ⟨w.heap.size,0,none⟩))) (w.alloc (.cells v.cells t)))
  (h:wU c t nid vv.cells st K=some r):Goal u p q g st a w P o K r:=by
 unfold wU at h
 cases hw:c.wty t 0 with
 |true=>
  rw [hw] at h
  simp only [cond_true] at h
  obtain⟨hm,h⟩:=H3 h
  have hm:(H5 (c.wty t) vv.cells (nid+1)).2.2≤nid+32:=B3 hm
  obtain⟨c1,c2,c3⟩:=aW hok hv hu
  have hfree:∀ x,nid+1≤x→x<(H5 (c.wty t) vv.cells (nid+1)).2.2→¬ p x∧q x:=fun x h1 h2=>by
   have:=hfr (x-nid) (by omega)
   rwa [show nid+(x-nid)=x from by omega] at this
  have S0:J2 u (fun x=>p x∨(nid+1≤x∧x<nid+1)) g st.h w:=⟨S.hp.frz,S.hp.unt,S.hp.ob,S.hp.sep,S.hp.inj,fun o x ho=>⟨.inl (S.hp.use o x ho).1,(S.hp.use o x ho).2.mono fun x hx=> .inl hx⟩,S.hp.dj⟩
  obtain⟨g1,a1,a2,a3,a4,a5,a6,a7,a8⟩:=lG (B9 (nid+1)) (fun x h1 h2=>(hfree x h1 h2).1) S0 c1 (fun y hy=>(c3 y hy).mono fun x hx=> .inl hx)
  obtain⟨g',d1,d2,d3,d4,d5⟩:=oB (q:=q) (h':=(newVar { st with h:=Y0 st.h (H5 (c.wty t) vv.cells (nid+1)).2.1 } nid (H5 (c.wty t) vv.cells (nid+1)).1).h) (e:=t) (no:=nid) a8
   (fun x hx=>hx.elim (hpq x) fun k=>(hfree x k.1 k.2).2) (fun e=>e.elim hfr.zero.1 fun k=>by omega) hfr.zero.2 a4 c2 a5 (fun t o' f hm=>absurd (cQ hm) (fJ hok)) (fun x=>by rw [newVar,J7])
  have ha:I6 p g g':=⟨fun b x e=>d1.h b x (a1.h b x e),fun x hx=>(d1.blk x (.inl hx)).trans (a1.blk x (.inl hx)),fun x hx=>(d1.hdr x (.inl hx)).trans (a1.hdr x (.inl hx)),fun x hx=>(d1.ihdr x (.inl hx)).trans (a1.ihdr x (.inl hx))⟩
  exact Goal.res h hrun d5 ha (Y6 ha) (by show _=_;rw [d4]) hfr.zero.2 rfl rfl
 |false=>
 rw [hw] at h
 simp only [cond_false] at h
 split at h
 ·rename_i cs' h' hb
  unfold wS at hb
  split at hb
  ·simp only [B1,C7] at hb
   obtain⟨rfl,rfl⟩:=hb
   exact mkVar S hpq hfr hok hv hu hrun h
  ·rename_i off hoff
   split at hb
   ·rename_i e sz e1 e2
    obtain⟨hsz,hb⟩:=H3 hb
    have hsz:0<sz:=by have h1:Nat.ble 1 sz=true:=hsz;exact B3 h1
    simp only [B1,C7] at hb
    obtain⟨rfl,rfl⟩:=hb
    obtain⟨c1,c2,c3⟩:=aW hok hv hu
    obtain⟨b0,hb0,hr0⟩:=c1.get off _ e1
    obtain⟨b1,hb1,hr1⟩:=c1.get (off+1) _ e2
    have hr0:b0 = .pointer none:=hr0
    have hr1:b1 = .slice none 0 0:=hr1
    subst hr0
    subst hr1
    have hpq1:∀ x,(p x∨x=nid+1)→q x:=by
     intro x hx
     rcases hx with hx|rfl
     ·exact hpq x hx
     ·exact (hfr 1 (by omega)).2
    obtain⟨g1,a1,a2,a3,a4,a5⟩:=R7 (q:=fun x=>p x∨x=nid+1) (h':=fun x=>bif Nat.beq x (nid+1) then some (.row e sz [] false) else st.h x) S.hp (fun x hx=> .inl hx) (no:=nid+1) (hfr 1 (by omega)).1 (.inr rfl) (e:=e) (sz:=sz) (xs:=[]) (v:= .slice none 0 0) (us:=[]) (row:=none) (fD w none) (World.ownsRow_nil w 0 e sz) hsz rfl
     (fun b hb=>by cases hb) (fun b hb=>by cases hb) (fun o' x hx hne=>by
      have hn:Nat.beq o' (nid+1)=false:=by rw [← Bool.not_eq_true];intro hc;exact hne (B0 hc)
      simp only [hn,cond_false] at hx
      exact⟨hx,fun _ _ e=>by cases e⟩) (by simp [Nat.beq_refl])
    have F0:F2 (fun c v=>(c.K7 (fun x=>p x∨x=nid+1)∧VA g1 c v)∨(∃ t f,c = .bp t nid f∧v = .pointer none)) vv.cells v.cells.toList:=
     c1.mono fun c hc b hb=> .inl ⟨(c3 c hc).mono fun x hx=> .inl hx,VA.agree a1 (c3 c hc) hb⟩
    have F1:=F0.Ta (a:= .bp t nid off) hb0 (.inr ⟨t,off,rfl,rfl⟩)
    have F2':=F1.Ta (a:= .row (nid+1)) hb1 (.inl ⟨.inr rfl,(⟨a4.symm,rfl⟩:VL g1 (.row (nid+1)) _)⟩)
    obtain⟨g',d1,d2,d3,d4,d5⟩:=uK (h':=(newVar { st with h:=fun x=>bif Nat.beq x (nid+1) then some (.row e sz [] false) else st.h x } nid ((vv.cells.set off (.bp t nid off)).set (off+1) (.row (nid+1)))).h) (e:=t) (no:=nid) a5 hpq1 (by intro e;rcases e with e|e;exact hfr.zero.1 e;omega) hfr.zero.2 F2' c2
     (fun t' o' f hm=>by
      rcases List.mem_or_eq_of_mem_set hm with hm|hm
      ·rcases List.mem_or_eq_of_mem_set hm with hm|hm
       ·exact absurd hm (fJ hok)
       ·cases hm;rfl
      ·cases hm) (fun x=>by rw [newVar,J7])
    have ha:I6 p g g':=⟨fun b x e=>d1.h b x (a1.h b x e),fun x hx=>(d1.blk x (.inl hx)).trans (a1.blk x hx),fun x hx=>(d1.hdr x (.inl hx)).trans (a1.hdr x hx),fun x hx=>(d1.ihdr x (.inl hx)).trans (a1.ihdr x hx)⟩
    exact Goal.res h hrun d5 ha (Y6 ha) (by show _=_;rw [d4]) hfr.zero.2 rfl rfl
   ·cases hb
 ·cases h
theorem WW {c:Z6}(S:At u p g st a w)(hpq:∀ x,p x→q x){nid:Nat}(hfr:U7 p q nid){t:TypeId}(ho:o.op = .alloc t)
  (h:(match AI P t with
  |some z=>bif O7 (.d z) then (bif M6 P t then oH P t (nid+1) (.d z) st fun v st=>K (.ptr nid 0) (newVar st nid v.cells) else wU c t nid (V.d z).cells st K) else none
  |none=>none)=some r):Goal u p q g st a w P o K r:=by
 split at h
 ·rename_i z hz
  obtain⟨i,zv,hi,hzv,hV⟩:=oP hz
  obtain⟨hok,h⟩:=H3 h
  have hrun:(execOp a.eval o).run P w = .ok (.value (.pointer (some ⟨w.heap.size,0,none⟩))) (w.alloc (.cells zv.cells t)):=by
   simp [execOp,ho,Instr.alloc,zeroValue,typeInfo,hi,hzv,Go.newVar,Go.newRow]
  cases hs:M6 P t with
  |true=>rw [hs] at h;exact JE S hpq hfr hok (hV _) trivial hrun h
  |false=>rw [hs] at h;exact WJ (vv:= .d z) S hpq hfr hok (hV _) trivial hrun h
 ·cases h
theorem Kt {c:Z6}(S:At u p g st a w)(hpq:∀ x,p x→q x){nid:Nat}(hfr:U7 p q nid){t:TypeId}{x:Operand}(ho:o.op = .box t x)
  (h:(bif !(O7 (I1 st x)) then none else bif M6 P t then oH P t (nid+1) (I1 st x) st fun v st=>K (.ptr nid 0) (newVar st nid v.cells)
   else bif Nat.beq (I1 st x).cells.length (K2 P t) then wU c t nid (I1 st x).cells st K else none)=some r):Goal u p q g st a w P o K r:=by
 obtain⟨hok,h⟩:=I2 h
 rw [Bool.not_eq_false'] at hok
 have hrun:(execOp a.eval o).run P w = .ok (.value (.pointer (some ⟨w.heap.size,0,none⟩))) (w.alloc (.cells (a.eval x).cells t)):=by
  simp [execOp,ho,Instr.box,Go.newVar,Go.newRow]
 cases hs:M6 P t with
 |true=>rw [hs] at h;exact JE S hpq hfr hok (S.ev x) (S.L7 x) hrun h
 |false=>
  rw [hs] at h
  simp only [cond_false] at h
  obtain⟨_,h⟩:=H3 h
  exact WJ S hpq hfr hok (S.ev x) (S.L7 x) hrun h
theorem uA:∀ (vs:List Value) (k off:Nat) (cs:Array Value),((vs.zipIdx k).foldl (fun cs (x:Value×Nat)=>cs.setIfInBounds (off+x.2) x.1) cs).toList=setAt cs.toList (off+k) vs
 |[],k,off,cs=>by simp [setAt]
 |v::vs,k,off,cs=>by
  simp only [List.zipIdx_cons,List.foldl_cons]
  rw [uA vs (k+1) off]
  simp only [setAt,Array.toList_setIfInBounds,Nat.add_assoc]
theorem xX (vs:Array Value)(off:Nat)(cs:Array Value):(vs.zipIdx.foldl (fun cs (x:Value×Nat)=>cs.setIfInBounds (off+x.2) x.1) cs).toList=setAt cs.toList off vs.toList:=by
 rw [← Array.foldl_toList]
 have:=uA vs.toList 0 off cs
 simpa using this
theorem Z1 {α:Type}:∀ (ys xs:List α) (off:Nat),(setAt xs off ys).length=xs.length
 |[],xs,off=>rfl
 |y::ys,xs,off=>by simp only [setAt];rw [Z1 ys];simp
theorem F2.setAt {α β:Type}{R:α→β→Prop}{xs:List α}{ys:List β}(h2:F2 R xs ys):∀ {zs:List α} {bs:List β} (off:Nat),F2 R zs bs→F2 R (AE.setAt zs off xs) (AE.setAt bs off ys):=by
 induction h2 with
 |nil=>intro zs bs off h;exact h
 |cons hr _ ih=>
  intro zs bs off h
  exact ih (off+1) (h.set hr off)
theorem Y7 {α:Type}:∀ (ys xs:List α) (off:Nat) (x:α),x∈setAt xs off ys→x∈xs∨x∈ys
 |[],xs,off,x,h=> .inl h
 |y::ys,xs,off,x,h=>by
  rcases Y7 ys _ _ _ h with h|h
  ·rcases List.mem_or_eq_of_mem_set h with h|rfl
   ·exact .inl h
   ·exact .inr (by simp)
  ·exact .inr (by simp [h])
theorem CW:∀ (fs:List Field),(fs.all fun f=>(P.info? f.type).isSome)=true→∃ places,fs.mapM (fun f=>(P.info? f.type).map fun i=>(f.offset,i.size))=some places∧
  ∀ (k:Nat) (f:Field),fs[k]? = some f→places[k]? = some (f.offset,K2 P f.type)
 |[],_=>⟨[],rfl,fun k f h=>by simp at h⟩
 |f::fs,h=>by
  simp only [List.all_cons,A9] at h
  obtain⟨places,h1,h2⟩:=CW fs h.2
  cases hi:P.info? f.type with
  |none=>rw [hi] at h;simp at h
  |some i=>
   refine⟨(f.offset,i.size)::places,by simp [List.mapM_cons,hi,h1],fun k f' hk=>?_⟩
   cases k with
   |zero=>simp at hk;subst hk;simp [K2,hi]
   |succ k=>simpa using h2 k f' (by simpa using hk)
theorem OT (S:At u p g st a w){t:TypeId}{fs:Array Field}(ht:P.underlying t=some (.struct fs)){places:List (Nat×Nat)}(hp:∀ (k:Nat) (f:Field),fs.toList[k]? = some f→places[k]? = some (f.offset,K2 P f.type)) :
  ∀ (ps:List (Nat×Operand)) (cs cs':List V) (us:Array Value),F2 (VA g) cs us.toList→(∀ c∈cs,c.K7 p)→bZ P t (I1 st) cs ps=some cs'→
   ∃ us',Instr.fill (fun k=>places.toArray[k]?) us (ps.map fun x=>(x.1,a.eval x.2))=some us'∧F2 (VA g) cs' us'.toList∧∀ c∈cs',c.K7 p
 |[],cs,cs',us,hF,hu,h=>by
  simp only [bZ,B1] at h
  subst h
  exact⟨us,rfl,hF,hu⟩
 |(k,x)::ps,cs,cs',us,hF,hu,h=>by
  simp only [bZ] at h
  split at h
  ·rename_i off ft hft
   replace h:=H3 h
   obtain⟨hc,h⟩:=h
   simp only [A9] at hc
   obtain⟨⟨hok,hsz⟩,hle⟩:=hc
   have hsz:(I1 st x).cells.length=K2 P ft:=B0 hsz
   have hle:off+K2 P ft≤cs.length:=B3 hle
   obtain⟨fs',f,hu',hfk,rfl,rfl⟩:=kN hft
   rw [ht] at hu'
   cases hu'
   obtain⟨c1,c2,c3⟩:=aW hok (S.ev x) (S.L7 x)
   have hl1:=c1.length
   have hl2:=hF.length
   simp only [E4] at hl1 hl2
   have hpl:=hp k f (by rw [D0];exact hfk)
   have e1:¬ ((a.eval x).cells.size≠K2 P f.type∨f.offset+(a.eval x).cells.size>us.size):=by omega
   have hF':F2 (VA g) (setAt cs f.offset (I1 st x).cells) ((a.eval x).cells.zipIdx.foldl (fun cs (x:Value×Nat)=>cs.setIfInBounds (f.offset+x.2) x.1) us).toList:=by
    rw [xX];exact c1.setAt _ hF
   obtain⟨us',k1,k2,k3⟩:=OT S ht hp ps _ cs' _ hF' (fun c hc=>by
    rcases Y7 _ _ _ _ hc with hc|hc
    ·exact hu c hc
    ·exact c3 c hc) h
   refine⟨us',?_,k2,k3⟩
   simp only [List.map_cons,Instr.fill,List.getElem?_toArray,hpl]
   rw [if_neg (by simpa using e1)]
   simpa using k1
  ·cases h
theorem WY (S:At u p g st a w)(hpq:∀ x,p x→q x){t:TypeId}{ps:Array (Nat×Operand)}(ho:o.op = .build t ps)
  (h:(match AI P t with
  |some z=>bif !(O7 (.d z)&&xP P t) then none else (match bZ P t (I1 st) (V.d z).cells ps.toList with
   |some cs=>K (T8 cs) st
   |none=>none)
  |none=>none)=some r):Goal u p q g st a w P o K r:=by
 split at h
 ·rename_i z hz
  obtain⟨i,zv,hi,hzv,hV⟩:=oP hz
  obtain⟨hok,h⟩:=I2 h
  rw [Bool.not_eq_false',A9] at hok
  have hfs:=hok.2
  unfold xP at hfs
  split at hfs
  ·rename_i fs hfs'
   obtain⟨places,hp1,hp2⟩:=CW fs.toList hfs
   split at h
   ·rename_i cs' hcs
    obtain⟨c1,_,c3⟩:=aW (p:=p) hok.1 (show VV g (.d z) zv from hV _) trivial
    obtain⟨us',k1,k2,k3⟩:=OT S hfs' hp2 ps.toList _ cs' zv.cells c1 c3 hcs
    refine Goal.val S hpq h (v:= .agg us') ?_ ?_ (O2 (cD k3))
    ·have hb:P.built t (ps.map fun (i,x)=>(i,a.eval x)).toList=some us':=by
      unfold Program.built
      simp only [hi,hfs',hzv,hp1,Array.toList_map]
      exact k1
     simp only [execOp,ho]
     simp [run_build w t _ us' hb]
    ·have:=hY k2
     rw [Array.toArray_toList] at this
     exact P1 this
   ·cases h
  ·cases hfs
 ·cases h
theorem mD {x:D}{v:Value}(h:ZG x=true)(hv:VD g.h x v):(∀ y∈v.cells.toList,y.oneCell'=true)∧v.cells.size=x.cells.length:=by
 have hok:O7 (.d x)=true:=by
  unfold O7 ZG at *
  cases x<;>first|(simpa [V.cells,D.cells,List.all_map] using h)
 obtain⟨c1,c2,_⟩:=aW (p:=fun _=>True) hok (show VV g (.d x) v from hv) trivial
 refine⟨c2,?_⟩
 have:=c1.length
 simp only [E4] at this
 rw [← this]
 cases x<;>simp [V.cells,D.cells]
theorem DW {hh:Nat→Option Obj}{sz:Nat}:∀ {xs:List D} {us:List Value} {i:Nat} {x:D} {v:Value},aT hh sz xs us→i<xs.length→v.cells.size=sz→(∀ y∈v.cells.toList,y.oneCell'=true)→VD hh x v→
  aT hh sz (xs.set i x) (setAt us (i*sz) v.cells.toList)
 |[],us,i,x,v,_,hi,_,_,_=>by simp at hi
 |y::xs,us,0,x,v,h,_,hs,h1,hx=>by
  obtain⟨v',r,rfl,k1,k3,k4,k5⟩:=h
  refine⟨v,r,?_,hs,h1,hx,k5⟩
  have e:∀ (a b c:List Value) (pre:List Value),a.length=b.length→setAt (pre++(a++c)) pre.length b=pre++(b++c):=by
   intro a
   induction a with
   |nil=>intro b c pre hl;have:b=[]:=D3 hl.symm;subst this;rfl
   |cons a0 a ih=>
    intro b c pre hl
    cases b with
    |nil=>simp at hl
    |cons b0 b=>
     simp only [setAt]
     have e1:(pre++(a0::a++c)).set pre.length b0=(pre++[b0])++(a++c):=by simp
     rw [e1]
     have:=ih b c (pre++[b0]) (by simpa using hl)
     simp only [F9,C5] at this
     rw [this];simp
  have:=e v'.cells.toList v.cells.toList r [] (by simp [k1,hs])
  simpa using this
 |y::xs,us,i+1,x,v,h,hi,hs,h1,hx=>by
  obtain⟨v',r,rfl,k1,k3,k4,k5⟩:=h
  refine⟨v',setAt r (i*sz) v.cells.toList,?_,k1,k3,k4,DW k5 (by simpa using hi) hs h1 hx⟩
  have e:∀ (b pre c:List Value) (k:Nat),setAt (pre++c) (pre.length+k) b=pre++setAt c k b:=by
   intro b
   induction b with
   |nil=>intro pre c k;rfl
   |cons b0 b ih=>
    intro pre c k
    simp only [setAt]
    rw [List.set_append_right _ _ (by omega),show pre.length+k-pre.length=k from by omega,Nat.add_assoc,ih]
  have:=e v.cells.toList v'.cells.toList r (i*sz)
  rw [show v'.cells.toList.length+i*sz=(i+1)*sz from by rw [Nat.add_mul];simp [k1];omega] at this
  exact this
theorem cL {hh:Nat→Option Obj}{sz:Nat}{x:D}{v:Value}(hs:v.cells.size=sz)(h1:∀ y∈v.cells.toList,y.oneCell'=true)(hx:VD hh x v):∀ n:Nat,aT hh sz (List.replicate n x) (List.replicate n v.cells.toList).flatten
 |0=>rfl
 |n+1=>⟨v,_,by simp [List.replicate_succ],hs,h1,hx,cL hs h1 hx n⟩
theorem bD (z:Array Value)(hz:0<z.size)(n:Nat):(madeCells z (n*z.size)).toList=(List.replicate n z.toList).flatten:=by
 apply List.ext_getElem?
 intro j
 have hl:∀ n:Nat,(List.replicate n z.toList).flatten.length=n*z.size:=by intro n;simp
 have get:∀ (n j:Nat),j<n*z.size→(List.replicate n z.toList).flatten[j]? = z[j % z.size]?:=by
  intro n
  induction n with
  |zero=>intro j hj;omega
  |succ n ih=>
   intro j hj
   simp only [List.replicate_succ,List.flatten_cons]
   rcases Nat.lt_or_ge j z.size with hlt|hge
   ·rw [List.getElem?_append_left (by simpa using hlt),Nat.mod_eq_of_lt hlt,D0]
   ·rw [F5 (by simpa using hge),E4,ih (j-z.size) (by rw [Nat.add_mul] at hj;omega)]
    congr 1
    rw [← Nat.mod_eq_sub_mod hge]
 rcases Nat.lt_or_ge j (n*z.size) with hj|hj
 ·rw [get n j hj]
  have hm:j % z.size<z.size:=Nat.mod_lt _ hz
  simp [madeCells,hj,hm]
 ·rw [List.getElem?_eq_none (by simp [madeCells];exact hj),List.getElem?_eq_none (by rw [hl];exact hj)]
theorem oO {g':G}{x:V}{v:Value}{d:D}{fz os:List Nat}(hv:VV g x v)(hx:x.K5 p)(hd:Ee h x=some (d,fz))(hfz:∀ o∈fz,o∈os)
  (ha:I6 p g g') (hs:J2 u p g' (K8 h os) w) (hir:HM h os g g'):VD g'.h d v:=by
 match x,hv,hx,hd with
 | .tup _,_,_,hd=>simp [Ee,CM] at hd
 | .d x,hv,hx,hd=>exact Q9 (x:= .d x) hv hx hd hfz ha hs hir
 | .ptr ..,hv,hx,hd=>exact Q9 (x:= .ptr ..) hv hx hd hfz ha hs hir
 | .el ..,hv,hx,hd=>exact Q9 (x:= .el ..) hv hx hd hfz ha hs hir
 | .rp ..,hv,hx,hd=>exact Q9 (x:= .rp ..) hv hx hd hfz ha hs hir
 | .row _,hv,hx,hd=>exact Q9 (x:= .row _) hv hx hd hfz ha hs hir
 | .mp _,hv,hx,hd=>exact Q9 (x:= .mp _) hv hx hd hfz ha hs hir
 | .ir ..,hv,hx,hd=>exact Q9 (x:= .ir ..) hv hx hd hfz ha hs hir
 | .irp ..,hv,hx,hd=>exact Q9 (x:= .irp ..) hv hx hd hfz ha hs hir
 | .bp ..,_,_,hd=>simp [Ee,CM] at hd
 | .sub ..,hv,hx,hd=>exact Q9 (x:= .sub ..) hv hx hd hfz ha hs hir
 | .agg _,hv,hx,hd=>exact Q9 (x:= .agg _) hv hx hd hfz ha hs hir
 | .fn _ [],hv,hx,hd=>exact Q9 (x:= .fn _ []) hv hx hd hfz ha hs hir
 | .fn _ (_::_),hv,hx,hd=>exact Q9 (x:= .fn _ (_::_)) hv hx hd hfz ha hs hir
theorem uL {h:Nat→Option Obj}{v:Value}:∀ {t:Y2} {x:D},VD h x v→VD h (yW t x) v:=by
 intro t x hx
 cases t with
 |Z sz=>
  cases x with
  |nils a b=>
   have hx:v = .slice none 0 0:=hx
   subst hx
   exact⟨none,0,rfl,B9 _,by unfold maxLen;omega,.inl rfl⟩
  |_=>exact hx
 |_=>exact hx
theorem mZ {h:Nat→Option Obj}:∀ {ts:List Y2} {xs:List D} {vs:List Value},jV h xs vs→jV h (oC ts xs) vs
 |[],xs,_,hx=>by cases xs<;>exact hx
 |_::_,[],_,hx=>hx
 |t::ts,x::xs,_,⟨v,r,e,h1,h2⟩=>⟨v,r,e,uL h1,mZ h2⟩
theorem sO {h:Nat→Option Obj}{v:Value}{t:Ty}{x:D}(hx:VD h x v):VD h (oD t x) v:=by
 cases t with
 |leaf t=>exact uL hx
 |agg ts=>
  cases x with
  |agg cs=>
   obtain⟨us,e,h1⟩:=hx
   exact⟨us,e,mZ h1⟩
  |_=>exact hx
 |ifc t ts=>exact hx
theorem iI {g':G}{ty:Ty}{x:V}{v:Value}{d:D}{fz os:List Nat}(hv:VV g x v)(hx:x.K5 p)(hd:Mj ty h x=some (d,fz))(hfz:∀ o∈fz,o∈os)
  (ha:I6 p g g') (hs:J2 u p g' (K8 h os) w) (hir:HM h os g g'):VD g'.h d v:=by
 unfold Mj at hd
 split at hd
 ·rename_i d0 a h0
  cases hd
  exact sO (oO hv hx h0 hfz ha hs hir)
 ·cases hd
theorem fT {P:Program}{e:TypeId}{z:D}(h:uY P e=some z):∃ i zv,P.info? e=some i∧i.zero=some zv∧∀ g:Nat→Option Obj,VD g z zv:=by
 unfold uY at h
 split at h
 ·rename_i z0 hz
  cases h
  obtain⟨i,zv,h1,h2,h3⟩:=oP hz
  exact⟨i,zv,h1,h2,fun g=>sO (h3 g)⟩
 ·cases h
theorem uP (S:At u p g st a w){g':G}(ha:I6 p g g'){os:List Nat}(hs:J2 u p g' (K8 st.h os) w)(hir:HM st.h os g g'){ty:Ty}{sz:Nat}:∀ (ps:List (Nat×Operand)) (xs ys:List D) (b:List Nat) (us:Array Value),
  iF ty st.h (I1 st) sz xs ps=some (ys,b)→(∀ o∈b,o∈os)→aT g'.h sz xs us.toList→
  ∃ us',Instr.fill (fun i=>some (i*sz,sz)) us (ps.map fun x=>(x.1,a.eval x.2))=some us'∧aT g'.h sz ys us'.toList∧ys.length=xs.length
 |[],xs,ys,b,us,h,_,hf=>by
  simp only [iF,B1,C7] at h
  obtain⟨rfl,rfl⟩:=h
  exact⟨us,rfl,hf,rfl⟩
 |(k,x)::ps,xs,ys,b,us,h,hb,hf=>by
  simp only [iF] at h
  split at h
  ·rename_i d fz hd
   replace h:=H3 h
   obtain⟨hc,h⟩:=h
   simp only [A9] at hc
   obtain⟨⟨hk,hok⟩,hsz⟩:=hc
   have hk:k<xs.length:=by have h1:Nat.ble (k+1) xs.length=true:=hk;exact B3 h1
   have hsz:d.cells.length=sz:=B0 hsz
   split at h
   ·rename_i ys' b' hr
    simp only [B1,C7] at h
    obtain⟨rfl,rfl⟩:=h
    have hv:=iI (S.ev x) (S.L7 x) hd (fun o ho=>hb o (by simp [ho])) ha hs hir
    obtain⟨d1,d2⟩:=mD hok hv
    have hvs:(a.eval x).cells.size=sz:=by rw [d2,hsz]
    have hlen:=U2 hf
    simp only [E4] at hlen
    have hmul:k*sz+sz≤us.size:=by
     rw [hlen,← Nat.succ_mul];exact Nat.mul_le_mul_right _ hk
    have hf':aT g'.h sz (xs.set k d) ((a.eval x).cells.zipIdx.foldl (fun cs (x:Value×Nat)=>cs.setIfInBounds (k*sz+x.2) x.1) us).toList:=by
     rw [xX];exact DW hf hk hvs d1 hv
    obtain⟨us',k1,k2,k3⟩:=uP S ha hs hir ps _ _ _ _ hr (fun o ho=>hb o (by simp [ho])) hf'
    refine⟨us',?_,k2,by rw [k3];simp⟩
    have e1:¬ ((a.eval x).cells.size≠sz∨k*sz+(a.eval x).cells.size>us.size):=by omega
    simp only [List.map_cons,Instr.fill]
    rw [if_neg (by simpa using e1)]
    exact k1
   ·cases h
  ·cases h
theorem AZ (S:At u p g st a w)(hpq:∀ x,p x→q x){nid:Nat}(hfr:U7 p q nid){t:TypeId}{n:Nat}{ps:Array (Nat×Operand)}(ho:o.op = .buildSlice t n ps)
  (h:(match O6 P t with
  |some e=>(match uY P e with
   |some z=>bif Nat.blt 0 (K2 P e)&&jZ P e&&Nat.ble (n*K2 P e) 16777216&&ZG z&&Nat.beq z.cells.length (K2 P e) then
     (match iF (kA P e) st.h (I1 st) (K2 P e) (List.replicate n z) ps.toList with
     |some (xs,fz)=>K (.row nid) (newRow (st.freeze fz) nid e (K2 P e) xs)
     |none=>none) else none
   |none=>none)
  |none=>none)=some r):Goal u p q g st a w P o K r:=by
 split at h
 ·rename_i e he
  split at h
  ·rename_i z hz
   obtain⟨hc,h⟩:=H3 h
   simp only [A9] at hc
   obtain⟨⟨⟨⟨hpos,htok⟩,hle⟩,hok⟩,hzl⟩:=hc
   have hpos:0<K2 P e:=by have h1:Nat.ble 1 (K2 P e)=true:=hpos;exact B3 h1
   have hle:n*K2 P e≤16777216:=B3 hle
   have hzl:z.cells.length=K2 P e:=B0 hzl
   obtain⟨i,zv,hi,hzv,hV⟩:=fT hz
   have hsi:K2 P e=i.size:=by simp [K2,hi]
   split at h
   ·rename_i xs fz hput
    obtain⟨g1,a1,b1,c1,s1,i1,j1⟩:=S.hp.freeze fz
    obtain⟨z1,z2⟩:=mD (g:=g) hok (hV g.h)
    have hzs:zv.cells.size=K2 P e:=by rw [z2,hzl]
    have hmade:(madeCells zv.cells (n*K2 P e)).toList=(List.replicate n zv.cells.toList).flatten:=by
     have:=bD zv.cells (by rw [hzs];exact hpos) n
     rwa [hzs] at this
    obtain⟨us',k1,k2,k3⟩:=uP S a1 s1 i1 ps.toList _ _ _ (madeCells zv.cells (n*K2 P e)) hput (fun o ho=>ho) (by rw [hmade];exact cL hzs z1 (hV _) n)
    have hlen:=U2 k2
    simp only [E4,k3,List.length_replicate] at hlen
    have hn:n≤maxLen:=by
     have:n≤n*K2 P e:=Nat.le_mul_of_pos_right n hpos
     simp only [maxLen];omega
    have hxs:xs.length=n:=by rw [k3];simp
    have hown:=World.ownsRow_lit (e:=e) (size:=K2 P e) w us' n (C4 _) hn hlen
    obtain⟨g',m1,m2,m3,m4,m5⟩:=R7 (h':=(newRow (st.freeze fz) nid e (K2 P e) xs).h) s1 hpq hfr.zero.1 hfr.zero.2 (World.grownBy_alloc w _ none) (by rw [hxs];exact hown) hpos k2
     (fun b hb=>by cases hb) (fun b hb=>by simp only [Value.ownBlock,B1] at hb;exact .inr (by omega)) (fun o' x hx hne=>by rw [newRow,J7,if_neg hne] at hx;exact⟨hx,fun _ _ e=>by cases e⟩) (by rw [newRow,J7];simp)
    have ha:I6 p g g':=⟨fun b x e=>m1.h b x (a1.h b x e),fun x hx=>(m1.blk x hx).trans (a1.blk x hx),fun x hx=>(m1.hdr x hx).trans (a1.hdr x hx),fun x hx=>(m1.ihdr x hx).trans (a1.ihdr x hx)⟩
    refine Goal.res h (v:= .slice (some ⟨w.heap.size,0,none⟩) n n) ?_ m5 ha (Y6 ha) ⟨m4.symm,rfl⟩ hfr.zero.2 rfl rfl
    have ht:=X2 he
    rw [hsi] at hle k1
    have hk1:Instr.fill (fun i_1=>some (i_1*i.size,i.size)) (madeCells zv.cells (n*i.size)) (ps.map fun (k,x)=>(k,a.eval x)).toList=some us':=by
     rw [Array.toList_map];exact k1
    simp only [execOp,ho,Instr.buildSlice,Sem.run_bind,run_underlying ht,Result.andThen_ok,R3 hi]
    by_cases hn0:n*i.size=0
    ·have hn0':n=0:=by
      rcases Nat.eq_zero_or_pos n with h0|h0
      ·exact h0
      ·have hpi:0<i.size:=by rw [← hsi];exact hpos
       have:=Nat.mul_pos h0 hpi;omega
     have e1:madeCells zv.cells (n*i.size)=#[]:=by rw [hn0];simp [madeCells]
     rw [e1] at hk1
     subst hn0'
     rw [Array.toList_map] at hk1
     have e0:(Array.range 0).map (fun _:Nat=>(default:Value))=#[]:=by simp
     simp [e0,hk1,Go.newRow]
    ·have hle':¬ (n*i.size>2 ^ 24):=by omega
     simp [hle',hn0,zeroValue,typeInfo,hi,hzv,Go.newRow]
     have e2:(Array.range (n*i.size)).map (fun x=>zv.cells[x % zv.cells.size]!)=madeCells zv.cells (n*i.size):=rfl
     simp [madeCells] at hk1
     simp [hk1]
   ·cases h
  ·cases h
 ·cases h
end
end Go.AE
namespace Go.AE
open Go.RowKit
section
variable {u:Nat→Option Obj} {p q:Nat→Prop} {g:G} {st:St} {h h':Nat→Option Ob} {a:Act} {w w':World} {P:Program} {o:Oper} {R:Type} {K:V→St→Option R} {r:R}
theorem tJ {α:Type}:∀ (b pre c:List α) (k:Nat),setAt (pre++c) (pre.length+k) b=pre++setAt c k b
 |[],pre,c,k=>rfl
 |b0::b,pre,c,k=>by
  simp only [setAt]
  rw [List.set_append_right _ _ (by omega),show pre.length+k-pre.length=k from by omega,Nat.add_assoc,tJ b]
theorem oM {α:Type}:∀ (b c post:List α) (k:Nat),k+b.length≤c.length→setAt (c++post) k b=setAt c k b++post
 |[],c,post,k,_=>rfl
 |b0::b,c,post,k,h=>by
  simp only [setAt]
  simp only [A0] at h
  rw [List.set_append_left _ _ (by omega),oM b _ _ _ (by simp;omega)]
theorem DE {α:Type}:∀ (b c:List α),c.length=b.length→setAt c 0 b=b:=by
 intro b c h
 have:=setAt_eq0 b c [] h
 simpa using this
where
 setAt_eq0 {α:Type}:∀ (b c pre:List α),c.length=b.length→setAt (pre++c) pre.length b=pre++b
 |[],c,pre,h=>by have:c=[]:=D3 h;subst this;rfl
 |b0::b,c,pre,h=>by
  cases c with
  |nil=>simp at h
  |cons c0 c=>
   simp only [setAt]
   have e1:(pre++c0::c).set pre.length b0=(pre++[b0])++c:=by simp
   rw [e1]
   have:=setAt_eq0 b c (pre++[b0]) (by simpa using h)
   simp only [F9,C5] at this
   rw [this];simp
theorem jM {α:Type}:∀ (b c:List α) (k m:Nat),(setAt c k b).take m=setAt (c.take m) k b
 |[],c,k,m=>rfl
 |b0::b,c,k,m=>by simp only [setAt];rw [jM b,List.take_set]
theorem zR {α:Type}:∀ (b c:List α) (k:Nat),k+b.length≤c.length→setAt c k b=c.take k++b++c.drop (k+b.length):=by
 intro b c k h
 have h1:c=c.take k++((c.drop k).take b.length++c.drop (k+b.length)):=by
  rw [← List.drop_drop,List.take_append_drop,List.take_append_drop]
 have hl:(c.take k).length=k:=by simp;omega
 have e:=tJ b (c.take k) ((c.drop k).take b.length++c.drop (k+b.length)) 0
 rw [← h1,hl,Nat.add_zero] at e
 rw [e,oM _ _ _ _ (by simp;omega),DE _ _ (by simp;omega),C1]
theorem BL {hh:Nat→Option Obj}{sz:Nat}:∀ {xs:List D} {us:List Value} {i:Nat},aT hh sz xs us→i<xs.length→
  ∃ (pre:List Value) (v:Value) (post:List Value),us=pre++(v.cells.toList++post)∧pre.length=i*sz∧v.cells.size=sz∧(∀ y∈v.cells.toList,y.oneCell'=true)∧VD hh (xs[i]?.getD .top) v∧
   ∀ (x':D) (v':Value),v'.cells.size=sz→(∀ y∈v'.cells.toList,y.oneCell'=true)→VD hh x' v'→aT hh sz (xs.set i x') (pre++(v'.cells.toList++post))
 |[],us,i,_,hi=>by simp at hi
 |x::xs,us,0,h,_=>by
  obtain⟨v,r,rfl,k1,k3,k4,k5⟩:=h
  exact⟨[],v,r,rfl,by simp,k1,k3,k4,fun x' v' h1 h2 h3=>⟨v',r,rfl,h1,h2,h3,k5⟩⟩
 |x::xs,us,i+1,h,hi=>by
  obtain⟨v,r,rfl,k1,k3,k4,k5⟩:=h
  obtain⟨pre,v1,post,rfl,e1,e2,e3,e4,e5⟩:=BL (i:=i) k5 (by simpa using hi)
  refine⟨v.cells.toList++pre,v1,post,by simp,by simp [k1,e1,Nat.add_mul];omega,e2,e3,by simpa using e4,fun x' v' h1 h2 h3=>?_⟩
  exact⟨v,pre++(v'.cells.toList++post),by simp,k1,k3,k4,e5 x' v' h1 h2 h3⟩
theorem Z0 {t:TypeId}{info:TypeInfo}(hinfo:P.info? t=some info){b off:Nat}{c:Array Value}{e:TypeId}{v:Value}(hb:w.heap[b]? = some (.cells c e (0,0)))(hsz:v.cells.size=info.size)
  (hle:off+v.cells.size≤c.size) (h1:∀ y∈v.cells.toList,y.oneCell'=true) :
  (storeVar t ⟨b,off,none⟩ v).run P w = .ok () (w.setRow b (setAt c.toList off v.cells.toList).toArray):=by
 have hst:=run_storeCells_at P b off e v.cells.toList 0 c w hb (by simpa using hle) h1
 simp only [Nat.add_zero] at hst
 rw [← zR _ _ _ (by simpa using hle)] at hst
 simp only [storeVar,Sem.run_bind,R3 hinfo,Result.andThen_ok]
 simp [hsz,hst]
theorem X3 {g':G}(ha:I6 p g g')(b:Nat)(cs:Array Value):Ext g w g' (w.setRow b cs):=⟨ha.h,rfl,rfl,rfl,by simp [World.setRow]⟩
theorem IH {g':G}(ha:V7 p g g')(b:Nat)(cs:Array Value):Ext g w g' (w.setRow b cs):=⟨ha.h,rfl,rfl,rfl,by simp [World.setRow]⟩
theorem jQ (S:J2 u p g h w){no:Nat}{cs cs':List V}{c c':Array Value}{e:TypeId}(ho:h no=some (.var cs))(hb:w.heap[g.blk no]? = some (.cells c e (0,0)))
  (hF:F2 (VA g) cs' c'.toList) (h1:∀ y∈c'.toList,y.oneCell'=true) (hu:∀ v∈cs',v.K7 p) (hbp:∀ t o' f,V.bp t o' f∈cs'→e=t) (hh:∀ x,h' x=if x=no then some (.var cs') else h x) :
  J2 u p g h' (w.setRow (g.blk no) c'):=by
 refine S.update (I6.refl p g) rfl (some (g.blk no)) (fun k _ hk=>setRow_other w _ k _ (fun e=>hk (by rw [e]))) (fun b hb=>?_) (fun _ h=>h) no ?_ ?_
 ·cases hb
  exact S.sep no _ _ ho rfl
 ·intro o' x hx hne
  rw [hh,if_neg hne] at hx
  refine⟨hx,fun b hb e=>?_⟩
  cases e
  exact hne (S.inj o' no _ _ _ hx ho hb rfl)
 ·intro x hx
  rw [hh,if_pos rfl] at hx
  cases hx
  refine⟨⟨c',e,setRow_heap w _ c c' e (0,0) hb,hF,h1,hbp⟩,fun b hb=>?_,(S.use _ _ ho).1,hu⟩
  simp only [S9] at hb
  exact .inl (by rw [hb])
theorem rB (S:J2 u p g h w){no e sz:Nat}{xs:List D}(ho:h no=some (.row e sz xs false)){b:Nat}(hb:(g.hdr no).ownBlock=some b) :
  ∃ (cap:Nat) (cur:Array Value),0<sz∧g.hdr no = .slice (some ⟨b,0,none⟩) xs.length cap∧w.heap[b]? = some (.cells cur e (0,0))∧xs.length≤cap∧cap≤maxLen∧cur.size=cap*sz∧aT g.h sz xs (cur.toList.take (xs.length*sz)):=by
 obtain⟨us,hsz,h1,h2⟩:=S.ob _ _ ho
 rcases J0 h1 with ⟨k,_,_⟩|⟨b',cap,cur,k1,k2,k3,k4,k5,k6,_⟩
 ·rw [k] at hb;simp [Value.ownBlock] at hb
 ·rw [k1] at hb
  simp only [Value.ownBlock,B1] at hb
  subst hb
  exact⟨cap,cur,hsz,k1,k2,k3,k4,k5,by rw [k6];exact h2⟩
theorem oL (S:J2 u p g h w){no e sz:Nat}{xs xs':List D}(ho:h no=some (.row e sz xs false)){b:Nat}(hb:(g.hdr no).ownBlock=some b){cur c':Array Value}(hcur:w.heap[b]? = some (.cells cur e (0,0)))
  (hsz:c'.size=cur.size) (hlen:xs'.length=xs.length) (hf:aT g.h sz xs' (c'.toList.take (xs.length*sz))) (hh:∀ x,h' x=if x=no then some (.row e sz xs' false) else h x) :
  J2 u p g h' (w.setRow b c'):=by
 obtain⟨cap,cur',hsz0,k1,k2,k3,k4,k5,k6⟩:=rB S ho hb
 rw [hcur] at k2
 simp only [B1,Obj.cells.injEq,and_true] at k2
 subst k2
 refine S.update (I6.refl p g) rfl (some b) (fun k _ hk=>setRow_other w _ k _ (fun e=>hk (by rw [e]))) (fun b' hb'=>?_) (fun _ h=>h) no ?_ ?_
 ·cases hb'
  exact S.sep no _ _ ho hb
 ·intro o' x hx hne
  rw [hh,if_neg hne] at hx
  refine⟨hx,fun b' hb' e=>?_⟩
  cases e
  exact hne (S.inj o' no _ _ _ hx ho hb' hb)
 ·intro x hx
  rw [hh,if_pos rfl] at hx
  cases hx
  have hlf:=U2 hf
  refine⟨⟨_,hsz0,⟨?_,.inr ⟨b,cap,c',by rw [hlen];exact k1,C4 _,setRow_heap w b cur c' e (0,0) hcur,by rw [hlen];exact k3,k4,by rw [hsz];exact k5,?_⟩⟩,hf⟩,fun b' hb'=>?_,(S.use _ _ ho).1,trivial⟩
  ·exact hlf
  ·rw [hlen]
  ·simp only [S9] at hb'
   rw [hb] at hb'
   exact .inl hb'.symm
theorem JY {α:Type}:∀ {us:List α} {i:Nat} {v:α},us[i]? = some v→us.set i v=us
 |[],_,_,h=>by simp at h
 |u::us,0,v,h=>by simp at h;subst h;rfl
 |u::us,i+1,v,h=>by
  show u::us.set i v=_
  rw [JY (by simpa using h)]
theorem qY {e sz n b:Nat}{v:Value}{us:List Value}(h:w.ownsRow 0 e sz v n us)(hb:v.ownBlock=some b):∃ cur:Array Value,w.heap[b]? = some (.cells cur e (0,0))∧n*sz≤cur.size∧
  ∀ off (ys:List Value),(w.setRow b (setAt cur.toList off ys).toArray).ownsRow 0 e sz v n (setAt us off ys):=by
 rcases J0 h with ⟨h1,_⟩|⟨b',cap,cur,h1,h3,h4,h5,h6,h7,h8⟩
 ·rw [h1] at hb;cases hb
 ·rw [h1] at hb ⊢
  simp only [Value.ownBlock,B1] at hb
  subst hb
  refine⟨cur,h3,by rw [h6];exact Nat.mul_le_mul_right _ h4,fun off ys=>⟨by rw [Z1];exact h8,.inr ⟨b',cap,_,rfl,C4 _,setRow_heap w b' cur _ e (0,0) h3,h4,h5,by simp [Z1,h6],?_⟩⟩⟩
  simp only []
  rw [jM,h7]
theorem X9 {e sz n b:Nat}{v:Value}{us:List Value}{c:Array Value}(h:w.ownsRow 0 e sz v n us)(hb:v.ownBlock≠some b):(w.setRow b c).ownsRow 0 e sz v n us:=
 cN (fun k hk=>setRow_other w _ k _ fun e=>hb (by rw [hk,e])) h
theorem Br (S:J2 u p g h w){no e ie sz b i m1 m2:Nat}{xs:List D}(ho:h no=some (.nst e ie sz xs))(hb:(g.hdr no).ownBlock=some b)(hx:xs[i]? = some (.nils m1 m2)){cur:Array Value}(hcur:w.heap[b]? = some (.cells cur e (0,0))) :
  J2 u p g h (w.setRow b (setAt cur.toList i [Value.slice none 0 0]).toArray):=by
 obtain⟨h0,⟨us,h1,hN⟩,hD⟩:=S.ob _ _ ho
 obtain⟨cur',k1,k2,k3⟩:=qY h1 hb
 rw [hcur] at k1
 simp only [B1,Obj.cells.injEq,and_true] at k1
 subst k1
 refine S.wB (I6.refl p g) rfl (S9 g no (.nst e ie sz xs)) (fun k _ hk=>setRow_other w _ k _ (fun e=>hk (.inl (by rw [e];exact hb)))) (fun b' hb'=>S.sep no _ _ ho hb') (fun _ h=>h) no (fun o' x hx' hne=>⟨hx',fun b' hb' e=>hne (S.inj o' no _ _ _ hx' ho hb' e)⟩) ?_
 intro x hx'
 rw [ho] at hx'
 cases hx'
 refine⟨⟨h0,⟨_,k3 i _,fun j y hy=>?_⟩,hD⟩,fun b' hb'=> .inl hb',(S.use _ _ ho).1,trivial⟩
 obtain⟨v,hv,k⟩:=hN j y hy
 have hus:setAt us i [Value.slice none 0 0]=us:=by
  obtain⟨v',hv',k'⟩:=hN i _ hx
  rcases k' with ⟨_,_,_,rfl,_⟩|⟨_,_,k',_⟩
  ·exact JY hv'
  ·cases k'
 rw [hus]
 refine⟨v,hv,?_⟩
 rcases k with k|⟨ys,vs,l1,l2,l3,l4,l5,l6⟩
 ·exact .inl k
 ·exact .inr ⟨ys,vs,l1,l2,l3,l4,X9 l5 (fun hbb=>(hD j v b (List.getElem?_eq_some_iff.1 hy).1 l3 hbb).1 hb),l6⟩
theorem Bs (S:J2 u p g h w){no o' e ie sz b i m1 m2:Nat}{xs ys:List D}(ho:h no=some (.nst e ie sz xs))(hb:(g.hdr no).ownBlock=some b)(hx:xs[i]? = some (.nils m1 m2)){cur:Array Value}(hcur:w.heap[b]? = some (.cells cur e (0,0)))
  (hro:h o'=some (.row ie sz ys false)) (hne:ys≠[]) (hoo:no≠o') (hone:(g.hdr o').oneCell'=true) (hh:∀ x,h' x=if x=no then some (.nst e ie sz (xs.set i (.Z sz ys))) else if x=o' then none else h x) :
  ∃ g',V7 p g g'∧J2 u p g' h' (w.setRow b (setAt cur.toList i [g.hdr o']).toArray)∧∀ o,o≠no→g'.ihdr o=g.ihdr o:=by
 obtain⟨h0,⟨us,h1,hN⟩,hD⟩:=S.ob _ _ ho
 obtain⟨vs,hsz,r1,r2⟩:=S.ob _ _ hro
 obtain⟨cur',k1,k2,k3⟩:=qY h1 hb
 rw [hcur] at k1
 simp only [B1,Obj.cells.injEq,and_true] at k1
 subst k1
 have hi:i<xs.length:=(List.getElem?_eq_some_iff.1 hx).1
 have hlen:us.length=xs.length:=by have:=h1.1;omega
 have hnone:g.ihdr no i=none:=by
  obtain⟨v',hv',k'⟩:=hN i _ hx
  rcases k' with ⟨_,_,_,_,k'⟩|⟨_,_,k',_⟩
  ·exact k'
  ·cases k'
 have apart:∀ b',(g.hdr o').ownBlock=some b'→¬ S9 g no (.nst e ie sz xs) b':=fun b' k k'=>hoo (S.inj no o' _ _ _ ho hro k' k)
 let g':G:=⟨g.h,g.blk,g.hdr,fun o j=>if o=no∧j=i then some (g.hdr o') else g.ihdr o j⟩
 have gi:g'.ihdr no i=some (g.hdr o'):=if_pos ⟨rfl,rfl⟩
 have gn:∀ o j,¬ (o=no∧j=i)→g'.ihdr o j=g.ihdr o j:=fun o j k=>if_neg k
 have ha:V7 p g g':=⟨fun _ _ k=>k,fun _ _=>rfl,fun _ _=>rfl,fun o _ j v k=>by
  rw [gn o j fun e=>by rw [e.1,e.2,hnone] at k;cases k];exact k⟩
 refine⟨g',ha,S.wB ha rfl (fun k=>S9 g no (.nst e ie sz xs) k∨(g.hdr o').ownBlock=some k) (fun k _ hk=>setRow_other w _ k _ (fun e=>hk (.inl (.inl (by rw [e];exact hb))))) (fun b' hb'=>?_) (fun _ h=>h) no (fun x ob hx' hne'=>?_) (fun x hx'=>?_) (fun x hx' j=>gn x j fun e=>hx' e.1),fun x hx'=>funext fun j=>gn x j fun e=>hx' e.1⟩
 ·rcases hb' with hb'|hb'
  ·exact S.sep no _ _ ho hb'
  ·exact S.sep o' _ _ hro hb'
 ·rw [hh,if_neg hne'] at hx'
  split at hx'
  ·cases hx'
  ·rename_i hxo
   refine⟨hx',fun b' hb' e=>?_⟩
   rcases e with e|e
   ·exact hne' (S.inj x no _ _ _ hx' ho hb' e)
   ·exact hxo (S.inj x o' _ _ _ hx' hro hb' e)
 ·rw [hh,if_pos rfl] at hx'
  cases hx'
  refine⟨⟨h0,⟨_,by rw [List.length_set];exact k3 i _,fun j y hy=>?_⟩,?_⟩,fun b' hb'=>?_,(S.use _ _ ho).1,trivial⟩
  ·show ∃ u,(us.set i (g.hdr o'))[j]? = some u∧_
   by_cases e:j=i
   ·subst e
    rw [List.getElem?_set_self hi] at hy
    cases hy
    refine⟨_,List.getElem?_set_self (by omega),.inr ⟨ys,vs,rfl,hne,gi,hone,X9 r1 fun k=>apart b k (.inl hb),r2⟩⟩
   ·rw [List.getElem?_set_ne (fun k=>e k.symm)] at hy
    obtain⟨v,hv,k⟩:=hN j y hy
    refine⟨v,by rw [List.getElem?_set_ne (fun k=>e k.symm)];exact hv,?_⟩
    rcases k with ⟨a1,a2,a3,a4,a5⟩|⟨zs,ws,l1,l2,l3,l4,l5,l6⟩
    ·exact .inl ⟨a1,a2,a3,a4,by rw [gn no j fun k=>e k.2];exact a5⟩
    ·exact .inr ⟨zs,ws,l1,l2,by rw [gn no j fun k=>e k.2];exact l3,l4,X9 l5 (fun hbb=>(hD j v b (List.getElem?_eq_some_iff.1 hy).1 l3 hbb).1 hb),l6⟩
  ·intro i0 v0 b0 hi0 hv0 hb0
   rw [List.length_set] at hi0 ⊢
   by_cases e:i0=i
   ·subst e
    rw [gi] at hv0
    cases hv0
    refine⟨fun k=>apart b0 hb0 (.inl k),fun j v' hj hv' hb'=>?_⟩
    by_cases ej:j=i0
    ·exact ej
    ·rw [gn no j fun k=>ej k.2] at hv'
     exact absurd (.inr ⟨j,v',hj,hv',hb'⟩) (apart b0 hb0)
   ·rw [gn no i0 fun k=>e k.2] at hv0
    obtain⟨d1,d2⟩:=hD i0 v0 b0 hi0 hv0 hb0
    refine⟨d1,fun j v' hj hv' hb'=>?_⟩
    by_cases ej:j=i
    ·subst ej
     rw [gi] at hv'
     cases hv'
     exact absurd (.inr ⟨i0,v0,hi0,hv0,hb0⟩) (apart b0 hb')
    ·rw [gn no j fun k=>ej k.2] at hv'
     exact d2 j v' hj hv' hb'
  ·rcases hb' with hb'|⟨j,v',hj,hv',hb'⟩
   ·exact .inl (.inl (.inl hb'))
   ·rw [List.length_set] at hj
    by_cases ej:j=i
    ·subst ej
     rw [gi] at hv'
     cases hv'
     exact .inl (.inr hb')
    ·rw [gn no j fun k=>ej k.2] at hv'
     exact .inl (.inl (.inr ⟨j,v',hj,hv',hb'⟩))
theorem Bt (S:J2 u p g h w){no e ie sz b i j:Nat}{xs ys:List D}{v v1:Value}{x:D}(ho:h no=some (.nst e ie sz xs))(hx:xs[i]? = some (.Z sz ys))(hv:g.ihdr no i=some v)(hb:v.ownBlock=some b)(hj:j<ys.length){vs:List Value}
  (l5:w.ownsRow 0 ie sz v ys.length vs) (l6:aT g.h sz ys vs) (hone:v.oneCell'=true) {cur:Array Value} (hcur:w.heap[b]? = some (.cells cur ie (0,0))) (d1:∀ y∈v1.cells.toList,y.oneCell'=true) (d2:v1.cells.size=sz) (d3:VD g.h x v1)
  (hh:∀ x',h' x'=if x'=no then some (.nst e ie sz (xs.set i (.Z sz (ys.set j x)))) else h x') :
  J2 u p g h' (w.setRow b (setAt cur.toList (j*sz) v1.cells.toList).toArray):=by
 obtain⟨h0,⟨us,h1,hN⟩,hD⟩:=S.ob _ _ ho
 have hi:i<xs.length:=(List.getElem?_eq_some_iff.1 hx).1
 obtain⟨cur',k1,k2,k3⟩:=qY l5 hb
 rw [hcur] at k1
 simp only [B1,Obj.cells.injEq,and_true] at k1
 subst k1
 obtain⟨D1,D2⟩:=hD i v b hi hv hb
 refine S.wB (I6.refl p g) rfl (S9 g no (.nst e ie sz xs)) (fun k _ hk=>setRow_other w _ k _ (fun e=>hk (.inr ⟨i,v,hi,hv,by rw [e];exact hb⟩))) (fun b' hb'=>S.sep no _ _ ho hb') (fun _ h=>h) no (fun o' x' hx' hne=>by
  rw [hh,if_neg hne] at hx'
  exact⟨hx',fun b' hb' e=>hne (S.inj o' no _ _ _ hx' ho hb' e)⟩) ?_
 intro x' hx'
 rw [hh,if_pos rfl] at hx'
 cases hx'
 refine⟨⟨h0,⟨us,by rw [List.length_set];exact X9 h1 D1,fun j' y hy=>?_⟩,by simpa only [List.length_set] using hD⟩,fun b' hb'=> .inl (by simpa only [S9,List.length_set] using hb'),(S.use _ _ ho).1,trivial⟩
 by_cases e:j'=i
 ·subst e
  rw [List.getElem?_set_self hi] at hy
  cases hy
  obtain⟨v',hv',k⟩:=hN j' _ hx
  rcases k with ⟨_,_,k,_⟩|⟨zs,ws,_,m2,m3,_⟩
  ·cases k
  ·rw [hv] at m3
   cases m3
   exact⟨v,hv',.inr ⟨_,_,rfl,(fun e=>by
    have h9:ys=[]:=by simpa using congrArg List.length e
    rw [h9] at hj
    simp at hj),hv,hone,by rw [List.length_set];exact k3 (j*sz) _,DW l6 hj d2 d1 d3⟩⟩
 ·rw [List.getElem?_set_ne (fun k=>e k.symm)] at hy
  obtain⟨v',hv',k⟩:=hN j' y hy
  refine⟨v',hv',?_⟩
  rcases k with k|⟨zs,ws,m1,m2,m3,m4,m5,m6⟩
  ·exact .inl k
  ·exact .inr ⟨zs,ws,m1,m2,m3,m4,X9 m5 (fun hbb=>e (D2 j' v' (List.getElem?_eq_some_iff.1 hy).1 m3 hbb)),m6⟩
theorem KG {P:Program}{t:TypeId}{v:V}{x:Value}(h:VA g v x):VA g (Y1 P t v) x:=by
 unfold Y1
 split
 ·split
  ·exact h
  ·exact h
 ·exact h
theorem BG {P:Program}{t:TypeId}{v:V}{q:Nat→Prop}(h:v.K7 q):(Y1 P t v).K7 q:=by
 unfold Y1
 split
 ·split<;>trivial
 ·exact h
theorem AB {P:Program}{t:TypeId}{v:V}(h:W8 v=true):W8 (Y1 P t v)=true:=by
 unfold Y1
 split
 ·split<;>rfl
 ·exact h
theorem XH (S:At u p g st a w)(hpq:∀ x,p x→q x){nid:Nat}(hfr:U7 p q nid){t:TypeId}{x y:Operand}(ho:o.op = .store t x y)
  {ow:Bool} (h:tK P ow t (I1 st x) (I1 st y) nid st K=some r):Goal u p q g st a w P o K r:=by
 have hvx:=S.ev x
 have hvy:=S.ev y
 have huy:=S.L7 y
 unfold tK at h
 obtain⟨ht,h⟩:=I2 h
 have ht:jZ P t=true:=by simpa using ht
 obtain⟨d,info,hd,hinfo,hg,hs⟩:=R4 ht
 have exec:∀ (ad:Addr) (w':World),a.eval x = .pointer (some ad)→(storeVar t ad (a.eval y)).run P w = .ok () w'→(execOp a.eval o).run P w = .ok .skip w':=by
  intro ad w' e1 e2
  simp only [execOp,ho,Instr.storeAt,e1,Instr.sureAddr]
  simp [e2]
 split at h
 ·rename_i no off he
  rw [he] at hvx
  have hvx:=rN hvx
  split at h
  ·rename_i cs hcs
   obtain⟨c,e,hb,hF,h1,hbp⟩:=S.hp.ob _ _ hcs
   have hlen:=hF.length
   simp only [E4] at hlen
   have hpno:p no:=(S.hp.use _ _ hcs).1
   have hne:no≠nid:=fun e=>hfr.zero.1 (e▸hpno)
   cases hag:J5 P t with
   |true=>
    rw [hag] at h
    simp only [cond_true] at h
    obtain⟨hc,h⟩:=H3 h
    simp only [A9] at hc
    obtain⟨⟨hok,hsz⟩,hle⟩:=hc
    have hsz:(I1 st y).cells.length=K2 P t:=B0 hsz
    have hle:off+(I1 st y).cells.length≤cs.length:=B3 hle
    obtain⟨c1,c2,c3⟩:=aW hok hvy huy
    have hl:=c1.length
    simp only [E4] at hl
    have hrun:=Z0 (P:=P) (v:=a.eval y) hinfo hb (by omega) (off:=off) (by omega) c2
    have hsim:=jQ (h':=(st.M7 no (some (.var (setAt cs off (I1 st y).cells)))).h) (c':=(setAt c.toList off (a.eval y).cells.toList).toArray) S.hp hcs hb (by simpa using c1.setAt off hF)
     (by intro z hz;rcases Y7 _ _ _ _ (by simpa using hz) with hz|hz;exact h1 z hz;exact c2 z hz)
     (by intro z hz;rcases Y7 _ _ _ _ hz with hz|hz;exact (S.hp.use _ _ hcs).2 z hz;exact c3 z hz)
     (by intro t' o' f hz;rcases Y7 _ _ _ _ hz with hz|hz;exact hbp _ _ _ hz;exact absurd hz (fJ hok)) (fun x=>J7 _ _ _ _)
    exact Goal.skip h (exec _ _ hvx hrun) (hsim.more hpq) (I6.refl p g) (X3 (I6.refl p g) _ _) rfl rfl
   |false=>
    rw [hag] at h
    simp only [cond_false] at h
    obtain⟨hc,h⟩:=H3 h
    simp only [A9] at hc
    obtain⟨⟨hc1,hsz⟩,hlt⟩:=hc
    have hsz:K2 P t=1:=B0 hsz
    have hlt:off<cs.length:=by have h1:Nat.ble (off+1) cs.length=true:=hlt;exact B3 h1
    have hone:=rR hc1 hvy
    have hcy:=aK hone
    have hrun:=Z0 (P:=P) (v:=a.eval y) hinfo hb (by rw [hcy];simp;omega) (off:=off) (by rw [hcy];simp;omega) (by rw [hcy];simpa using hone)
    rw [hcy] at hrun
    have main:∀ (g1:G) (vv1:V) (L9:St),J2 u q g1 L9.h w→I6 p g g1→g1.h=g.h→g1.blk=g.blk→VA g1 vv1 (a.eval y)→vv1.K7 q→W8 vv1=true→L9.t=st.t→L9.m=st.m→L9.h no=st.h no→
      K .top (L9.M7 no (some (.var (setAt cs off [vv1]))))=some r→Goal u p q g st a w P o K r:=by
     intro g1 vv1 L9 s1 a1 a2 a3 a4 a5 a5c a6 a7 a8 h
     have hcs1:L9.h no=some (.var cs):=by rw [a8];exact hcs
     have hF1:F2 (VA g1) cs c.toList:=hF.mono fun c hc b hb=>VA.agree a1 ((S.hp.use _ _ hcs).2 c hc) hb
     have hb1:w.heap[g1.blk no]? = some (.cells c e (0,0)):=by rw [a3];exact hb
     have hsim:=jQ (h':=(L9.M7 no (some (.var (setAt cs off [vv1])))).h) (c':=(setAt c.toList off [a.eval y]).toArray) s1 hcs1 hb1 (by simpa using (F2.cons a4 .nil).setAt off hF1)
      (by intro z hz;rcases Y7 _ _ _ _ (by simpa using hz) with hz|hz;exact h1 z hz;simp at hz;subst hz;exact hone)
      (by intro z hz;rcases Y7 _ _ _ _ hz with hz|hz;exact ((S.hp.use _ _ hcs).2 z hz).mono hpq;simp at hz;subst hz;exact a5)
      (by intro t' o' f hz;rcases Y7 _ _ _ _ hz with hz|hz;exact hbp _ _ _ hz;simp at hz;rw [← hz] at a5c;cases a5c) (fun x=>J7 _ _ _ _)
     rw [a3] at hsim
     exact Goal.skip h (exec _ _ hvx hrun) hsim a1 (X3 a1 _ _) a6 a7
    cases hn1:(Nat.beq cs.length 1||ow) with
    |true=>
     rw [hn1] at h
     simp only [cond_true] at h
     obtain⟨g1,vv1,L9,k1,k2,k3,k4,k5,k6,k7,k8,k9,Fq,_,Wc,Wd⟩:=GK S.hp hpq hfr.zero.1 hfr.zero.2 hvy huy h
     obtain⟨We,Wf⟩:=Wd hc1
     exact main g1 vv1 L9 k2 k3 k4 k5 Wf We (Wc hc1) k8 k9 (Fq no hne) k1
    |false=>
     rw [hn1] at h
     simp only [cond_false] at h
     have hVA:VA g (I1 st y) (a.eval y)∧(I1 st y).K7 p:=by
      match I1 st y,hc1,hvy,huy with
      | .d (.agg _),hc,_,_=>simp [W8] at hc
      | .agg _,hc,_,_=>simp [W8] at hc
      | .tup _,hc,_,_=>simp [W8] at hc
      | .d _,_,hv,_=>exact⟨hv,trivial⟩
      | .ptr ..,_,hv,hu=>exact⟨hv,hu⟩
      | .el ..,_,hv,hu=>exact⟨hv,trivial⟩
      | .rp ..,_,hv,hu=>exact⟨hv,hu⟩
      | .row _,_,hv,hu=>exact⟨hv,hu⟩
      | .mp _,_,hv,hu=>exact⟨hv,hu⟩
      | .ir ..,_,hv,hu=>exact⟨hv,hu⟩
      | .irp ..,_,hv,hu=>exact⟨hv,hu⟩
      | .bp ..,hc,_,_=>simp [W8] at hc
      | .sub ..,_,hv,hu=>exact⟨hv,hu⟩
      | .fn _ [],_,hv,hu=>exact⟨hv,hu⟩
      | .fn _ (_::_),_,hv,hu=>exact⟨hv,hu⟩
     exact main g _ st (S.hp.more hpq) (I6.refl p g) rfl rfl (KG hVA.1) (BG (hVA.2.mono hpq)) (AB hc1) rfl rfl rfl h
  ·cases h
 ·rename_i no sz i off he
  rw [he] at hvx
  obtain⟨hi,b,hbk,hvx⟩:=hvx
  split at h
  ·rename_i e sz' xs hrow
   replace h:=H3 h
   obtain⟨hsz0,h⟩:=h
   have hsz0:sz=sz':=B0 hsz0
   subst hsz0
   rw [gE (S.hp.ob _ _ hrow)] at hi
   split at h
   ·rename_i d' fz hd'
    obtain⟨hc,h⟩:=I2 h
    rw [Bool.not_eq_false'] at hc
    simp only [A9,E1] at hc
    obtain⟨⟨hok,hdl⟩,hfz⟩:=hc
    have hdl:d'.cells.length=K2 P t:=B0 hdl
    have hnot:no∉fz:=by
     intro hm
     have:fz.any (Nat.beq no)=true:=List.any_eq_true.2 ⟨no,hm,Nat.beq_refl no⟩
     rw [hfz] at this;cases this
    obtain⟨g1,a1,b1,c1,s1,i1,j1⟩:=S.hp.freeze fz
    have hrow1:K8 st.h fz no=some (.row e sz xs false):=by rw [aN _ _ _ hnot];exact hrow
    have hv:=iI hvy huy hd' (fun o ho=>ho) a1 s1 i1
    obtain⟨d1,d2⟩:=mD hok hv
    rw [← c1] at hbk
    obtain⟨cap,cur,hsz0,k1,k2,k3,k4,k5,k6⟩:=rB s1 hrow1 hbk
    obtain⟨pre,v,post,e1,e2,e3,e4,e5,e6⟩:=BL k6 hi
    have hle:i*sz+sz≤xs.length*sz:=by rw [← Nat.succ_mul];exact Nat.mul_le_mul_right _ hi
    have hle2:xs.length*sz≤cap*sz:=Nat.mul_le_mul_right _ k3
    have main:∀ (x':D),off+K2 P t≤sz→aT g1.h sz (xs.set i x') (pre++(setAt v.cells.toList off (a.eval y).cells.toList++post))→
      K .top ((st.freeze fz).M7 no (some (.row e sz (xs.set i x') false)))=some r→Goal u p q g st a w P o K r:=by
     intro x' hoff hf h
     have hrun:=Z0 (P:=P) (v:=a.eval y) hinfo k2 (by omega) (off:=i*sz+off) (by omega) d1
     have hsim:=oL (h':=((st.freeze fz).M7 no (some (.row e sz (xs.set i x') false))).h) (xs':=xs.set i x') (c':=(setAt cur.toList (i*sz+off) (a.eval y).cells.toList).toArray) s1 hrow1 hbk k2 (by simp [Z1]) (by simp) (by
       simp only []
       rw [jM,e1,← e2,tJ,oM _ _ _ _ (by simp;omega)]
       exact hf) (fun x=>J7 _ _ _ _)
     exact Goal.skip h (exec _ _ hvx hrun) (hsim.more hpq) a1 (X3 a1 _ _) rfl rfl
    cases hwhole:(Nat.beq off 0&&Nat.beq (K2 P t) sz) with
    |true=>
     rw [hwhole] at h
     simp only [cond_true] at h
     simp only [A9] at hwhole
     have h0:off=0:=B0 hwhole.1
     have hsz1:K2 P t=sz:=B0 hwhole.2
     refine main d' (by omega) ?_ h
     rw [h0,DE _ _ (by simp;omega)]
     exact e6 d' (a.eval y) (by omega) d1 hv
    |false=>
     rw [hwhole] at h
     simp only [cond_false] at h
     obtain⟨hoff,h⟩:=H3 h
     have hoff:off+K2 P t≤sz:=B3 hoff
     obtain⟨hty,h⟩:=H3 h
     simp only [A9] at hty
     obtain⟨⟨hty,hage⟩,_⟩:=hty
     rw [HD hage] at hty
     refine main (KI (xs[i]?.getD .top) off d') hoff ?_ h
     generalize hx:xs[i]?.getD D.top=xi at *
     match xi,hty,e5 with
     | .agg cs,_,e5=>
      obtain⟨us,rfl,hcs⟩:=e5
      have hyd:jV g1.h d'.cells (a.eval y).cells.toList:=by
       have hok':O7 (.d d')=true:=by
        unfold O7 ZG at *
        cases d'<;>first|(simpa [V.cells,D.cells,List.all_map] using hok)
       obtain⟨q1,_,_⟩:=aW (p:=fun _=>True) hok' (show VV g1 (.d d') _ from hv) trivial
       have q2:(V.d d').cells=d'.cells.map V.d:=by cases d'<;>rfl
       rw [q2] at q1
       exact (W7 _ _ _).2 ((F2.uM q1).mono fun _ _ _ h=>h)
      have hF:jV g1.h (setAt cs off d'.cells) (setAt us.toList off (a.eval y).cells.toList):=(W7 _ _ _).2 (((W7 _ _ _).1 hyd).setAt off ((W7 _ _ _).1 hcs))
      have:=e6 (KI (.agg cs) off d') (.agg (setAt us.toList off (a.eval y).cells.toList).toArray) (by simpa [Value.cells,Z1] using e3)
       (by intro z hz;rcases Y7 _ _ _ _ (by simpa [Value.cells] using hz) with hz|hz;exact e4 z hz;exact d1 z hz) ⟨_,rfl,by simpa [D.cells] using hF⟩
      simpa [Value.cells] using this
   ·cases h
  ·rename_i e ie sz' xs hrow
   replace h:=H3 h
   obtain⟨hc,h⟩:=h
   simp only [A9] at hc
   obtain⟨⟨⟨⟨c1,c2⟩,c3⟩,c4⟩,c5⟩:=hc
   obtain rfl:sz=1:=B0 c1
   obtain rfl:off=0:=B0 c2
   have c3:K2 P t=1:=B0 c3
   have c4:i<xs.length:=by have h1:Nat.ble (i+1) xs.length=true:=c4;exact B3 h1
   have hx:∃ m1 m2,xs[i]? = some (.nils m1 m2):=by
    rw [C2 c4] at c5 ⊢
    match xs[i],c5 with
    | .nils m1 m2,_=>exact⟨m1,m2,rfl⟩
   obtain⟨m1,m2,hx⟩:=hx
   rw [Nat.mul_one,Nat.add_zero] at hvx
   obtain⟨_,⟨us,k1,_⟩,_⟩:=S.hp.ob _ _ hrow
   obtain⟨cur,k2,k3,_⟩:=qY k1 hbk
   rw [Nat.mul_one] at k3
   split at h
   ·rename_i o' hy
    rw [hy] at hvy
    split at h
    ·rename_i e' sz'' ys hro
     replace h:=H3 h
     obtain⟨hc,h⟩:=h
     simp only [A9,E1] at hc
     obtain⟨⟨⟨c6,c7⟩,c8⟩,c9⟩:=hc
     obtain rfl:e'=ie:=B0 c7
     obtain rfl:sz''=sz':=B0 c8
     have hoo:no≠o':=fun e=>by rw [e,Nat.beq_refl] at c6;cases c6
     have hne:ys≠[]:=fun e=>by rw [e] at c9;cases c9
     have hone:(a.eval y).oneCell'=true:=hvy.2
     have hve:a.eval y=g.hdr o':=hvy.1
     have hcy:=aK hone
     have hrun:=Z0 (P:=P) (v:=a.eval y) hinfo k2 (by rw [hcy];simp;omega) (off:=i) (by rw [hcy];simp;omega) (by rw [hcy];simpa using hone)
     rw [hcy] at hrun
     obtain⟨g',a1,s1,n1⟩:=Bs (h':=((st.M7 o' none).M7 no (some (.nst e e' sz'' (xs.set i (.Z sz'' ys))))).h) S.hp hrow hbk hx k2 hro hne hoo (by rw [← hve];exact hone) (fun x=>by rw [J7,J7])
     rw [← hve] at s1
     exact Goal.Tb h (exec _ _ hvx hrun) (s1.more hpq) a1 (IH a1 _ _) rfl rfl fun x _ hx=>n1 x fun e=>by rw [e,hrow] at hx;cases hx
    ·cases h
   ·rename_i hy
    rw [hy] at hvy
    have hve:a.eval y = .slice none 0 0:=hvy
    have hrun:=Z0 (P:=P) (v:=a.eval y) hinfo k2 (by rw [hve];simp [Value.cells];omega) (off:=i) (by rw [hve];simp [Value.cells];omega) (by rw [hve];simp [Value.cells,Value.oneCell'])
    rw [hve] at hrun
    exact Goal.skip h (exec _ _ hvx (by rw [hve];exact hrun)) ((Br S.hp hrow hbk hx k2).more hpq) (I6.refl p g) (X3 (I6.refl p g) _ _) rfl rfl
   ·cases h
  ·cases h
 ·rename_i no i sz j he
  rw [he] at hvx
  obtain⟨hi0,hd',b,hih,hj,hbk,hvx⟩:=hvx
  split at h
  ·rename_i e ie sz' xs hrow
   split at h
   ·rename_i z ys x hin hd
    replace h:=H3 h
    obtain⟨hc,h⟩:=h
    simp only [A9] at hc
    obtain⟨⟨⟨⟨c1,c2⟩,c3⟩,c4⟩,c5⟩:=hc
    obtain rfl:sz=sz':=B0 c1
    have c3:x.cells.length=K2 P t:=B0 c3
    have c4:K2 P t=sz:=B0 c4
    have c5:j<ys.length:=by have h1:Nat.ble (j+1) ys.length=true:=c5;exact B3 h1
    obtain⟨f,ie',xs',vs,q1,q2,q3,q4,q5,q6,q7⟩:=eM S.hp hin hi0 hih
    rw [hrow] at q1
    cases q1
    have hv:=iI (os:=[]) (w:=w) hvy huy hd (fun o ho=>nomatch ho) (I6.refl p g) S.hp (fun _ k=>nomatch k)
    obtain⟨d1,d2⟩:=mD c2 hv
    obtain⟨cur,k2,k3,_⟩:=qY q6 hbk
    have hle:j*sz+sz≤ys.length*sz:=by rw [← Nat.succ_mul];exact Nat.mul_le_mul_right _ c5
    have hrun:=Z0 (P:=P) (v:=a.eval y) hinfo k2 (by omega) (off:=j*sz) (by omega) d1
    exact Goal.skip h (exec _ _ hvx hrun) ((Bt S.hp hrow q2 hih hbk c5 q6 q7 q5 k2 d1 (by omega) hv (fun x'=>J7 _ _ _ _)).more hpq) (I6.refl p g) (X3 (I6.refl p g) _ _) rfl rfl
   ·cases h
  ·cases h
 ·cases h
theorem eC {e:TypeId}(h:lM P e=true):∃ i z,P.info? e=some i∧i.bytes≤2048∧0<i.size∧i.zero=some z∧z.cells.size=i.size:=by
 unfold lM at h
 split at h
 ·rename_i i hi
  simp only [A9] at h
  obtain⟨⟨h1,h2⟩,h3⟩:=h
  split at h3
  ·rename_i z hz
   refine⟨i,z,hi,B3 h1,?_,hz,B0 h3⟩
   have h2:Nat.ble 1 i.size=true:=h2
   exact B3 h2
  ·cases h3
 ·cases h
theorem vC {t ty e:TypeId}{i:TypeInfo}{sz:Nat}(ht:P.underlying t=some (.slice e))(hi:P.info? e=some i){v:Value}{n c:Nat}{xs:List Value}(hown:w.ownsRow 0 e sz v n xs) :
  (Builtin.append_ #[t,t] ty #[v,.slice none 0 c]).run P w = .ok v w:=by
 rcases hown.2 with ⟨rfl,rfl⟩|⟨b,cap,cur,rfl,_,_,hnc,_⟩
 ·simp [Builtin.append_,run_underlying ht,sizeOf,typeInfo,hi,Builtin.lenOf,Builtin.firstCells]
 ·simp [Builtin.append_,run_underlying ht,sizeOf,typeInfo,hi,Builtin.lenOf,Builtin.firstCells,hnc,storeCells]
theorem ED {t ty e:TypeId}{i:TypeInfo}{z:Value}(ht:P.underlying t=some (.slice e))(hi:P.info? e=some i)(hz:i.zero=some z){v v':Value}{n m c:Nat}{xs news:List Value}{ad:Addr}
  (hown:w.ownsRow 0 e i.size v n xs) (hl:news.length=m*i.size) (hnews:∀ j u,news[j]? = some u→w.cell? (ad.add j)=some u) (h1:∀ y∈news,y.oneCell'=true) (h63:n+m≤maxLen) (hbytes:(n+m)*i.bytes≤140737488355328)
  (hr:(Builtin.append_ #[t,t] ty #[v,.slice (some ad) m c]).run P w = .ok v' w'):∀ b,v'.ownBlock=some b→some b=v.ownBlock∨w.heap.size≤b:=by
 have hsmall:n+m≤9223372036854775807:=by simp only [maxLen] at h63;omega
 intro b hb
 rcases hown.2 with ⟨rfl,rfl⟩|⟨b0,cap,cur,rfl,_,hg,hnc,hcm,hcs,_⟩
 ·by_cases hm:m=0
  ·subst hm
   have hn:news=[]:=D3 (by simpa using hl)
   subst hn
   have:(Builtin.append_ #[t,t] ty #[.slice none 0 0,.slice (some ad) 0 c]).run P w = .ok (.slice none 0 0) w:=by
    simp [Builtin.append_,run_underlying ht,sizeOf,typeInfo,hi,Builtin.lenOf,Builtin.firstCells,loadCells,loadCellsFrom]
   rw [this] at hr
   cases hr
   cases hb
  ·rw [run_append_nil (P:=P) w t ty e i z ht hi hz ad m c news hl hnews (by omega) (by omega) (by have hb:=hbytes;simp only [C5] at hb;omega)] at hr
   cases hr
   simp only [Value.ownBlock,B1] at hb
   exact .inr (by omega)
 ·by_cases hroom:n+m≤cap
  ·have hfit:n*i.size+news.length≤cur.size:=by rw [hl,hcs,← Nat.add_mul];exact Nat.mul_le_mul_right _ hroom
   rw [run_append_room (P:=P) w t ty e i ht hi b0 n cap cur hg ad m c news hl hnews h1 hroom hfit] at hr
   cases hr
   exact .inl hb.symm
  ·have holds:∀ j u,xs[j]? = some u→w.cell? ((⟨b0,0,none⟩:Addr).add j)=some u:=hown.cells (g:=b0) rfl
   rw [run_append_grow (P:=P) w t ty e i z ht hi hz ⟨b0,0,none⟩ n cap xs hown.1 holds ad m c news hl hnews (by omega) (by omega) (growslice_fits (by omega) hbytes)] at hr
   cases hr
   simp only [Value.ownBlock,B1] at hb
   exact .inr (by omega)
theorem BN {t ty e:TypeId}{i:TypeInfo}{z:Value}(ht:P.underlying t=some (.slice e))(hi:P.info? e=some i)(hz:i.zero=some z)(hzs:z.cells.size=i.size)(hpos:0<i.size)(hby:i.bytes≤2048)
  {v x:Value} {xs ys:List D} {us:List Value} {sz':Nat} (hown:w.ownsRow 0 e i.size v xs.length us) (hf:aT g.h i.size xs us) (hx:TK w g.h sz' ys x) (hs:sz'=i.size∨ys=[]) (hm:xs.length+ys.length≤M4) :
  ∃ v' w' us',(Builtin.append_ #[t,t] ty #[v,x]).run P w = .ok v' w'∧w'.ownsRow 0 e i.size v' (xs++ys).length us'∧aT g.h i.size (xs++ys) us'∧w.grownBy w' v.ownBlock∧∀ b,v'.ownBlock=some b→some b=v.ownBlock∨w.heap.size≤b:=by
 obtain⟨A,cap,us2,rfl,h2,h3,h4,h5⟩:=hx
 have h4:aT g.h i.size ys us2:=by
  rcases hs with rfl|rfl
  ·exact h4
  ·exact h4
 have h63:xs.length+ys.length≤maxLen:=by simp only [M4] at hm;simp only [maxLen];omega
 have hbytes:(xs.length+ys.length)*i.bytes≤140737488355328:=by
  have:=Nat.mul_le_mul hm hby
  simp only [M4] at this
  omega
 have h5':(A=none∧ys=[])∨∃ ad,A=some ad∧∀ j y,us2[j]? = some y→w.cell? (ad.add j)=some y:=by
  rcases h5 with rfl|h5
  ·cases A with
   |none=>exact .inl ⟨rfl,rfl⟩
   |some ad=>exact .inr ⟨ad,rfl,fun j y hj=>by have h4:us2=[]:=h4;subst h4;simp at hj⟩
  ·exact .inr h5
 clear h5
 rcases h5' with ⟨rfl,rfl⟩|⟨ad,rfl,h5⟩
 ·refine⟨v,w,us,vC ht hi hown,by simpa using hown,by simpa using hf,fD _ _,fun b hb=> .inl hb.symm⟩
 ·have hl:=U2 h4
  obtain⟨v',w',k1,k2,k3,_⟩:=run_append_own (P:=P) w 0 t ty e i z i.size i.bytes ht hi hz rfl rfl hzs hpos v xs.length us hown ad ys.length cap us2 hl h5 (lJ h4) h63 hbytes (C4 _)
  exact⟨v',w',us++us2,k1,by rw [A7];exact k2,bY hf h4,k3,ED ht hi hz hown hl h5 (lJ h4) h63 hbytes k1⟩
theorem SB (S:At u p g st a w)(hpq:∀ x,p x→q x){nid:Nat}(hfr:U7 p q nid){x y:Operand}{t:TypeId}{c:Call}(hop:o.op = .call c)(hcal:c.callee = .builtin .append)(hargs:c.args=#[x,y])(hts:c.argTypes=#[t,t])
  (h:lK P t (I1 st x) (I1 st y) nid st K=some r):Goal u p q g st a w P o K r:=by
 have hvx:=S.ev x
 have hvy:=S.ev y
 have hux:=S.L7 x
 have exec:∀ v w',(Builtin.append_ #[t,t] o.type #[a.eval x,a.eval y]).run P w = .ok v w'→(execOp a.eval o).run P w = .ok (.value v) w':=by
  intro v w' e
  simp only [execOp,hop,resolve,hcal,hargs,hts]
  simp [invoke,builtin,e]
 unfold lK at h
 split at h
 ·cases h
 ·rename_i e he
  have ht:=X2 he
  simp only [] at h
  split at h
  ·cases h
  ·rename_i sz' ys hl
   obtain⟨hc,h⟩:=H3 h
   simp only [A9,Bool.or_eq_true,List.isEmpty_iff] at hc
   obtain⟨hby,hsz⟩:=hc
   obtain⟨i,z,hi,hb1,hb2,hb3,hb4⟩:=eC hby
   have hsi:K2 P e=i.size:=by simp [K2,hi]
   have hsz:sz'=i.size∨ys=[]:=by
    rcases hsz with hsz|hsz
    ·exact .inl (by rw [← hsi];exact (B0 hsz).symm)
    ·exact .inr hsz
   have hlies:=iV S.hp hvy hl
   split at h
   ·rename_i he2
    obtain⟨hm,h⟩:=H3 h
    have hm:ys.length≤M4:=B3 hm
    rw [he2] at hvx
    have hvx:a.eval x = .slice none 0 0:=hvx
    obtain⟨v',w',us',k1,k2,k3,k4,k5⟩:=BN (ty:=o.type) (xs:=[]) ht hi hb3 hb4 hb2 hb1 (World.ownsRow_nil w 0 e i.size) rfl hlies hsz (by simpa using hm)
    obtain⟨g',m1,m2,m3,m4,m5⟩:=R7 (e:=e) (sz:=K2 P e) (xs:=ys) (v:=v') (us:=us') (h':=(newRow st nid e (K2 P e) ys).h) S.hp hpq hfr.zero.1 hfr.zero.2 k4 (by rw [hsi];exact k2) (by rw [hsi];exact hb2) (by rw [hsi];exact k3)
     (fun b hb=>by cases hb) k5 (fun o' x hx hne=>by rw [newRow,J7,if_neg hne] at hx;exact⟨hx,fun _ _ e=>by cases e⟩) (by rw [newRow,J7];simp)
    refine Goal.res h (exec v' w' (by rw [hvx];exact k1)) m5 m1 (lR k4 m1) ⟨m4.symm,?_⟩ hfr.zero.2 rfl rfl
    rcases J0 k2 with ⟨rfl,_⟩|⟨_,_,_,rfl,_⟩<;>rfl
   ·rename_i ro he2
    split at h
    ·rename_i e' sz'' xs hrow
     replace h:=H3 h
     obtain⟨hc,h⟩:=h
     simp only [A9] at hc
     have hee:e=e':=B0 hc.1
     have hss:K2 P e=sz'':=B0 hc.2
     replace h:=H3 h
     obtain⟨hmb,h⟩:=h
     have hm:xs.length+ys.length≤M4:=B3 hmb
     subst hee;subst hss
     rw [he2] at hvx
     have hvx:a.eval x=g.hdr ro:=hvx.1
     obtain⟨us,hpos,hown,hf⟩:=S.hp.ob _ _ hrow
     rw [hsi] at hown hf
     obtain⟨v',w',us',k1,k2,k3,k4,k5⟩:=BN (ty:=o.type) ht hi hb3 hb4 hb2 hb1 hown hf hlies hsz hm
     have hpro:p ro:=(S.hp.use _ _ hrow).1
     have hne0:ro≠nid:=fun e=>hfr.zero.1 (e▸hpro)
     obtain⟨g',m1,m2,m3,m4,m5⟩:=R7 (e:=e) (sz:=K2 P e) (xs:=xs++ys) (v:=v') (us:=us') (h':=(newRow (st.M7 ro none) nid e (K2 P e) (xs++ys)).h) S.hp hpq hfr.zero.1 hfr.zero.2 k4 (by rw [hsi];exact k2) (by rw [hsi];exact hb2) (by rw [hsi];exact k3)
      (fun b hb=>S.hp.sep ro _ b hrow hb) k5 (fun o' x hx hne=>by
       rw [newRow,J7,if_neg hne,J7] at hx
       split at hx
       ·cases hx
       ·rename_i hne2
        exact⟨hx,fun b hb e=>hne2 (S.hp.inj o' ro _ _ b hx hrow hb e.symm)⟩) (by rw [newRow,J7];simp)
     refine Goal.res h (exec v' w' (by rw [hvx];exact k1)) m5 m1 (lR k4 m1) ⟨m4.symm,?_⟩ hfr.zero.2 rfl rfl
     rcases J0 k2 with ⟨rfl,_⟩|⟨_,_,_,rfl,_⟩<;>rfl
    ·cases h
   ·cases h
theorem BK (h:Nat→Option Obj):∀ s:G0,aT h 1 (s.map fun b=>D.int .u8 (b.toNat:Int)) (s.map fun b=>Value.int .u8 b.toNat)
 |[]=>rfl
 |b::s=>⟨.int .u8 b.toNat,_,rfl,rfl,by intro y hy;simp [Value.cells] at hy;subst hy;rfl,rfl,BK h s⟩
theorem NW {h:Nat→Option Obj}{sz:Nat}:∀ {xs ys:List D} {us vs:List Value},aT h sz xs us→aT h sz ys vs→aT h sz (xs++ys) (us++vs)
 |[],ys,us,vs,h1,h2=>by cases h1;exact h2
 |x::xs,ys,us,vs,h1,h2=>by
  obtain⟨v,r,rfl,a1,a2,a3,a4⟩:=h1
  exact⟨v,r++vs,by rw [C1],a1,a2,a3,NW a4 h2⟩
theorem rO {t tu ty e:TypeId}{i:TypeInfo}(ht:P.underlying t=some (.slice e))(hu:P.underlying tu=some .string)(hi:P.info? e=some i){z:Value}(hz:i.zero=some z)(fU:i.size=1)(hb1:i.bytes≤2048){v v':Value}{n:Nat}{xs:List Value}{s:ByteArray}
  (hown:w.ownsRow 0 e 1 v n xs) (h63:n+s.size≤M4) (hr:(Builtin.append_ #[t,tu] ty #[v,.string s]).run P w = .ok v' w'):∀ b,v'.ownBlock=some b→some b=v.ownBlock∨w.heap.size≤b:=by
 have hsm:n+s.size≤68719476736:=h63
 have hbb:(n+s.size)*i.bytes≤140737488355328:=by
  have h1:(n+s.size)*i.bytes≤(n+s.size)*2048:=Nat.mul_le_mul_left _ hb1
  omega
 intro b hb
 rcases hown.2 with ⟨rfl,rfl⟩|⟨b0,cap,cur,rfl,_,hg,hnc,hcm,hcs,_⟩
 ·by_cases hm:s.size=0
  ·have:(Builtin.append_ #[t,tu] ty #[.slice none 0 0,.string s]).run P w = .ok (.slice none 0 0) w:=by
    simp [Builtin.append_,run_underlying ht,run_underlying hu,sizeOf,typeInfo,hi,Builtin.lenOf,hm,Builtin.firstCells]
   rw [this] at hr
   cases hr
   cases hb
  ·rw [run_append_nil_string (P:=P) w t tu ty e i z ht hu hi hz s (by omega) (by omega) (by have hb:=hbb;simp only [C5] at hb;omega)] at hr
   cases hr
   simp only [Value.ownBlock,B1] at hb
   exact .inr (by omega)
 ·by_cases hroom:n+s.size≤cap
  ·rw [Lib.run_append_room_string (P:=P) w t tu ty e i ht hu hi fU b0 n cap cur hg s hroom (by omega)] at hr
   cases hr
   exact .inl hb.symm
  ·have holds:∀ j u,xs[j]? = some u→w.cell? ((⟨b0,0,none⟩:Addr).add j)=some u:=hown.cells (g:=b0) rfl
   rw [Lib.run_append_grow_string (P:=P) w t tu ty e i z ht hu hi hz ⟨b0,0,none⟩ n cap xs (by have:=hown.1;rw [fU];exact this) holds s (by omega) (by omega) (growslice_fits (by omega) hbb)] at hr
   cases hr
   simp only [Value.ownBlock,B1] at hb
   exact .inr (by omega)
theorem AO {e:TypeId}(h:wV P e=true):∃ i,P.info? e=some i∧i.size=1∧i.bytes=1∧i.zero=some (.int .u8 0):=by
 unfold wV at h
 split at h
 ·rename_i i hi
  simp only [A9] at h
  obtain⟨⟨h1,h2⟩,h3⟩:=h
  split at h3
  ·rename_i n hz
   have:n=0:=by simpa using h3
   subst this
   exact⟨i,hi,B0 h1,B0 h2,hz⟩
  ·cases h3
 ·cases h
theorem MP (S:At u p g st a w)(hpq:∀ x,p x→q x){nid:Nat}(hfr:U7 p q nid){x y:Operand}{t tu:TypeId}{s:G0}{c:Call}(hop:o.op = .call c)(hcal:c.callee = .builtin .append)(hargs:c.args=#[x,y])(hts:c.argTypes=#[t,tu])
  (hu:P.underlying tu=some .string) (hy:I1 st y = .d (.str s)) (h:gU P t (I1 st x) s nid st K=some r):Goal u p q g st a w P o K r:=by
 have hvx:=S.ev x
 have hvy:=S.ev y
 rw [hy] at hvy
 obtain⟨sb,hsb,hsl⟩:=hvy
 have exec:∀ v w',(Builtin.append_ #[t,tu] o.type #[a.eval x,a.eval y]).run P w = .ok v w'→(execOp a.eval o).run P w = .ok (.value v) w':=by
  intro v w' e
  simp only [execOp,hop,resolve,hcal,hargs,hts]
  simp [invoke,builtin,e]
 unfold gU at h
 split at h
 ·rename_i e ro he he2
  have ht:=X2 he
  split at h
  ·rename_i e' sz xs hrow
   replace h:=H3 h
   obtain⟨hc,h⟩:=h
   simp only [A9] at hc
   obtain⟨⟨⟨⟨c1,c2⟩,c3⟩,c4⟩,hby⟩:=hc
   have hee:e=e':=B0 c1
   have hss:sz=1:=B0 c2
   have hse:K2 P e=1:=B0 c3
   have hm:xs.length+s.length≤M4:=B3 c4
   have hm':xs.length+s.length≤68719476736:=hm
   subst hee;subst hss
   obtain⟨i,hi,hsi,hb1,hb3⟩:=AO hby
   rw [he2] at hvx
   have hvx:a.eval x=g.hdr ro:=hvx.1
   obtain⟨us,hpos,hown,hf⟩:=S.hp.ob _ _ hrow
   have hsz:sb.size=s.length:=by rw [← hsl,E4];rfl
   have hsc:Lib.strCells sb=s.map fun b=>Value.int .u8 b.toNat:=by rw [Lib.strCells,hsl]
   obtain⟨v',w',k1,k2,k4⟩:∃ v' w',(Builtin.append_ #[t,tu] o.type #[g.hdr ro,.string sb]).run P w = .ok v' w'∧w'.ownsRow 0 e 1 v' (xs.length+sb.size) (us++Lib.strCells sb)∧w.grownBy w' (g.hdr ro).ownBlock:=by
    obtain⟨v',w',k1,k2,k3,_⟩:=Lib.run_append_own_string (P:=P) w 0 t tu o.type e i ht hu hi hb3 hsi hb1 (g.hdr ro) xs.length us hown sb (by simp only [maxLen];omega) (by omega) (C4 _)
    exact⟨v',w',k1,k2,k3⟩
   have k5:=rO ht hu hi hb3 hsi (by omega) hown (by simp only [M4];omega) k1
   have hpro:p ro:=(S.hp.use _ _ hrow).1
   have hne0:ro≠nid:=fun e=>hfr.zero.1 (e▸hpro)
   obtain⟨g',m1,m2,m3,m4,m5⟩:=R7 (e:=e) (sz:=1) (xs:=xs++s.map fun b=>D.int .u8 (b.toNat:Int)) (v:=v') (us:=us++Lib.strCells sb) (h':=(newRow (st.M7 ro none) nid e 1 (xs++s.map fun b=>D.int .u8 (b.toNat:Int))).h) S.hp hpq hfr.zero.1 hfr.zero.2 k4
    (by rw [A7,List.length_map,← hsz];exact k2) (by omega) (by rw [hsc];exact NW hf (BK _ s))
    (fun b hb=>S.hp.sep ro _ b hrow hb) k5 (fun o' x hx hne=>by
     rw [newRow,J7,if_neg hne,J7] at hx
     split at hx
     ·cases hx
     ·rename_i hne2
      exact⟨hx,fun b hb e=>hne2 (S.hp.inj o' ro _ _ b hx hrow hb e.symm)⟩) (by rw [newRow,J7];simp)
   refine Goal.res h (exec v' w' (by rw [hvx,hsb];exact k1)) m5 m1 (lR k4 m1) ⟨m4.symm,?_⟩ hfr.zero.2 rfl rfl
   rcases J0 k2 with ⟨rfl,_⟩|⟨_,_,_,rfl,_⟩<;>rfl
  ·cases h
 ·cases h
theorem Dl (S:At u p g st a w)(hpq:∀ x,p x→q x){nid:Nat}(hfr:U7 p q nid){t:TypeId}{x y:Operand}(ho:o.op = .makeSlice t x y)
  (h:yS P t (I1 st x) (I1 st y) nid st K=some r):Goal u p q g st a w P o K r:=by
 have hvx:=S.ev x
 have hvy:=S.ev y
 unfold yS at h
 split at h
 ·rename_i e n m he hx hy
  have ht:=X2 he
  rw [hx] at hvx
  rw [hy] at hvy
  have hvx:=dU hvx
  have hvy:=dU hvy
  split at h
  ·rename_i z hz
   obtain⟨i,z',hi',hzv,hV⟩:=fT hz
   obtain⟨hc,h⟩:=H3 h
   simp only [A9] at hc
   obtain⟨i2,z2,hi,hb1,hb2,hb3,hb4⟩:=eC hc.1
   rw [hi] at hi'
   cases hi'
   rw [hb3] at hzv
   cases hzv
   obtain⟨hc2,h⟩:=H3 h
   simp only [A9,decide_eq_true_eq] at hc2
   obtain⟨⟨h0,h1⟩,h2⟩:=hc2
   have hsi:K2 P e=i.size:=by simp [K2,hi]
   have hmn:m.toNat≤M4:=by omega
   have hbytes:(i.bytes:Int)*m≤281474976710656:=by
    have:i.bytes*m.toNat≤2048*M4:=Nat.mul_le_mul hb1 hmn
    have h3:((i.bytes*m.toNat:Nat):Int)≤281474976710656:=by simp only [M4] at this;omega
    rw [Int.natCast_mul] at h3
    rwa [Int.toNat_of_nonneg (by omega)] at h3
   have hrun:=run_make (P:=P) w t e i z' ht hi hb3 .i64 .i64 n m h0 h1 hbytes (by simp only [M4] at h2;omega)
   obtain⟨d1,d2⟩:=mD hc.2 (hV g.h)
   have hmade:(madeCells z'.cells (m.toNat*i.size)).toList=(List.replicate m.toNat z'.cells.toList).flatten:=by
    have:=bD z'.cells (by rw [hb4];exact hb2) m.toNat
    rwa [hb4] at this
   have hf:=cL hb4 d1 (hV g.h) n.toNat
   have hown:(w.alloc (.cells (madeCells z'.cells (m.toNat*i.size)) e)).ownsRow 0 e i.size (.slice (some ⟨w.heap.size,0,none⟩) n.toNat m.toNat) n.toNat (List.replicate n.toNat z'.cells.toList).flatten:=by
    refine⟨by simp [hb4],.inr ⟨_,_,_,rfl,C4 _,heap_alloc_new w _,by omega,by simp only [M4] at hmn;simp only [maxLen];omega,size_madeCells _ _,?_⟩⟩
    rw [hmade]
    have e1:List.replicate m.toNat z'.cells.toList=List.replicate n.toNat z'.cells.toList++List.replicate (m.toNat-n.toNat) z'.cells.toList:=by
     rw [List.replicate_append_replicate];congr 1;omega
    rw [e1,List.flatten_append]
    have e2:(List.replicate n.toNat z'.cells.toList).flatten.length=n.toNat*i.size:=by simp [hb4]
    rw [← e2]
    exact List.take_left
   obtain⟨g',m1,m2,m3,m4,m5⟩:=R7 (e:=e) (sz:=K2 P e) (xs:=List.replicate n.toNat z) (v:= .slice (some ⟨w.heap.size,0,none⟩) n.toNat m.toNat) (us:=(List.replicate n.toNat z'.cells.toList).flatten)
    (h':=(newRow st nid e (K2 P e) (List.replicate n.toNat z)).h) S.hp hpq hfr.zero.1 hfr.zero.2 (World.grownBy_alloc w _ none) (by rw [hsi,List.length_replicate];exact hown) (by rw [hsi];exact hb2) (by rw [hsi];exact hf)
    (fun b hb=>by cases hb) (fun b hb=>by simp only [Value.ownBlock,B1] at hb;exact .inr (by omega)) (fun o' x hx hne=>by rw [newRow,J7,if_neg hne] at hx;exact⟨hx,fun _ _ e=>by cases e⟩) (by rw [newRow,J7];simp)
   refine Goal.res h (v:= .slice (some ⟨w.heap.size,0,none⟩) n.toNat m.toNat) ?_ m5 m1 (Y6 m1) ⟨m4.symm,rfl⟩ hfr.zero.2 rfl rfl
   simp only [execOp,ho,hvx,hvy]
   simp [hrun]
  ·cases h
 ·cases h
theorem XE (S:At u p g st a w)(hpq:∀ x,p x→q x){nid:Nat}(hfr:U7 p q nid){t:TypeId}{x y:Operand}(ho:o.op = .makeSlice t x y)
  (h:nZ P t (I1 st x) (I1 st y) nid st K=some r):Goal u p q g st a w P o K r:=by
 have hvx:=S.ev x
 have hvy:=S.ev y
 unfold nZ at h
 split at h
 ·rename_i e ie n m he hx hy
  have he:O6 P t=some e:=by
   unfold Bq at he
   split at he
   ·rename_i e' he'
    split at he
    ·cases he;exact he'
    ·cases he
   ·cases he
  have ht:=X2 he
  rw [hx] at hvx
  rw [hy] at hvy
  have hvx:=dU hvx
  have hvy:=dU hvy
  obtain⟨hc,h⟩:=H3 h
  simp only [A9] at hc
  obtain⟨⟨⟨⟨c1,c2⟩,c3⟩,c4⟩,c5⟩:=hc
  obtain⟨i,z',hi,hb1,hb2,hb3,hb4⟩:=eC c1
  have hz:z' = .slice none 0 0:=by
   unfold VP at c2
   rw [hi] at c2
   simp only [hb3] at c2
   split at c2
   ·rename_i k;cases k;rfl
   ·cases c2
  subst hz
  have c3:K2 P e=1:=B0 c3
  have c5:0<K2 P ie:=by have h1:Nat.ble 1 (K2 P ie)=true:=c5;exact B3 h1
  obtain⟨hc2,h⟩:=H3 h
  simp only [A9,decide_eq_true_eq] at hc2
  obtain⟨⟨h0,h1⟩,h2⟩:=hc2
  have hsi:i.size=1:=by rw [← c3];simp [K2,hi]
  have hmn:m.toNat≤M4:=by omega
  have hbytes:(i.bytes:Int)*m≤281474976710656:=by
   have:i.bytes*m.toNat≤2048*M4:=Nat.mul_le_mul hb1 hmn
   have h3:((i.bytes*m.toNat:Nat):Int)≤281474976710656:=by simp only [M4] at this;omega
   rw [Int.natCast_mul] at h3
   rwa [Int.toNat_of_nonneg (by omega)] at h3
  have hrun:=run_make (P:=P) w t e i (.slice none 0 0) ht hi hb3 .i64 .i64 n m h0 h1 hbytes (by simp only [M4] at h2;omega)
  have hmade:(madeCells (Value.slice none 0 0).cells (m.toNat*i.size)).toList=List.replicate m.toNat (Value.slice none 0 0):=by
   have:=bD (Value.slice none 0 0).cells (by rw [hb4];exact hb2) m.toNat
   rw [hb4] at this
   rw [this]
   simp [Value.cells]
  have hown:(w.alloc (.cells (madeCells (Value.slice none 0 0).cells (m.toNat*i.size)) e)).ownsRow 0 e 1 (.slice (some ⟨w.heap.size,0,none⟩) n.toNat m.toNat) n.toNat (List.replicate n.toNat (Value.slice none 0 0)):=by
   refine⟨by simp,.inr ⟨_,_,_,rfl,C4 _,heap_alloc_new w _,by omega,by simp only [M4] at hmn;simp only [maxLen];omega,by rw [size_madeCells,hsi],?_⟩⟩
   rw [hmade,Nat.mul_one,List.take_replicate]
   congr 1
   omega
  let g':G:=⟨g.h,g.blk,fun x=>if x=nid then .slice (some ⟨w.heap.size,0,none⟩) n.toNat m.toNat else g.hdr x,fun x i=>if x=nid then none else g.ihdr x i⟩
  have hd:g'.hdr nid = .slice (some ⟨w.heap.size,0,none⟩) n.toNat m.toNat:=if_pos rfl
  have hin:∀ i,g'.ihdr nid i=none:=fun i=>if_pos rfl
  have ne:∀ x,p x→x≠nid:=fun x hx e=>hfr.zero.1 (e▸hx)
  have ha:I6 p g g':=⟨fun _ _ k=>k,fun _ _=>rfl,fun x hx=>if_neg (ne x hx),fun x hx=>funext fun i=>(if_neg (ne x hx):(if x=nid then none else g.ihdr x i)=_)⟩
  have S2:J2 u q g' (st.M7 nid (some (.nst e ie (K2 P ie) (List.replicate n.toNat (.nils ie (K2 P ie)))))).h (w.alloc (.cells (madeCells (Value.slice none 0 0).cells (m.toNat*i.size)) e)):=by
   refine S.hp.update ha rfl none (fun k hk _=>heap_alloc_old w _ hk) (fun b hb=>by cases hb) hpq nid ?_ ?_ fun x hx i=>if_neg hx
   ·intro o' x hx hne
    rw [J7,if_neg hne] at hx
    exact⟨hx,fun b _ e=>by cases e⟩
   ·intro x hx
    rw [J7,if_pos rfl] at hx
    cases hx
    refine⟨⟨c5,⟨_,by rw [hd,List.length_replicate];exact hown,fun j x hx=>?_⟩,fun i v b _ hv=>by rw [hin] at hv;cases hv⟩,fun b hb=>?_,hfr.zero.2,trivial⟩
    ·obtain⟨hj,hx⟩:=List.getElem?_eq_some_iff.1 hx
     rw [List.length_replicate] at hj
     rw [List.getElem_replicate] at hx
     exact⟨.slice none 0 0,by simp [hj],.inl ⟨_,_,hx.symm,rfl,hin j⟩⟩
    ·rcases hb with hb|⟨i,v,_,hv,_⟩
     ·rw [hd] at hb
      simp only [Value.ownBlock,B1] at hb
      exact .inr (by omega)
     ·rw [hin] at hv;cases hv
  refine Goal.res h (v:= .slice (some ⟨w.heap.size,0,none⟩) n.toNat m.toNat) ?_ S2 ha (Y6 ha) ⟨hd.symm,rfl⟩ hfr.zero.2 rfl rfl
  simp only [execOp,ho,hvx,hvy]
  simp [hrun]
 ·cases h
theorem Dj (S:At u p g st a w)(hpq:∀ x,p x→q x){x y:Operand}{ts:Array TypeId}{c:Call}(hop:o.op = .call c)(hcal:c.callee = .builtin .copy)(hargs:c.args=#[x,y])(hts:c.argTypes=ts)
  {t t':TypeId} {e:TypeId} (ht:ts=#[t,t']) (he:O6 P t=some e) (hok:jZ P e=true)
  (h:BS P (I1 st x) (I1 st y) st K=some r) (hsz:K2 P e=1):Goal u p q g st a w P o K r:=by
 have hvx:=S.ev x
 have hvy:=S.ev y
 have hux:=S.L7 x
 have ht':=X2 he
 obtain⟨_,info,_,hinfo,_,hsi⟩:=R4 hok
 have exec:∀ v w',(Builtin.copy_ #[t,t'] o.type #[a.eval x,a.eval y]).run P w = .ok v w'→(execOp a.eval o).run P w = .ok (.value v) w':=by
  intro v w' e
  simp only [execOp,hop,resolve,hcal,hargs,hts,ht]
  simp [invoke,builtin,e]
 unfold BS at h
 split at h
 ·rename_i ro hx
  rw [hx] at hvx hux
  split at h
  ·rename_i e' sz xs sz' ys hrow hl
   obtain⟨hc,h⟩:=H3 h
   simp only [A9,Bool.or_eq_true,List.isEmpty_iff] at hc
   obtain⟨⟨hc1,hc2⟩,_⟩:=hc
   have hsz1:sz=1:=B0 hc1
   have hvx:a.eval x=g.hdr ro:=hvx.1
   obtain⟨A,cap,us2,hvy',h2,h3,h4,h5⟩:=iV S.hp hvy hl
   have h4:aT g.h 1 ys us2:=by
    rcases hc2 with k|rfl
    ·have:sz=sz':=B0 k
     rw [hsz1] at this;subst this;exact h4
    ·exact h4
   have hl2:=U2 h4
   have hlx:us2.length=ys.length:=by omega
   have hsize:(P.info? e).map (·.size)=some 1:=by simp [hinfo];omega
   have hzero:min ys.length xs.length=0→(Builtin.copy_ #[t,t'] o.type #[a.eval x,a.eval y]).run P w = .ok (goInt (min ys.length xs.length:Nat)) w→Goal u p q g st a w P o K r:=by
    intro hm hr
    have hst:st.M7 ro (some (.row e' sz (ys.take xs.length++xs.drop ys.length) false))=st:=by
     have hxy:ys.take xs.length++xs.drop ys.length=xs:=by
      rcases Nat.eq_zero_or_pos ys.length with h0|h0
      ·have:ys=[]:=D3 h0
       subst this;simp
      ·have:xs=[]:=D3 (by omega)
       subst this;simp
     rw [hxy]
     have:(st.M7 ro (some (.row e' sz xs false))).h=st.h:=by
      funext z
      rw [J7]
      split
      ·rename_i k;subst k;exact hrow.symm
      ·rfl
     show (⟨st.t,(st.M7 ro (some (.row e' sz xs false))).h,st.m⟩:St)=st
     rw [this]
    rw [hst] at h
    exact Goal.val S hpq h (exec _ _ hr) rfl trivial
   by_cases hm:min ys.length xs.length=0
   ·refine hzero hm ?_
    rw [hvx,hvy',hm]
    rcases qI S.hp hrow with ⟨k1,k2⟩|⟨b,cap',k1,_⟩
    ·rw [k1]
     exact run_copy_none (P:=P) w t t' o.type e none A 0 0 ys.length cap ht' hsize (by simp [Nat.min_def] )
    ·rw [k1]
     exact run_copy_none (P:=P) w t t' o.type e _ A xs.length cap' ys.length cap ht' hsize hm
   ·rcases h5 with rfl|⟨ad,rfl,h5⟩
    ·simp at hm
    ·rcases qI S.hp hrow with ⟨k1,k2⟩|⟨b,cap',k1,k2,k3⟩
     ·rw [k2] at hm;simp at hm
     ·have hbk:(g.hdr ro).ownBlock=some b:=by rw [k1];rfl
      obtain⟨cap2,cur,q1,q2,q3,q4,q5,q6,q7⟩:=rB S.hp hrow hbk
      have hcl:(us2.take xs.length).length=Nat.min ys.length xs.length:=by
       simp only [D9,hlx,Nat.min_def];split<;>split<;>omega
      have hcur:cur.size=cap2:=by rw [q6,hsz1];omega
      have hle:(us2.take xs.length).length≤xs.length:=by simp only [D9];omega
      have hrun:=run_copy_row (P:=P) w t t' o.type e b 0 xs.length cap' ad ys.length cap cur e' (us2.take xs.length) ht' hsize q3 hcl (fun j v hj=>by
       rw [List.getElem?_take] at hj
       split at hj
       ·exact h5 j v hj
       ·cases hj) (by omega) (fun v hv=>lJ h4 v (List.mem_of_mem_take hv))
      rw [← hvy',← k1,← hvx] at hrun
      have hset:(cur.toList.take 0++us2.take xs.length++cur.toList.drop (0+(us2.take xs.length).length))=setAt cur.toList 0 (us2.take xs.length):=by
       rw [zR _ _ _ (by simp only [E4];omega)]
      rw [hset] at hrun
      have hf':aT g.h sz (ys.take xs.length++xs.drop ys.length) ((setAt cur.toList 0 (us2.take xs.length)).take (xs.length*sz)):=by
       rw [jM,hsz1,Nat.mul_one]
       rw [hsz1,Nat.mul_one] at q7
       have hlq:=U2 q7
       rw [zR _ _ _ (by omega)]
       simp only [List.take_zero,List.nil_append,C5]
       have e1:=cV xs.length h4
       rw [Nat.mul_one] at e1
       refine bY e1 ?_
       have e2:=eR ys.length q7
       rw [Nat.mul_one] at e2
       rcases Nat.le_total ys.length xs.length with hle'|hle'
       ·have:(us2.take xs.length).length=ys.length:=by simp only [D9];omega
        rw [this];exact e2
       ·have:xs.drop ys.length=[]:=D6 hle'
        rw [this]
        have:(us2.take xs.length).length=xs.length:=by simp only [D9];omega
        rw [this]
        show _=[]
        exact D6 (by omega)
      have hsim:=oL (h':=(st.M7 ro (some (.row e' sz (ys.take xs.length++xs.drop ys.length) false))).h) (c':=(setAt cur.toList 0 (us2.take xs.length)).toArray) S.hp hrow hbk q3 (by simp [Z1])
       (by simp;omega) (by simpa using hf') (fun x=>J7 _ _ _ _)
      refine Goal.res h (v:=goInt (min ys.length xs.length:Nat)) (exec _ _ ?_) (hsim.more hpq) (I6.refl p g) (X3 (I6.refl p g) _ _) rfl trivial rfl rfl
      rw [hrun,hcl]
  ·cases h
 ·cases h
end
end Go.AE
namespace Go.AE
open Go.RowKit
theorem F2.modify {α β:Type}{r:α→β→Prop}{x:α}{f:β→β}:∀ {zs:List α} {bs:List β} {j:Nat},F2 r zs bs→(∀ b,bs[j]? = some b→r x (f b))→F2 r (zs.set j x) (bs.modify j f)
 |[],_,j,h,_=>by cases h;cases j<;>exact .nil
 |a::zs,_,0,h,hf=>by
  cases h with
  |cons h1 h2=>exact .cons (hf _ rfl) h2
 |a::zs,_,j+1,h,hf=>by
  cases h with
  |cons h1 h2=>exact .cons h1 (F2.modify h2 fun b hb=>hf b (by simpa using hb))
section
variable {hh:Nat→Option Obj} {P:Program} {w:World}
theorem Is {kt:Y2}(hk:qN kt=true){a b:D}(ha:M0 kt a=true)(hb:M0 kt b=true){x y:Value}(hx:VD hh a x)(hy:VD hh b y):fA a b=true↔x=y:=by
 cases kt<;>simp only [qN,D8] at hk
 ·cases a<;>simp only [M0,D8] at ha
  cases b<;>simp only [M0,D8] at hb
  have hx:x=_:=hx
  have hy:y=_:=hy
  subst hx hy
  simp [fA]
 ·cases a<;>simp only [M0,D8] at ha
  cases b<;>simp only [M0,D8] at hb
  have hx:x=_:=hx
  have hy:y=_:=hy
  subst hx hy
  have ha:=E7 ha
  have hb:=E7 hb
  subst ha hb
  simp [fA]
 ·cases a<;>simp only [M0,D8] at ha
  cases b<;>simp only [M0,D8] at hb
  obtain⟨s,rfl,rfl⟩:=hx
  obtain⟨s',rfl,rfl⟩:=hy
  simp only [fA,beq_iff_eq,Value.string.injEq]
  constructor
  ·intro e
   cases s;cases s'
   congr 1
   exact Array.ext' e
  ·intro e;subst e;rfl
theorem FI {k:TypeId}(hk:qN (Q0 P k)=true):∃ d,P.underlying k=some d∧∀ (a:D) (x:Value),M0 (Q0 P k) a=true→VD hh a x→MapKept.IsKey d x:=by
 unfold Q0 at hk ⊢
 split at hk<;>simp only [qN,D8] at hk
 ·rename_i h
  refine⟨_,h,fun a x ha hx=>?_⟩
  try simp only [h] at ha
  cases a<;>simp only [M0,D8] at ha
  have hx:x=_:=hx
  subst hx;trivial
 ·rename_i k' h
  refine⟨_,h,fun a x ha hx=>?_⟩
  try simp only [h] at ha
  cases a<;>simp only [M0,D8] at ha
  have hx:x=_:=hx
  subst hx
  exact (E7 ha).symm
 ·rename_i h
  refine⟨_,h,fun a x ha hx=>?_⟩
  try simp only [h] at ha
  cases a<;>simp only [M0,D8] at ha
  obtain⟨s,rfl,_⟩:=hx
  trivial
def Gu (hh:Nat→Option Obj)(kt:Y2)(x:D)(m:MapEntry):Prop:=VD hh (x.at_ 0) m.key∧VD hh (x.at_ 1) m.val∧M0 kt (x.at_ 0)=true
theorem iS {k:TypeId}{d:TypeDesc}(hk:qN (Q0 P k)=true)(hd:∀ (a:D) (x:Value),M0 (Q0 P k) a=true→VD hh a x→MapKept.IsKey d x){kd:D}{key:Value}(hkd:M0 (Q0 P k) kd=true)(hkey:VD hh kd key) :
  ∀ (xs:List D) (es:List MapEntry) (i:Nat),F2 (Gu hh (Q0 P k)) xs es→
   (mS kd xs=none∧Instr.findNow d key es i=some none)∨∃ j x e,mS kd xs=some j∧Instr.findNow d key es i=some (some (i+j,e.val))∧xs[j]? = some x∧es[j]? = some e∧e.key=key∧Gu hh (Q0 P k) x e
 |[],_,i,h=>by cases h;exact .inl ⟨rfl,rfl⟩
 |x::xs,_,i,h=>by
  cases h with
  |@cons _ e _ es h1 h2=>
   obtain⟨r,hr,hiff⟩:=MapKept.sameNow_of_keys (hd kd key hkd hkey) (hd _ _ h1.2.2 h1.1)
   have he:=Is hk hkd h1.2.2 hkey h1.1
   cases r with
   |true=>
    have e1:=hiff.1 rfl
    exact .inr ⟨0,x,e,by simp only [mS,he.2 e1,cond_true],by simp [Instr.findNow,hr],rfl,rfl,e1.symm,h1⟩
   |false=>
    have hne:key≠e.key:=fun q=>by have:=hiff.2 q;cases this
    have hb:fA kd (x.at_ 0)=false:=by
     cases hb:fA kd (x.at_ 0) with
     |false=>rfl
     |true=>exact absurd (he.1 hb) hne
    rcases iS hk hd hkd hkey xs es (i+1) h2 with ⟨k1,k2⟩|⟨j,x',e',k1,k2,k3,k4,k5,k6⟩
    ·exact .inl ⟨by simp only [mS,hb,k1,cond_false],by simp [Instr.findNow,hr,k2]⟩
    ·exact .inr ⟨j+1,x',e',by simp only [mS,hb,k1,cond_false],by simp [Instr.findNow,hr,k2];omega,by simpa using k3,by simpa using k4,k5,k6⟩
theorem tH {e:TypeId}{i:TypeInfo}{z:Value}(hi:P.info? e=some i)(hz:i.zero=some z):(zeroValue e).run P w = .ok z w:=by
 simp [zeroValue,typeInfo,hi,hz]
def found (z:Value):Option (Nat×Value)→Value
 |some (_,v)=>v
 |none=>z
theorem NF {t k e:TypeId}{d:TypeDesc}(ht:P.underlying t=some (.map k e))(hd:P.underlying k=some d){key m z:Value}(hkey:MapKept.IsKey d key){es:Array MapEntry}(hm:(m = .map none∧es=#[])∨∃ r clock,m = .map (some r)∧w.heap[r]? = some (.map es clock))
  {f:Option (Nat×Value)} (hf:Instr.findNow d key es.toList 0=some f) (hz:(zeroValue e).run P w = .ok z w) (ok:Bool) :
  (Instr.lookup t m key ok).run P w = .ok (if ok then .tuple #[found z f,.bool f.isSome] else found z f) w:=by
 have hc:=MapKept.run_checkKey (w:=w) hd hkey es.isEmpty 9999
 have hk:=MapKept.run_findKey (w:=w) hd hf
 rcases hm with ⟨rfl,rfl⟩|⟨r,clock,rfl,hb⟩
 ·simp [Instr.lookup,run_underlying ht] at hc hk ⊢
  simp only [hc,hk,Result.andThen_ok]
  cases f with
  |none=>simp [hz,found]
  |some f=>simp [found]
 ·simp only [Instr.lookup,Sem.run_bind,run_underlying ht,Result.andThen_ok,MapKept.run_getObj_map hb,Sem.run_pure,hc,hk]
  cases f with
  |none=>simp [hz,found]
  |some f=>simp [found]
theorem stays {d:TypeDesc}{key:Value}(hk:MapKept.IsKey d key):(Instr.keyThatStays key key).run P w = .ok key w:=by
 have:Instr.sameBits 10000 key key=true:=by
  cases d<;>cases key<;>simp_all [MapKept.IsKey,Instr.sameBits,MapKept.bytes_beq]
 simp [Instr.keyThatStays,this]
def stored (es:List MapEntry)(clock:Nat)(key val:Value):Option (Nat×Value)→List MapEntry
 |some (i,_)=>es.modify i fun e=>{ e with key,val }
 |none=>es++[{ key,val,born:=clock }]
def kC (es:Array MapEntry)(clock:Nat):Prop:=clock=es.size∧∀ j (m:MapEntry),es[j]? = some m→m.born=j
theorem kC.push {es:Array MapEntry}{clock:Nat}(h:kC es clock)(key val:Value):kC (es.push { key,val,born:=clock }) (clock+1):=by
 obtain⟨h1,h2⟩:=h
 refine⟨by simp [h1],fun j m hm=>?_⟩
 rw [Array.getElem?_push] at hm
 split at hm
 ·rename_i e;cases hm;rw [e,h1]
 ·exact h2 j m hm
theorem kC.modify {es:Array MapEntry}{clock:Nat}(h:kC es clock)(i:Nat){f:MapEntry→MapEntry}(hf:∀ e,(f e).born=e.born):kC (es.modify i f) clock:=by
 obtain⟨h1,h2⟩:=h
 refine⟨by simp [h1],fun j m hm=>?_⟩
 rw [Array.getElem?_modify] at hm
 split at hm
 ·rename_i e;subst e
  obtain⟨e',he,rfl⟩:=Option.map_eq_some_iff.1 hm
  rw [hf,h2 _ _ he]
 ·exact h2 j m hm
theorem BC {t k e:TypeId}{d:TypeDesc}(ht:P.underlying t=some (.map k e))(hd:P.underlying k=some d){key val:Value}(hkey:MapKept.IsKey d key){r clock:Nat}{es:Array MapEntry}(hb:w.heap[r]? = some (.map es clock))
  {f:Option (Nat×Value)} (hf:Instr.findNow d key es.toList 0=some f) (hfk:∀ i v,f=some (i,v)→∃ x,es[i]? = some x∧x.key=key) :
  ∃ es' clock',(Instr.mapUpdate t (.map (some r)) key val).run P w = .ok () { w with heap:=w.heap.setIfInBounds r (.map es' clock') }∧
   es'.toList=stored es.toList clock key val f∧(kC es clock→kC es' clock'):=by
 have hc:=MapKept.run_checkKey (w:=w) hd hkey false 9999
 have hk:=MapKept.run_findKey (w:=w) hd hf
 cases f with
 |none=>
  refine⟨es.push { key,val,born:=clock },clock+1,?_,by simp [stored],fun h=>h.push _ _⟩
  simp [Instr.mapUpdate,run_underlying ht,MapKept.run_getObj_map hb,hc,hk,MapKept.run_setObj_map _ hb]
 |some f=>
  obtain⟨i,v⟩:=f
  obtain⟨x,hx,hxk⟩:=hfk i v rfl
  refine⟨es.modify i fun e=>{ e with key,val },clock,?_,by simp [stored],fun h=>h.modify _ fun _=>rfl⟩
  have e1:((es[i]?).map (·.key)).getD key=key:=by rw [hx];simpa using hxk
  simp only [Instr.mapUpdate,Sem.run_bind,run_underlying ht,Result.andThen_ok,MapKept.run_getObj_map hb,hc,hk,e1,stays hkey,MapKept.run_setObj_map _ hb]
end
section
variable {u:Nat→Option Obj} {p q:Nat→Prop} {g:G} {st:St} {a:Act} {w:World} {P:Program} {o:Oper} {R:Type} {K:V→St→Option R} {r:R}
theorem lW {t k e:TypeId}(h:FN P t=some (k,e)):P.underlying t=some (.map k e):=by
 unfold FN at h
 split at h
 ·rename_i k' e' he;cases h;exact he
 ·cases h
theorem MU (S:At u p g st a w)(hpq:∀ x,p x→q x){nid:Nat}(hfr:U7 p q nid){t:TypeId}(ho:o.op = .makeMap t none)
  (h:iW P t nid st K=some r):Goal u p q g st a w P o K r:=by
 unfold iW at h
 split at h
 ·rename_i k e ht
  obtain⟨hk,h⟩:=H3 h
  have hnp:=hfr.zero.1
  have hqo:=hfr.zero.2
  have ha:I6 p g ⟨g.h,fun x=>if x=nid then w.heap.size else g.blk x,g.hdr,g.ihdr⟩:=⟨fun _ _ h=>h,fun x hx=>by
   have:x≠nid:=fun e=>hnp (e▸hx)
   simp [this],fun _ _=>rfl,fun _ _=>rfl⟩
  refine Goal.res h (v:= .map (some w.heap.size)) (w':=w.alloc (.map #[] 0)) (by simp [execOp,ho,Instr.makeMap]) ?_ ha (Y6 ha) ?_ hqo rfl rfl
  ·refine S.hp.update ha rfl none (fun k hk _=>heap_alloc_old w _ hk) (fun b hb=>by cases hb) hpq nid ?_ ?_
   ·intro o' x hx hne
    rw [J7,if_neg hne] at hx
    exact⟨hx,fun b _ e=>by cases e⟩
   ·intro x hx
    rw [J7,if_pos rfl] at hx
    simp only [B1] at hx
    subst hx
    refine⟨⟨#[],0,?_,.nil,rfl,fun j m hm=>by simp at hm⟩,?_,hqo,trivial⟩
    ·simp only [if_true];exact heap_alloc_new w _
    ·intro b hb
     simp only [S9,if_true] at hb
     exact .inr (by omega)
  ·show Value.map _ = .map (some (if nid=nid then w.heap.size else g.blk nid))
   rw [if_pos rfl]
 ·cases h
theorem SF (S:At u p g st a w)(hpq:∀ x,p x→q x){t:TypeId}{x i:Operand}{ok:Bool}(ho:o.op = .lookup t x i ok)
  (h:gI P t (I1 st x) (I1 st i) ok st K=some r):Goal u p q g st a w P o K r:=by
 have hvx:=S.ev x
 have hvi:=S.ev i
 unfold gI at h
 split at h
 ·rename_i k e kd ht hi
  rw [hi] at hvi
  have hvi:VD g.h kd (a.eval i):=hvi
  split at h
  ·rename_i z xs hz hx
   obtain⟨hb,h⟩:=H3 h
   simp only [A9] at hb
   obtain⟨d,hd,hik⟩:=FI (hh:=g.h) hb.1
   have hkey:=hik _ _ hb.2 hvi
   obtain⟨inf,zv,hinf,hzv,hZ⟩:=fT hz
   have hzr:=tH (w:=w) hinf hzv
   have hm:∃ es:Array MapEntry,F2 (Gu g.h (Q0 P k)) xs es.toList∧((a.eval x = .map none∧es=#[])∨∃ r clock,a.eval x = .map (some r)∧w.heap[r]? = some (.map es clock)):=by
    split at hx
    ·rename_i no hxo
     rw [hxo] at hvx
     split at hx
     ·rename_i kt xs' hno
      obtain⟨hs,hx⟩:=H3 hx
      cases hx
      have hs:=Y2.vV hs
      subst hs
      obtain⟨es,clock,k1,k2,_⟩:=S.hp.ob _ _ hno
      exact⟨es,k2,.inr ⟨_,clock,hvx,k1⟩⟩
     ·cases hx
    ·rename_i hxo
     cases hx
     rw [hxo] at hvx
     exact⟨#[],.nil,.inl ⟨hvx,rfl⟩⟩
    ·cases hx
   obtain⟨es,hF,hm⟩:=hm
   unfold typed at h
   obtain⟨hty,h⟩:=H3 h
   simp only [A9] at hty
   have main:∀ (f:Option (Nat×Value)) (y:Value),Instr.findNow d (a.eval i) es.toList 0=some f→found zv f=y→VD g.h (getM z kd xs) y→f.isSome=LW kd xs→Goal u p q g st a w P o K r:=by
    intro f y hf hy hv hs
    have hrun:=NF (w:=w) (lW ht) hd hkey hm hf hzr ok
    rw [hy,hs] at hrun
    have hv:=dJ hty.2 hv
    cases ok with
    |true=>
     simp only [cond_true,if_true] at h hrun
     refine Goal.val S hpq h (v:= .tuple #[y,.bool (LW kd xs)]) (by simp only [execOp,ho];simp [hrun]) ⟨_,rfl,.cons hv (.cons rfl .nil)⟩ (fun v hv=>?_)
     simp only [B7,List.not_mem_nil,or_false] at hv
     rcases hv with rfl|rfl<;>trivial
    |false=>
     simp only [cond_false,D8,if_false] at h hrun
     exact Goal.val S hpq h (v:=y) (by simp only [execOp,ho];simp [hrun]) hv trivial
   rcases iS hb.1 hik hb.2 hvi xs es.toList 0 hF with ⟨k1,k2⟩|⟨j,x',e',k1,k2,k3,k4,k5,k6⟩
   ·refine main none zv k2 rfl ?_ ?_
    ·simp only [getM,k1];exact hZ _
    ·simp only [LW,k1];rfl
   ·refine main _ e'.val k2 rfl ?_ ?_
    ·simp only [getM,k1,k3,Option.getD_some];exact k6.2.1
    ·simp only [LW,k1];rfl
  ·cases h
 ·cases h
theorem GC (S:At u p g st a w)(hpq:∀ x,p x→q x){t:TypeId}{x i y:Operand}(ho:o.op = .mapUpdate t x i y)
  (h:lV P t (I1 st x) (I1 st i) (I1 st y) st K=some r):Goal u p q g st a w P o K r:=by
 have hvx:=S.ev x
 have hvi:=S.ev i
 have hvy:=S.ev y
 have huy:=S.L7 y
 unfold lV at h
 split at h
 ·rename_i k e kd no ht hi hx
  rw [hi] at hvi
  rw [hx] at hvx
  have hvi:VD g.h kd (a.eval i):=hvi
  have hvx:a.eval x = .map (some (g.blk no)):=hvx
  split at h
  ·rename_i kt xs dd fz hno hdd
   obtain⟨hb,h⟩:=H3 h
   simp only [A9] at hb
   obtain⟨⟨⟨hs,hko⟩,hkd⟩,_⟩:=hb
   have hs:=Y2.vV hs
   subst hs
   obtain⟨d,hd,hik⟩:=FI (hh:=g.h) hko
   have hkey:=hik _ _ hkd hvi
   obtain⟨g1,f1,f2,f3,f4,i1,j1⟩:=S.hp.freeze fz
   have hno1:K8 st.h fz no=some (.mp (Q0 P k) xs):=by
    rcases fC fz st.h no with k|k
    ·rw [k,hno]
    ·rw [k,hno];rfl
   obtain⟨es,clock,k1,k2,kb⟩:=f4.ob _ _ hno1
   have hvd:=iI hvy huy hdd (fun o ho=>ho) f1 f4 i1
   have hvi1:=W2 f1.h _ _ hvi
   have hik1:∀ (a:D) (x:Value),M0 (Q0 P k) a=true→VD g1.h a x→MapKept.IsKey d x:=by
    obtain⟨d',hd',hik'⟩:=FI (hh:=g1.h) hko
    rw [hd] at hd'
    cases hd'
    exact hik'
   have hbo:g1.blk no=g.blk no:=by rw [f2]
   have main:∀ f,Instr.findNow d (a.eval i) es.toList 0=some f→(∀ i' v,f=some (i',v)→∃ x,es[i']? = some x∧x.key=a.eval i)→
     F2 (Gu g1.h (Q0 P k)) (zL kd dd xs) (stored es.toList clock (a.eval i) (a.eval y) f)→Goal u p q g st a w P o K r:=by
    intro f hf hfk hF
    obtain⟨es',clock',hrun,hes,hbn⟩:=BC (w:=w) (val:=a.eval y) (lW ht) hd hkey k1 hf hfk
    obtain⟨m1,m2⟩:=MapKept.heap_set (o':=Obj.map es' clock') k1
    refine Goal.skip (w':={ w with heap:=w.heap.setIfInBounds (g1.blk no) (.map es' clock') }) (g':=g1) h (by simp only [execOp,ho,hvx];rw [← hbo];simp [hrun]) ?_ f1 ⟨f1.h,rfl,rfl,rfl,by simp⟩ rfl rfl
    refine (f4.update (w':={ w with heap:=w.heap.setIfInBounds (g1.blk no) (.map es' clock') }) (h':=((st.freeze fz).M7 no (some (.mp (Q0 P k) (zL kd dd xs)))).h) (I6.refl p g1) rfl (some (g1.blk no)) (fun b _ hb=>m2 b (fun e=>hb (by rw [e]))) (fun b hb=>?_) hpq no ?_ ?_)
    ·cases hb
     exact f4.sep no _ _ hno1 rfl
    ·intro o' x hx hne
     rw [J7,if_neg hne] at hx
     refine⟨hx,fun b hb e=>?_⟩
     cases e
     exact hne (f4.inj o' no _ _ _ hx hno1 hb rfl)
    ·intro x hx
     rw [J7,if_pos rfl] at hx
     simp only [B1] at hx
     subst hx
     refine⟨⟨es',clock',m1,?_,hbn kb⟩,fun b hb=>?_,hpq _ (f4.use _ _ hno1).1,trivial⟩
     ·rw [hes];exact hF
     ·simp only [S9] at hb
      exact .inl (by rw [hb])
   have hent:Gu g1.h (Q0 P k) (.agg [kd,dd]) { key:=a.eval i,val:=a.eval y,born:=clock }:=⟨hvi1,hvd,hkd⟩
   rcases iS hko hik1 hkd hvi1 xs es.toList 0 k2 with ⟨k1,k2'⟩|⟨j,x',e',k1,k2',k3,k4,k5,k6⟩
   ·refine main none k2' (fun _ _ h=>by cases h) ?_
    simp only [zL,k1]
    exact F2.append k2 (.cons hent .nil)
   ·refine main _ k2' (fun i' v h=>?_) ?_
    ·simp only [B1,C7] at h
     obtain⟨h,_⟩:=h
     rw [← h,C5]
     exact⟨e',by simpa using k4,k5⟩
    ·simp only [zL,k1,C5]
     exact F2.modify k2 fun b _=>⟨hvi1,hvd,hkd⟩
  ·cases h
 ·cases h
end
end Go.AE
namespace Go.AE
open Go.RowKit
section
variable {hh:Nat→Option Obj} {P:Program} {w:World}
def held (es:List MapEntry)(clock:Nat)(key z:Value):Option (Nat×Value)→List MapEntry
 |some (i,_)=>es.modify i fun e=>{ e with key }
 |none=>es++[{ key,val:=z,born:=clock }]
def sH (n:Nat):Option (Nat×Value)→Nat
 |some (i,_)=>i
 |none=>n
theorem GQ {t k e:TypeId}{d:TypeDesc}(ht:P.underlying t=some (.map k e))(hd:P.underlying k=some d){key z:Value}(hkey:MapKept.IsKey d key){r clock:Nat}{es:Array MapEntry}(hb:w.heap[r]? = some (.map es clock))
  {f:Option (Nat×Value)} (hf:Instr.findNow d key es.toList 0=some f) (hfk:∀ i v,f=some (i,v)→∃ x,es[i]? = some x∧x.key=key) (hz:(zeroValue e).run P w = .ok z w) (hB:kC es clock) :
  ∃ es' clock',(Instr.mapEntry t (.map (some r)) key).run P w = .ok (.tuple #[found z f,.int .i64 (sH es.size f:Nat)]) { w with heap:=w.heap.setIfInBounds r (.map es' clock') }∧
   es'.toList=held es.toList clock key z f∧kC es' clock':=by
 have hc:=MapKept.run_checkKey (w:=w) hd hkey false 9999
 have hk:=MapKept.run_findKey (w:=w) hd hf
 cases f with
 |none=>
  refine⟨es.push { key,val:=z,born:=clock },clock+1,?_,by simp [held],hB.push _ _⟩
  simp [Instr.mapEntry,run_underlying ht,MapKept.run_getObj_map hb,hc,hk,hz,MapKept.run_setObj_map _ hb,found,sH,goInt,hB.1]
 |some f=>
  obtain⟨i,v⟩:=f
  obtain⟨x,hx,hxk⟩:=hfk i v rfl
  refine⟨es.modify i fun e=>{ e with key },clock,?_,by simp [held],hB.modify _ fun _=>rfl⟩
  have e1:((es[i]?).map (·.key)).getD key=key:=by rw [hx];simpa using hxk
  have e2:((es[i]?).map fun x=>(x.born:Int)).getD 0=(i:Int):=by rw [hx,Option.map_some,Option.getD_some,hB.2 _ _ hx]
  simp only [Instr.mapEntry,Sem.run_bind,run_underlying ht,Result.andThen_ok,MapKept.run_getObj_map hb,hc,hk,e1,stays hkey,MapKept.run_setObj_map _ hb,e2]
  rfl
theorem ZU {es:Array MapEntry}{clock j:Nat}(hB:kC es clock)(hj:j<es.size):es.findIdx? (fun e=>(e.born:Int)==(j:Int))=some j:=by
 rw [Array.findIdx?_eq_some_iff_getElem]
 refine⟨hj,?_,fun i hi=>?_⟩
 ·rw [hB.2 j _ (C8 hj)];simp
 ·rw [hB.2 i _ (C8 (by omega))]
  simp;omega
theorem zP {t:TypeId}{r clock j:Nat}{es:Array MapEntry}(hb:w.heap[r]? = some (.map es clock))(hB:kC es clock)(hj:j<es.size)(ik:IntKind)(v:Value) :
  (Instr.entryStore t (.map (some r)) (.int ik j) v).run P w = .ok () { w with heap:=w.heap.setIfInBounds r (.map (es.modify j fun e=>{ e with val:=v }) clock) }:=by
 simp only [Instr.entryStore,Sem.run_bind,MapKept.run_getObj_map hb,Result.andThen_ok]
 have:(asInt (.int ik (j:Int))).run P w = .ok (j:Int) w:=rfl
 simp only [this,Result.andThen_ok,ZU hB hj,MapKept.run_setObj_map _ hb]
theorem An {es:Array MapEntry}{clock j:Nat}{e:MapEntry}(hB:kC es clock)(hj:es[j]? = some e):es.find? (fun e=>e.born==j)=some e:=by
 obtain⟨hlt,he⟩:=Array.getElem?_eq_some_iff.1 hj
 rw [Array.find?_eq_some_iff_getElem]
 refine⟨by rw [hB.2 j _ hj];simp,j,hlt,he,fun i hi=>?_⟩
 rw [hB.2 i _ (C8 (by omega))]
 simp;omega
theorem SI {r m n j:Nat}{ns:List Nat}{es:Array MapEntry}{e:MapEntry}(hr:w.heap[r]? = some (.mapIter (some m) n ns.toArray n))(hm:w.heap[m]? = some (.map es n))(hB:kC es n)(hl:ns.getLast? = some j)(hj:es[j]? = some e) :
  (Instr.entry (.pointer (some ⟨r,0,none⟩))).run P w = .ok (.tuple #[e.key,e.val]) w:=by
 have hb:ns.toArray.back? = some j:=by simpa using hl
 have g1:(getObj r).run P w = .ok (.mapIter (some m) n ns.toArray n) w:=by simp only [getObj,Sem.run,hr]
 simp only [Instr.entry,Sem.run_bind,g1,Result.andThen_ok,hb,MapKept.run_getObj_map hm,bne_self_eq_false,D8,if_false,An hB hj]
 rfl
theorem SJ {t k e:TypeId}{m clock:Nat}{es:Array MapEntry}(ht:P.underlying t=some (.map k e))(hb:w.heap[m]? = some (.map es clock)) :
  (Instr.range t (.map (some m))).run P w = .ok (.pointer (some ⟨w.heap.size,0,none⟩)) (w.alloc (.mapIter (some m) clock #[] clock)):=run_range_map w t k e m es clock ht hb
end
section
variable {u:Nat→Option Obj} {p q:Nat→Prop} {g:G} {st:St} {a:Act} {w:World} {P:Program} {o:Oper} {R:Type} {K:V→St→Option R} {r:R}
theorem J2.YE {h:Nat→Option Ob}(S:J2 u p g h w)(hpq:∀ x,p x→q x){no:Nat}{kt:Y2}{xs ys:List D}(hno:h no=some (.mp kt xs)){es':Array MapEntry}{clock':Nat}(hF:F2 (Gu g.h kt) ys es'.toList)(hB:kC es' clock'){es:Array MapEntry}{clock:Nat}(k1:w.heap[g.blk no]? = some (.map es clock)) :
  J2 u q g (fun x=>bif Nat.beq x no then some (.mp kt ys) else h x) { w with heap:=w.heap.setIfInBounds (g.blk no) (.map es' clock') }:=by
 obtain⟨m1,m2⟩:=MapKept.heap_set (o':=Obj.map es' clock') k1
 refine (S.update (I6.refl p g) rfl (some (g.blk no)) (fun b _ hb=>m2 b (fun e=>hb (by rw [e]))) (fun b hb=>?_) hpq no ?_ ?_)
 ·cases hb
  exact S.sep no _ _ hno rfl
 ·intro o' x hx hne
  have:Nat.beq o' no=false:=by
   cases k:Nat.beq o' no with
   |false=>rfl
   |true=>exact absurd (B0 k) hne
  rw [this] at hx
  refine⟨hx,fun b hb e=>?_⟩
  cases e
  exact hne (S.inj o' no _ _ _ hx hno hb rfl)
 ·intro x hx
  rw [show Nat.beq no no=true from Nat.beq_refl no] at hx
  simp only [cond_true,B1] at hx
  subst hx
  refine⟨⟨es',clock',m1,hF,hB⟩,fun b hb=>?_,hpq _ (S.use _ _ hno).1,trivial⟩
  simp only [S9] at hb
  exact .inl (by rw [hb])
theorem JM (S:At u p g st a w)(hpq:∀ x,p x→q x){t:TypeId}{x i:Operand}(ho:o.op = .mapEntry t x i)
  (h:lU P t (I1 st x) (I1 st i) st K=some r):Goal u p q g st a w P o K r:=by
 have hvx:=S.ev x
 have hvi:=S.ev i
 unfold lU at h
 split at h
 ·rename_i k e kd no ht hi hx
  rw [hi] at hvi
  rw [hx] at hvx
  have hvi:VD g.h kd (a.eval i):=hvi
  have hvx:a.eval x = .map (some (g.blk no)):=hvx
  split at h
  ·rename_i kt xs z hno hz
   obtain⟨hb,h⟩:=H3 h
   simp only [A9] at hb
   obtain⟨⟨⟨hs,hko⟩,hkd⟩,_⟩:=hb
   have hs:=Y2.vV hs
   subst hs
   obtain⟨d,hd,hik⟩:=FI (hh:=g.h) hko
   have hkey:=hik _ _ hkd hvi
   obtain⟨inf,zv,hinf,hzv,hZ⟩:=fT hz
   have hzr:=tH (w:=w) hinf hzv
   obtain⟨es,clock,k1,k2,kb⟩:=S.hp.ob _ _ hno
   have hlen:xs.length=es.size:=by rw [k2.length];simp
   unfold typed at h
   obtain⟨hty,h⟩:=H3 h
   simp only [A9] at hty
   have main:∀ f,Instr.findNow d (a.eval i) es.toList 0=some f→(∀ i' v,f=some (i',v)→∃ x,es[i']? = some x∧x.key=a.eval i)→
     F2 (Gu g.h (Q0 P k)) (zL kd (getM z kd xs) xs) (held es.toList clock (a.eval i) zv f)→VD g.h (getM z kd xs) (found zv f)→GU kd xs=sH es.size f→Goal u p q g st a w P o K r:=by
    intro f hf hfk hF hv hst
    obtain⟨es',clock',hrun,hes,hbn⟩:=GQ (w:=w) (lW ht) hd hkey k1 hf hfk hzr kb
    refine Goal.res (v:= .tuple #[found zv f,.int .i64 (sH es.size f:Nat)]) (w':={ w with heap:=w.heap.setIfInBounds (g.blk no) (.map es' clock') }) (g':=g) h (by simp only [execOp,ho,hvx];simp [hrun]) (S.hp.YE hpq hno (hes▸hF) hbn k1) (I6.refl p g) ⟨fun _ _ h=>h,rfl,rfl,rfl,by simp⟩ ?_ ?_ rfl rfl
    ·rw [hst]
     exact⟨_,rfl,.cons (dJ hty.2 hv) (.cons rfl .nil)⟩
    ·intro v hv
     simp only [B7,List.not_mem_nil,or_false] at hv
     rcases hv with rfl|rfl<;>trivial
   rcases iS hko hik hkd hvi xs es.toList 0 k2 with ⟨j1,j2⟩|⟨j,x',e',j1,j2,j3,j4,j5,j6⟩
   ·refine main none j2 (fun _ _ h=>by cases h) ?_ ?_ ?_
    ·simp only [zL,getM,j1]
     exact F2.append k2 (.cons ⟨hvi,hZ _,hkd⟩ .nil)
    ·simp only [getM,j1];exact hZ _
    ·simp only [GU,j1,sH];exact hlen
   ·refine main _ j2 (fun i' v h=>?_) ?_ ?_ ?_
    ·simp only [B1,C7] at h
     obtain⟨h,_⟩:=h
     rw [← h,C5]
     exact⟨e',by simpa using j4,j5⟩
    ·simp only [zL,getM,j1,held,C5]
     refine F2.modify k2 fun b hb=>⟨hvi,?_,hkd⟩
     rw [j4] at hb
     cases hb
     simp only [j3,Option.getD_some]
     exact j6.2.1
    ·simp only [getM,j1,j3,Option.getD_some];exact j6.2.1
    ·simp only [GU,j1,sH,C5]
  ·cases h
 ·cases h
theorem BA (S:At u p g st a w)(hpq:∀ x,p x→q x){t:TypeId}{x s y:Operand}(ho:o.op = .entryStore t x s y)
  (h:lO P t (I1 st x) (I1 st s) (I1 st y) st K=some r):Goal u p q g st a w P o K r:=by
 have hvx:=S.ev x
 have hvs:=S.ev s
 have hvy:=S.ev y
 have huy:=S.L7 y
 unfold lO at h
 split at h
 ·rename_i k e no ik n ht hx hs
  rw [hs] at hvs
  rw [hx] at hvx
  have hvs:a.eval s = .int ik n:=hvs
  have hvx:a.eval x = .map (some (g.blk no)):=hvx
  split at h
  ·rename_i kt xs dd fz hno hdd
   obtain⟨hb,h⟩:=H3 h
   simp only [A9,decide_eq_true_eq] at hb
   obtain⟨g1,f1,f2,f3,f4,i1,j1⟩:=S.hp.freeze fz
   have hno1:K8 st.h fz no=some (.mp kt xs):=by
    rcases fC fz st.h no with k|k
    ·rw [k,hno]
    ·rw [k,hno];rfl
   obtain⟨es,clock,k1,k2,kb⟩:=f4.ob _ _ hno1
   have hvd:=iI hvy huy hdd (fun o ho=>ho) f1 f4 i1
   have hbo:g1.blk no=g.blk no:=by rw [f2]
   have hlen:xs.length=es.size:=by rw [k2.length];simp
   have hj:n.toNat<es.size:=by omega
   have hn:(n.toNat:Int)=n:=Int.toNat_of_nonneg hb.1
   have hrun:=zP (P:=P) (t:=t) k1 kb hj ik (a.eval y)
   rw [hn] at hrun
   refine Goal.skip (w':={ w with heap:=w.heap.setIfInBounds (g1.blk no) (.map (es.modify n.toNat fun e=>{ e with val:=a.eval y }) clock) }) (g':=g1) h (by simp only [execOp,ho,hvx,hvs];rw [← hbo];simp [hrun]) (f4.YE hpq hno1 ?_ (kC.modify kb _ fun _=>rfl) k1) f1 ⟨f1.h,rfl,rfl,rfl,by simp⟩ rfl rfl
   rw [Array.toList_modify]
   refine F2.modify k2 fun b hb'=>?_
   have hx2:n.toNat<xs.length:=by omega
   obtain⟨b',hb2,hE⟩:=F2.get k2 n.toNat _ (C2 hx2)
   rw [hb2] at hb'
   cases hb'
   rw [C2 hx2,Option.getD_some]
   exact⟨hE.1,hvd,hE.2.2⟩
  ·cases h
 ·cases h
theorem XF (S:At u p g st a w)(hpq:∀ x,p x→q x){nid:Nat}(hfr:U7 p q nid){t:TypeId}{x:Operand}(ho:o.op = .range t x)
  (h:tD P t (I1 st x) nid st K=some r):Goal u p q g st a w P o K r:=by
 have hvx:=S.ev x
 have hux:=S.L7 x
 unfold tD at h
 split at h
 ·rename_i k e no ht hx
  rw [hx] at hvx hux
  have hvx:a.eval x = .map (some (g.blk no)):=hvx
  split at h
  ·rename_i kt xs hno
   obtain⟨es,clock,k1,k2,kb⟩:=S.hp.ob _ _ hno
   have hlen:xs.length=es.size:=by rw [k2.length];simp
   have hnp:=hfr.zero.1
   have hqo:=hfr.zero.2
   have hno':=(S.hp.use _ _ hno).1
   have hne:no≠nid:=fun e=>hnp (e▸hno')
   have ha:I6 p g ⟨g.h,fun x=>if x=nid then w.heap.size else g.blk x,g.hdr,g.ihdr⟩:=⟨fun _ _ h=>h,fun x hx=>by
    have:x≠nid:=fun e=>hnp (e▸hx)
    simp [this],fun _ _=>rfl,fun _ _=>rfl⟩
   refine Goal.res h (v:= .pointer (some ⟨w.heap.size,0,none⟩)) (w':=w.alloc (.mapIter (some (g.blk no)) clock #[] clock)) (by simp only [execOp,ho,hvx];simp [SJ (lW ht) k1]) ?_ ha (Y6 ha) ?_ hqo rfl rfl
   ·refine S.hp.update ha rfl none (fun k hk _=>heap_alloc_old w _ hk) (fun b hb=>by cases hb) hpq nid ?_ ?_
    ·intro o' x hx hne
     rw [J7,if_neg hne] at hx
     exact⟨hx,fun b _ e=>by cases e⟩
    ·intro x hx
     rw [J7,if_pos rfl] at hx
     simp only [B1] at hx
     subst hx
     refine⟨⟨xs.length,[],⟨.top,[],rfl,fun _=>Iff.rfl,fun k hk=>(by cases hk),fun _ _ h=>(by cases h)⟩,?_⟩,?_,hqo,hpq _ hno'⟩
     ·simp only [if_true,if_neg hne]
      rw [heap_alloc_new,hlen,kb.1]
     ·intro b hb
      simp only [S9,if_true] at hb
      exact .inr (by omega)
   ·show Value.pointer _ = .pointer (some ⟨if nid=nid then w.heap.size else g.blk nid,0,none⟩)
    rw [if_pos rfl]
  ·cases h
 ·cases h
theorem XA (S:At u p g st a w)(hpq:∀ x,p x→q x){x:Operand}(ho:o.op = .entry x)
  (h:rX P (I1 st x) st K=some r):Goal u p q g st a w P o K r:=by
 have hvx:=S.ev x
 unfold rX at h
 split at h
 ·rename_i no hx
  rw [hx] at hvx
  have hvx:a.eval x = .pointer (some ⟨g.blk no,0,none⟩):=hvx
  split at h
  ·rename_i t mo xs0 hno
   split at h
   ·rename_i k e kt xs ht hmo
    split at h
    ·rename_i ik jj hlast
     have hb:=eq_of_beq (H3 h).1
     replace h:=(H3 h).2
     obtain⟨n,ns,⟨last,ks,rfl,i1,i2,i3⟩,k1⟩:=S.hp.ob _ _ hno
     obtain⟨es,clock,m1,m2,kb⟩:=S.hp.ob _ _ hmo
     have hlen:xs.length=es.size:=by rw [m2.length];simp
     have hn:n=es.size:=by
      simp only [Y,D.i] at hb
      omega
     have hc:clock=n:=by rw [kb.1,hn]
     subst hc
     obtain⟨j,rfl,j1⟩:=i3 _ _ hlast
     have hj:=i2 j ((i1 j).1 (List.mem_of_getLast? j1))
     simp only [E3] at h
     obtain⟨e',he,hE⟩:=F2.get m2 j _ (C2 (show j<xs.length by omega))
     have he:es[j]? = some e':=by simpa using he
     rw [C2 (show j<xs.length by omega),Option.getD_some] at h
     unfold typed at h
     have t1:=(H3 h).1
     replace h:=(H3 h).2
     replace h:=(show (bif V9 (kA P e)&&eG (kA P e) (xs[j].at_ 1) then K (.tup [.d (L0 (.leaf (Q0 P k)) (xs[j].at_ 0)),.d (L0 (kA P e) (xs[j].at_ 1))]) st else none)=some r from h)
     have t2:=(H3 h).1
     replace h:=(H3 h).2
     simp only [A9] at t1 t2
     refine Goal.val S hpq h (v:= .tuple #[e'.key,e'.val]) (by simp only [execOp,ho,hvx];simp [SI k1 m1 kb j1 he]) ⟨_,rfl,.cons (dJ t1.2 hE.1) (.cons (dJ t2.2 hE.2.1) .nil)⟩ (fun v hv=>?_)
     simp only [B7,List.not_mem_nil,or_false] at hv
     rcases hv with rfl|rfl<;>trivial
    ·cases h
   ·cases h
  ·cases h
 ·cases h
end
end Go.AE
namespace Go.AE
open Go.RowKit
section
variable {u:Nat→Option Obj} {p q:Nat→Prop} {g:G} {st:St} {h h':Nat→Option Ob} {a:Act} {w w':World} {P:Program} {o:Oper} {R:Type} {K:V→St→Option R} {r:R}
theorem JQ {e sz n m:Nat}{v:Value}{us:List Value}(hown:w.ownsRow 0 e sz v n us)(hm:m≤n)(hok:jZ P e=true){t:TypeId}(ht:P.underlying t=some (.slice e)){hi:Option Operand}{hh:Int}(S:At u p g st a w)(hhi:aI n (hi.map (I1 st))=some hh)(hhm:hh.toNat=m)(h0:0≤hh) :
  ∃ v',(Instr.sliceAt t v ((none:Option Operand).map a.eval) (hi.map a.eval) none).run P w = .ok v' w∧w.ownsRow 0 e sz v' m (us.take (m*sz))∧∀ b,v'.ownBlock=some b→some b=v.ownBlock:=by
 have hl:aI 0 ((none:Option Operand).map (I1 st))=some 0:=rfl
 have h3:hh≤(n:Int):=by omega
 have hlen:(us.take (m*sz)).length=m*sz:=by
  rw [D9,hown.1]
  exact Nat.min_eq_left (Nat.mul_le_mul_right _ hm)
 rcases J0 hown with ⟨k1,k2,k3⟩|⟨b,cap,cur,k1,k2,k3,k4,k5,k6,k7⟩
 ·subst k1;subst k2
  have hbd:=eJ (P:=P) (b:=true) S hl hhi (Int.le_refl _) h0 h3 (B9 _)
  have hm0:m=0:=by omega
  refine⟨_,bN (A:=none) ht hok hbd,⟨hlen,.inl ⟨?_,hm0⟩⟩,fun b hb=>?_⟩
  ·simp [hhm,hm0]
  ·simp [Value.ownBlock] at hb
 ·subst k1
  have hbd:=eJ (P:=P) (b:=true) S hl hhi (Int.le_refl _) h0 h3 k3
  have hA:(if cap=Int.toNat 0 then some (⟨b,0,none⟩:Addr) else (some (⟨b,0,none⟩:Addr)).map (·.add (Int.toNat 0*K2 P e)))=some ⟨b,0,none⟩:=by
   split
   ·rfl
   ·simp [H8]
  have hrun:=bN (A:=some ⟨b,0,none⟩) ht hok hbd
  rw [hA] at hrun
  simp only [Int.toNat_zero,Nat.sub_zero,hhm] at hrun
  refine⟨_,hrun,⟨hlen,.inr ⟨b,cap,cur,rfl,C4 _,k2,by omega,k4,k5,?_⟩⟩,fun b' hb'=>?_⟩
  ·rw [← k6,List.take_take,Nat.min_eq_left (Nat.mul_le_mul_right _ hm)]
  ·simp only [Value.ownBlock,B1] at hb'
   simp [Value.ownBlock,hb']
theorem XI (S:At u p g st a w)(hpq:∀ x,p x→q x){nid:Nat}(hfr:U7 p q nid){x:Operand}{hi:Option Operand}{t:TypeId}(ho:o.op = .slice t x none hi none)
  (h:tM P t (I1 st x) (hi.map (I1 st)) nid st K=some r):Goal u p q g st a w P o K r:=by
 have hv:=S.ev x
 have run:∀ v,(Instr.sliceAt t (a.eval x) ((none:Option Operand).map a.eval) (hi.map a.eval) none).run P w = .ok v w→(execOp a.eval o).run P w = .ok (.value v) w:=by
  intro v e
  simp only [execOp,ho]
  simp only [Option.map_none] at e ⊢
  simp [e]
 unfold tM at h
 split at h
 ·rename_i e ro k hh he hx hhi
  have ht:=X2 he
  rw [hx] at hv
  have hv:a.eval x=g.hdr ro:=hv.1
  split at h
  ·rename_i e' sz xs hrow
   obtain⟨hc,h⟩:=H3 h
   simp only [A9,decide_eq_true_eq] at hc
   obtain⟨⟨⟨⟨c1,c2⟩,c3⟩,h1⟩,h2⟩:=hc
   have hee:e=e':=B0 c2
   subst hee
   obtain⟨us,hpos,hown,hf⟩:=S.hp.ob _ _ hrow
   have hpro:p ro:=(S.hp.use _ _ hrow).1
   have hne0:ro≠nid:=fun e=>hfr.zero.1 (e▸hpro)
   have hmn:hh.toNat≤xs.length:=by omega
   have hlt:(xs.take hh.toNat).length=hh.toNat:=by rw [D9];omega
   obtain⟨v',k1,k2,k5⟩:=JQ (m:=hh.toNat) hown hmn c1 ht S (by rw [hhi];rfl) rfl h1
   obtain⟨g',m1,m2,m3,m4,m5⟩:=R7 (e:=e) (sz:=sz) (xs:=xs.take hh.toNat) (v:=v') (us:=us.take (hh.toNat*sz)) (h':=(newRow (st.M7 ro none) nid e sz (xs.take hh.toNat)).h) S.hp hpq hfr.zero.1 hfr.zero.2 (World.grownBy.refl w (g.hdr ro).ownBlock) (by rw [hlt];exact k2) hpos (cV hh.toNat hf)
    (fun b hb=>S.hp.sep ro _ b hrow hb) (fun b hb=> .inl (k5 b hb)) (fun o' x hx hne=>by
     rw [newRow,J7,if_neg hne,J7] at hx
     split at hx
     ·cases hx
     ·rename_i hne2
      exact⟨hx,fun b hb e=>hne2 (S.hp.inj o' ro _ _ b hx hrow hb e.symm)⟩) (by rw [newRow,J7];simp)
   refine Goal.res h (run v' (by rw [hv];exact k1)) m5 m1 (lR (World.grownBy.refl w (g.hdr ro).ownBlock) m1) ⟨m4.symm,?_⟩ hfr.zero.2 rfl rfl
   rcases J0 k2 with ⟨rfl,_⟩|⟨_,_,_,rfl,_⟩<;>rfl
  ·cases h
 ·cases h
theorem WZ (S:At u p g st a w)(hpq:∀ x,p x→q x){x:Operand}{t:TypeId}{c:Call}(hop:o.op = .call c)(hcal:c.callee = .builtin .clear)(hargs:c.args=#[x])(hts:c.argTypes=#[t])
  (h:rU P t (I1 st x) st K=some r):Goal u p q g st a w P o K r:=by
 have hv:=S.ev x
 have exec:∀ v w',(Builtin.clear_ #[t] o.type #[a.eval x]).run P w = .ok v w'→(execOp a.eval o).run P w = .ok (.value v) w':=by
  intro v w' e
  simp only [execOp,hop,resolve,hcal,hargs,hts]
  simp [invoke,builtin,e]
 unfold rU at h
 split at h
 ·rename_i e ro z lo n he hx
  have ht:=X2 he
  rw [hx] at hv
  obtain⟨hln,A,cap,hA,hn,hcm,hr⟩:=hv
  split at h
  ·rename_i e' sz xs d hrow hz
   obtain⟨hc,h⟩:=H3 h
   simp only [A9] at hc
   obtain⟨⟨⟨⟨c1,c2⟩,c3⟩,c4⟩,c5⟩:=hc
   have hs:sz=K2 P e:=B0 c3
   have hzs:z=sz:=B0 c4
   subst hzs
   have hle:lo+n≤xs.length:=B3 c5
   obtain⟨i,z',hi',hzv,hV⟩:=fT hz
   obtain⟨i2,z2,hi,hb1,hb2,hb3,hb4⟩:=eC c1
   rw [hi] at hi'
   cases hi'
   rw [hb3] at hzv
   cases hzv
   have hsi:K2 P e=i.size:=by simp [K2,hi]
   rw [hsi] at hs
   obtain⟨d1,d2⟩:=mD c2 (hV g.h)
   by_cases hn0:n=0
   ·subst hn0
    have hxy:xs.take lo++List.replicate 0 d++xs.drop (lo+0)=xs:=by simp
    rw [hxy] at h
    have hst:st.M7 ro (some (.row e' z xs false))=st:=by
     have:(st.M7 ro (some (.row e' z xs false))).h=st.h:=by
      funext y
      rw [J7]
      split
      ·rename_i k;subst k;exact hrow.symm
      ·rfl
     show (⟨st.t,(st.M7 ro (some (.row e' z xs false))).h,st.m⟩:St)=st
     rw [this]
    rw [hst] at h
    refine Goal.val S hpq h (exec (.tuple #[]) w ?_) trivial trivial
    rw [hA]
    cases A<;>simp [Builtin.clear_,run_underlying ht]
   ·rcases hr with hr|⟨b,hb,hA2⟩
    ·exact absurd hr hn0
    ·obtain⟨cap2,cur,q1,q2,q3,q4,q5,q6,q7⟩:=rB S.hp hrow hb
     have hzc:(Builtin.zeroCells z'.cells n).toList=(List.replicate n z'.cells.toList).flatten:=by
      have:=bD z'.cells (by rw [hb4];exact hb2) n
      exact this
     have hzl:((List.replicate n z'.cells.toList).flatten).length=n*z:=by simp [hb4,hs]
     have hf1:aT g.h z (List.replicate n d) (List.replicate n z'.cells.toList).flatten:=by
      rw [hs];exact cL hb4 d1 (hV g.h) n
     have hmul:(lo+n)*z≤cap2*z:=Nat.mul_le_mul_right _ (by omega)
     have hmul2:(lo+n)*z≤xs.length*z:=Nat.mul_le_mul_right _ hle
     have hadd:(lo+n)*z=lo*z+n*z:=Nat.add_mul _ _ _
     have hfit:lo*z+0+((List.replicate n z'.cells.toList).flatten).length≤cur.size:=by rw [hzl];omega
     have hst:=run_storeCells_at P b (lo*z) e' (List.replicate n z'.cells.toList).flatten 0 cur w q3 hfit (fun v hv=>lJ hf1 v hv)
     rw [Nat.add_zero,hzl] at hst
     have hrun:(Builtin.clear_ #[t] o.type #[a.eval x]).run P w = .ok (.tuple #[]) (w.setRow b (cur.toList.take (lo*z)++(List.replicate n z'.cells.toList).flatten++cur.toList.drop (lo*z+n*z)).toArray):=by
      rw [hA,hA2]
      obtain⟨m,rfl⟩:∃ m,n=m+1:=⟨n-1,by omega⟩
      simp [Builtin.clear_,run_underlying ht,tH hi hb3,hzc,hst]
     have hl:((List.replicate n d)).length=n:=by simp
     have hcl:cur.toList.length=cur.size:=E4
     have hf':aT g.h z (xs.take lo++List.replicate n d++xs.drop (lo+n)) ((cur.toList.take (lo*z)++(List.replicate n z'.cells.toList).flatten++cur.toList.drop (lo*z+n*z)).take (xs.length*z)):=by
      have t1:(cur.toList.take (lo*z)).length=lo*z:=by rw [D9];omega
      have e1:(cur.toList.take (lo*z)++(List.replicate n z'.cells.toList).flatten++cur.toList.drop (lo*z+n*z)).take (xs.length*z)=(cur.toList.take (xs.length*z)).take (lo*z)++(List.replicate n z'.cells.toList).flatten++(cur.toList.take (xs.length*z)).drop ((lo+n)*z):=by
       rw [List.take_append,List.take_append,List.take_of_length_le (l:=cur.toList.take (lo*z)) (by omega),List.take_of_length_le (l:=(List.replicate n z'.cells.toList).flatten) (by omega)]
       rw [List.take_take,Nat.min_eq_left (by omega),hadd,List.drop_take]
       congr 2
       simp only [A7,t1,hzl]
      rw [e1]
      exact bY (bY (cV lo q7) hf1) (eR (lo+n) q7)
     have hsim:=oL (h':=(st.M7 ro (some (.row e' z (xs.take lo++List.replicate n d++xs.drop (lo+n)) false))).h) (c':=(cur.toList.take (lo*z)++(List.replicate n z'.cells.toList).flatten++cur.toList.drop (lo*z+n*z)).toArray) S.hp hrow hb q3
      (by simp only [List.size_toArray,A7,D9,F8,hzl,hcl];omega)
      (by simp;omega) (by simpa using hf') (fun x=>J7 _ _ _ _)
     refine Goal.res h (v:= .tuple #[]) (exec _ _ hrun) (hsim.more hpq) (I6.refl p g) (X3 (I6.refl p g) _ _) trivial trivial rfl rfl
  ·cases h
 ·cases h
end
end Go.AE
namespace Go.AE
open Go.RowKit
theorem eF:∀ {ren:List (Nat×Nat)} {l o:Nat},I4 ren l=some o→VJ ren o=true
 |[],_,_,h=>by cases h
 |(a,b)::r,l,o,h=>by
  simp only [I4] at h
  simp only [VJ,Bool.or_eq_true]
  cases e:Nat.beq l a with
  |true=>rw [e] at h;simp only [cond_true,B1] at h;subst h;exact .inl (Nat.beq_refl b)
  |false=>rw [e] at h;exact .inr (eF h)
def fV (ren:List (Nat×Nat)):Prop:=∀ l l' o,I4 ren l=some o→I4 ren l'=some o→l=l'
theorem fH {ren:List (Nat×Nat)}{l o x:Nat}:I4 ((l,o)::ren) x=if x=l then some o else I4 ren x:=by
 simp only [I4]
 by_cases e:x=l
 ·rw [if_pos e,beq_iff.2 e];rfl
 ·rw [if_neg e]
  cases k:Nat.beq x l with
  |true=>exact absurd (beq_iff.1 k) e
  |false=>rfl
theorem oX {ren ren':List (Nat×Nat)}{l o:Nat}(h:KX ren l o=some ren'):I4 ren' l=some o∧(∀ l' o',I4 ren l'=some o'→I4 ren' l'=some o')∧(fV ren→fV ren'):=by
 unfold KX at h
 split at h
 ·rename_i o' e
  obtain⟨hb,h⟩:=H3 h
  cases h
  have:o=o':=beq_iff.1 hb
  subst this
  exact⟨e,fun _ _ h=>h,id⟩
 ·rename_i e
  obtain⟨hb,h⟩:=I2 h
  cases h
  refine⟨by rw [fH,if_pos rfl],fun l' o' hl'=>?_,fun h1=>?_⟩
  ·rw [fH,if_neg]
   ·exact hl'
   ·intro e';rw [e',e] at hl';cases hl'
  ·intro a b x ha hb'
   rw [fH] at ha hb'
   split at ha<;>split at hb'
   ·rename_i k1 k2;rw [k1,k2]
   ·rename_i k1 k2
    cases ha
    have:=eF hb'
    rw [hb] at this;cases this
   ·rename_i k1 k2
    cases hb'
    have:=eF ha
    rw [hb] at this;cases this
   ·exact h1 a b x ha hb'
theorem yQ {n:Nat}:∀ {ren:List (Nat×Nat)},PC n ren=true→∀ l o,I4 ren l=some o→l<n
 |[],_,_,_,h=>by cases h
 |(a,b)::r,h,l,o,hl=>by
  simp only [PC,A9] at h
  rw [fH] at hl
  split at hl
  ·rename_i e;subst e
   have h1:Nat.ble (l+1) n=true:=h.1
   exact B3 h1
  ·exact yQ h.2 l o hl
theorem BM {ren:List (Nat×Nat)}:∀ {os:List Nat},EB ren os=true→∀ l o,I4 ren l=some o→o∉os
 |[],_,_,_,_=>by simp
 |o'::os,h,l,o,hl=>by
  simp only [EB,A9,E1] at h
  intro hm
  rcases B7.1 hm with rfl|hm
  ·rw [eF hl] at h;simp at h
  ·exact BM h.2 l o hl hm
structure Le (c F:Cf):Prop where
 ds:∃ t,F.ds=c.ds++t
 fz:∀ o∈c.fz,o∈F.fz
 ren:∀ l o,I4 c.ren l=some o→I4 F.ren l=some o
theorem Le.refl (c:Cf):Le c c:=⟨⟨[],by simp⟩,fun _ h=>h,fun _ _ h=>h⟩
theorem Le.trans {a b c:Cf}(h:Le a b)(h':Le b c):Le a c:=by
 obtain⟨⟨t,ht⟩,h2,h3⟩:=h
 obtain⟨⟨t',ht'⟩,h2',h3'⟩:=h'
 exact⟨⟨t++t',by rw [ht',ht];simp⟩,fun o k=>h2' o (h2 o k),fun l o k=>h3' l o (h3 l o k)⟩
theorem yX:∀ (a:List D) (x:D) (t:List D),Y (a++x::t) a.length=x
 |[],_,_=>rfl
 |_::a,x,t=>by simpa [Y] using yX a x t
theorem Le.Y {c F:Cf}{x:D}(h:Le ⟨c.ds++[x],c.fz,c.ren⟩ F):AE.Y F.ds c.ds.length=x:=by
 obtain⟨t,ht⟩:=h.ds
 rw [ht]
 simp only [C1,List.singleton_append]
 exact yX _ _ _
def E0:Ty→D→D:=fun _ x=>x
def eL (g gF:G)(ren:List (Nat×Nat)):G:=⟨gF.h,fun l=>g.blk ((I4 ren l).getD 0),fun l=>g.hdr ((I4 ren l).getD 0),fun l=>g.ihdr ((I4 ren l).getD 0)⟩
section
variable {u:Nat→Option Obj} {p q:Nat→Prop} {g gF:G} {h:Nat→Option Ob} {w:World} {F:Cf}
theorem WH {cs:List V}{t o f:Nat}:T8 cs≠ .bp t o f:=by
 unfold T8
 split<;>exact fun h=>by cases h
theorem Bg {E:Ty→D→D}{ds:List D}{s:SV}{j t o f:Nat}(h:(S7 E ds s j).1 = .bp t o f):s = .bp t o f:=by
 match s,h with
 | .bp ..,h=>cases h;rfl
 | .agg ss,h=>exact absurd h WH
 | .fn _ [],h=>cases h
 | .fn _ (_::_),h=>cases h
 | .d _,h=>cases h
 | .ptr ..,h=>cases h
 | .row ..,h=>cases h
 | .mp ..,h=>cases h
 | .x,h=>cases h
theorem kT {E:Ty→D→D}{ds:List D}{t o f:Nat}:∀ {ss:List SV} {j:Nat},V.bp t o f∈(K9 E ds ss j).1→SV.bp t o f∈ss
 |[],j,h=>by cases h
 |s::ss,j,h=>by
  simp only [K9] at h
  rcases B7.1 h with h|h
  ·rw [Bg h.symm];exact B8 ..
  ·exact C0 _ (kT h)
theorem qL {E:Ty→D→D}{ds:List D}{t o f:Nat}:∀ {ss:List SV} {j:Nat},SV.bp t o f∈ss→V.bp t o f∈(K9 E ds ss j).1
 |[],j,h=>by cases h
 |s::ss,j,h=>by
  simp only [K9]
  rcases B7.1 h with h|h
  ·subst h;exact B8 ..
  ·exact C0 _ (qL h)
theorem pR {h:Nat→Option Ob}{t l f:Nat}:∀ {ss:List SV} {cs:List V} {c c':Cf},Y5 h c ss cs=some c'→SV.bp t l f∈ss→∃ o f',V.bp t o f'∈cs
 |[],[],c,c',_,hm=>by cases hm
 |[],_::_,c,c',hc,hm=>by cases hm
 |_::_,[],c,c',hc,hm=>by cases hc
 |s::ss,v::vs,c,c',hc,hm=>by
  simp only [Y5] at hc
  split at hc
  ·rename_i c1 h1
   rcases B7.1 hm with hm|hm
   ·subst hm
    match v,h1 with
    | .bp t' o f',h1=>
     simp only [tY] at h1
     obtain⟨hb,_⟩:=H3 h1
     simp only [A9] at hb
     rw [beq_iff.1 hb.1]
     exact⟨o,f',B8 ..⟩
    | .d (.agg _),h1=>simp [tY,X0] at h1
    | .d .top,h1 | .d (.bool _),h1 | .d (.int _ _),h1 | .d (.str _),h1 | .d (.Z _ _),h1 | .d (.nils _ _),h1 | .d .und,h1 | .d (.fn _),h1 | .d .nilp,h1 | .d .nilf,h1 | .d .nilm,h1 | .d .nili,h1 | .d .ub,h1 | .d (.iface _ _),h1 | .d (.meth ..),h1=>simp [tY,X0] at h1
    | .ptr ..,h1 | .el ..,h1 | .rp ..,h1 | .row _,h1 | .sub ..,h1 | .agg _,h1 | .fn _ _,h1 | .tup _,h1 | .mp _,h1 | .ir ..,h1 | .irp ..,h1=>simp [tY,X0] at h1
   ·obtain⟨o,f',h⟩:=pR hc hm
    exact⟨o,f',C0 _ h⟩
  ·cases hc
structure CX (u:Nat→Option Obj) (p q:Nat→Prop) (g gF:G) (h:Nat→Option Ob) (w:World) (F:Cf):Prop where
 S:J2 u p gF (K8 h F.fz) w
 a:I6 p g gF
 q:∀ l o,I4 F.ren l=some o→q l
 ir:HM h F.fz g gF
theorem tX (X:CX u p q g gF h w F){c c':Cf}{s:SV}{v:V}(hc:X0 h c s v=some c')(hF:Le c' F) :
  Le c c'∧c'.ds.length=(M3 E0 F.ds s c.ds.length).2∧(fV c.ren→fV c'.ren)∧∀ val,VV g v val→v.K5 p→VL (eL g gF F.ren) (M3 E0 F.ds s c.ds.length).1 val∧(M3 E0 F.ds s c.ds.length).1.aS q:=by
 unfold X0 at hc
 split at hc
 ·split at hc
  ·rename_i x fz hd
   cases hc
   rename_i t _
   refine⟨⟨⟨[oD t x],rfl⟩,fun o h=>by simp [h],fun _ _ h=>h⟩,by simp [M3],id,fun val hv hu=>?_⟩
   have hn:Y F.ds c.ds.length=oD t x:=by
    obtain⟨t,ht⟩:=hF.ds
    rw [ht]
    simp only [C1,List.singleton_append]
    exact yX _ _ _
   simp only [M3,E0,hn]
   have hv':VD gF.h (oD t x) val:=sO (oO hv hu hd (fun o ho=>hF.fz o (by simp [ho])) X.a X.S X.ir)
   exact⟨hv',trivial⟩
  ·cases hc
 ·obtain⟨hb,hc⟩:=H3 hc
  simp only [A9] at hb
  split at hc
  ·rename_i l f o f' _ _ r hr
   cases hc
   obtain⟨k1,k2,k3⟩:=oX hr
   refine⟨⟨⟨[],by simp⟩,fun _ h=>h,k2⟩,rfl,k3,fun val hv _=>?_⟩
   have hl:=hF.ren _ _ k1
   have hff:f=f':=beq_iff.1 hb.1
   subst hff
   refine⟨?_,X.q _ _ hl⟩
   show val=_
   simp only [eL,hl,Option.getD_some]
   exact hv
  ·cases hc
 ·obtain⟨hb,hc⟩:=H3 hc
  split at hc
  ·rename_i l o _ _ r hr
   cases hc
   obtain⟨k1,k2,k3⟩:=oX hr
   refine⟨⟨⟨[],by simp⟩,fun _ h=>h,k2⟩,rfl,k3,fun val hv _=>?_⟩
   have hl:=hF.ren _ _ k1
   refine⟨?_,X.q _ _ hl⟩
   show val=_∧_
   simp only [eL,hl,Option.getD_some]
   exact hv
  ·cases hc
 ·cases hc
  exact⟨Le.refl c,rfl,id,fun val _ _=>⟨(trivial:VD _ .top _),trivial⟩⟩
 ·obtain⟨hb,hc⟩:=H3 hc
  split at hc
  ·rename_i l o _ _ r hr
   cases hc
   obtain⟨k1,k2,k3⟩:=oX hr
   refine⟨⟨⟨[],by simp⟩,fun _ h=>h,k2⟩,rfl,k3,fun val hv _=>?_⟩
   have hl:=hF.ren _ _ k1
   refine⟨?_,X.q _ _ hl⟩
   show val=_
   simp only [eL,hl,Option.getD_some]
   exact hv
  ·cases hc
 ·obtain⟨hb,hc⟩:=H3 hc
  cases hc
  refine⟨Le.refl c,rfl,id,fun val hv _=>⟨?_,trivial⟩⟩
  rw [beq_iff.1 hb];exact hv
 ·obtain⟨hb,hc⟩:=H3 hc
  cases hc
  refine⟨Le.refl c,rfl,id,fun val hv _=>⟨?_,trivial⟩⟩
  rw [beq_iff.1 hb];exact hv
 ·cases hc
theorem kH (X:CX u p q g gF h w F):∀ {ss:List SV} {vs:List V} {c c':Cf},V1 h c ss vs=some c'→Le c' F→
  Le c c'∧c'.ds.length=(J4 E0 F.ds ss c.ds.length).2∧(fV c.ren→fV c'.ren)∧∀ vals,F2 (VV g) vs vals→(∀ v∈vs,v.K5 p)→F2 (VL (eL g gF F.ren)) (J4 E0 F.ds ss c.ds.length).1 vals∧∀ v∈(J4 E0 F.ds ss c.ds.length).1,v.aS q
 |[],[],c,c',hc,hF=>by
  simp only [V1,B1] at hc
  subst hc
  exact⟨Le.refl c,rfl,id,fun vals hv _=>by cases hv;exact⟨.nil,fun v hv=>by cases hv⟩⟩
 |s::ss,v::vs,c,c',hc,hF=>by
  simp only [V1] at hc
  split at hc
  ·rename_i c1 h1
   obtain⟨a1,a2,a3,a4⟩:=kH X hc hF
   obtain⟨b1,b2,b3,b4⟩:=tX X h1 (a1.trans hF)
   have e1:J4 E0 F.ds (s::ss) c.ds.length=((M3 E0 F.ds s c.ds.length).1::(J4 E0 F.ds ss c1.ds.length).1,(J4 E0 F.ds ss c1.ds.length).2):=by
    simp only [J4];rw [b2]
   refine⟨b1.trans a1,by rw [e1];exact a2,fun k=>a3 (b3 k),fun vals hv hu=>?_⟩
   rw [e1]
   cases hv with
   |cons hv1 hv2=>
    obtain⟨x1,x2⟩:=b4 _ hv1 (hu v (by simp))
    obtain⟨y1,y2⟩:=a4 _ hv2 (fun v' hv'=>hu v' (by simp [hv']))
    exact⟨.cons x1 y1,fun v' hv'=>by rcases B7.1 hv' with rfl|hv';exact x2;exact y2 v' hv'⟩
  ·cases hc
 |[],_::_,_,_,hc,_=>by simp [V1] at hc
 |_::_,[],_,_,hc,_=>by simp [V1] at hc
theorem X6 {E:Ty→D→D}{ds:List D}:∀ (ss:List SV) (j:Nat),(J4 E ds ss j).1.length=ss.length
 |[],_=>rfl
 |s::ss,j=>by simp only [J4,A0];rw [X6 ss]
theorem IA (X:CX u p q g gF h w F){c c':Cf}{s:SV}{v:V}(hc:tY h c s v=some c')(hF:Le c' F) :
  Le c c'∧c'.ds.length=(S7 E0 F.ds s c.ds.length).2∧(fV c.ren→fV c'.ren)∧∀ val,VV g v val→v.K5 p→VA (eL g gF F.ren) (S7 E0 F.ds s c.ds.length).1 val∧(S7 E0 F.ds s c.ds.length).1.K7 q:=by
 have leaf:S7 E0 F.ds s c.ds.length=M3 E0 F.ds s c.ds.length→X0 h c s v=some c'→Le c c'∧c'.ds.length=(S7 E0 F.ds s c.ds.length).2∧(fV c.ren→fV c'.ren)∧
   ∀ val,VV g v val→v.K5 p→VA (eL g gF F.ren) (S7 E0 F.ds s c.ds.length).1 val∧(S7 E0 F.ds s c.ds.length).1.K7 q:=by
  intro e hc
  obtain⟨a1,a2,a3,a4⟩:=tX X hc hF
  rw [e]
  refine⟨a1,a2,a3,fun val hv hu=>?_⟩
  obtain⟨x1,x2⟩:=a4 val hv hu
  exact⟨W6 x1,aV x1 x2⟩
 have aggs:∀ ss cs,s = .agg ss→V1 h c ss cs=some c'→(∀ val,VV g v val→v.K5 p→∃ us:Array Value,val = .agg us∧F2 (VV g) cs us.toList∧∀ x∈cs,x.K5 p)→
   Le c c'∧c'.ds.length=(S7 E0 F.ds s c.ds.length).2∧(fV c.ren→fV c'.ren)∧∀ val,VV g v val→v.K5 p→VA (eL g gF F.ren) (S7 E0 F.ds s c.ds.length).1 val∧(S7 E0 F.ds s c.ds.length).1.K7 q:=by
  intro ss cs hs hcc hval
  subst hs
  obtain⟨a1,a2,a3,a4⟩:=kH X hcc hF
  have e:S7 E0 F.ds (.agg ss) c.ds.length=(T8 (J4 E0 F.ds ss c.ds.length).1,(J4 E0 F.ds ss c.ds.length).2):=rfl
  rw [e]
  refine⟨a1,a2,a3,fun val hv hu=>?_⟩
  obtain⟨us,rfl,hF2,huse⟩:=hval val hv hu
  obtain⟨x1,x2⟩:=a4 us.toList hF2 huse
  have:=hY (x1.mono fun _ _ _ h=>W6 h)
  rw [Array.toArray_toList] at this
  refine⟨this,cD fun y hy=>?_⟩
  obtain⟨b,_,hb⟩:=x1.mem y hy
  exact aV hb (x2 y hy)
 unfold tY at hc
 split at hc
 ·rename_i f caps f' caps'
  obtain⟨hb,hcc⟩:=H3 hc
  have hff:f=f':=beq_iff.1 hb
  subst hff
  clear hc
  obtain⟨a1,a2,a3,a4⟩:=kH X hcc hF
  cases caps with
  |nil=>
   have hnil:caps'=[]:=by cases caps' with|nil=>rfl|cons=>simp [V1] at hcc
   subst hnil
   refine⟨a1,a2,a3,fun val hv _=>⟨hv,trivial⟩⟩
  |cons s0 caps=>
   cases caps' with
   |nil=>simp [V1] at hcc
   |cons v0 caps'=>
    have e:S7 E0 F.ds (.fn f (s0::caps)) c.ds.length=(.fn f (J4 E0 F.ds (s0::caps) c.ds.length).1,(J4 E0 F.ds (s0::caps) c.ds.length).2):=rfl
    rw [e]
    refine⟨a1,a2,a3,fun val hv hu=>?_⟩
    obtain⟨us,rfl,hF2⟩:=hv
    have hu':∀ x∈v0::caps',x.K5 p:=fun x hx=>by
     obtain⟨b,_,hb⟩:=hF2.mem x hx
     exact O2 (aV hb (hu x hx))
    obtain⟨x1,x2⟩:=a4 us.toList (hF2.mono fun _ _ _ h=>P1 (W6 h)) hu'
    have hlen:=X6 (E:=E0) (ds:=F.ds) (s0::caps) c.ds.length
    refine⟨?_,x2⟩
    generalize (J4 E0 F.ds (s0::caps) c.ds.length).1=vs at *
    cases vs with
    |nil=>simp at hlen
    |cons y ys=>exact⟨us,rfl,x1⟩
 ·rename_i t l f t' o f'
  obtain⟨hb,hc⟩:=H3 hc
  simp only [A9] at hb
  split at hc
  ·rename_i r hr
   cases hc
   obtain⟨k1,k2,k3⟩:=oX hr
   refine⟨⟨⟨[],by simp⟩,fun _ h=>h,k2⟩,rfl,k3,fun val hv _=>?_⟩
   have hl:=hF.ren _ _ k1
   have hff:f=f':=beq_iff.1 hb.2
   subst hff
   refine⟨?_,X.q _ _ hl⟩
   show val=_∨val=_
   simp only [eL,hl,Option.getD_some]
   exact hv
  ·cases hc
 ·rename_i ss cs
  refine aggs ss cs rfl hc (fun val hv hu=>?_)
  obtain⟨us,h1,h2⟩:=KW hv
  refine⟨us,h1,h2.mono fun _ _ _ h=>P1 (W6 h),fun x hx=>?_⟩
  obtain⟨b,_,hb⟩:=h2.mem x hx
  exact O2 (aV hb (hu x hx))
 ·rename_i ss cs
  refine aggs ss _ rfl hc (fun val hv hu=>?_)
  obtain⟨us,h1,h2⟩:=hv
  refine⟨us,h1,F2.qT (((W7 _ _ _).1 h2).mono fun _ _ _ h=>h),fun x hx=>?_⟩
  obtain⟨d,_,rfl⟩:=List.mem_map.1 hx;trivial
 ·rename_i h1 h2 h3
  refine leaf ?_ hc
  unfold S7
  split
  ·rename_i f s0 caps
   exfalso
   simp only [X0] at hc
   cases hc
  ·rename_i ss
   simp only [X0] at hc
   cases hc
  ·simp only [X0] at hc
   cases hc
  ·rfl
theorem pS (X:CX u p q g gF h w F):∀ {ss:List SV} {vs:List V} {c c':Cf},Y5 h c ss vs=some c'→Le c' F→
  Le c c'∧c'.ds.length=(K9 E0 F.ds ss c.ds.length).2∧(fV c.ren→fV c'.ren)∧∀ vals,F2 (VA g) vs vals→(∀ v∈vs,v.K7 p)→F2 (VA (eL g gF F.ren)) (K9 E0 F.ds ss c.ds.length).1 vals∧∀ v∈(K9 E0 F.ds ss c.ds.length).1,v.K7 q
 |[],[],c,c',hc,hF=>by
  simp only [Y5,B1] at hc
  subst hc
  exact⟨Le.refl c,rfl,id,fun vals hv _=>by cases hv;exact⟨.nil,fun v hv=>by cases hv⟩⟩
 |s::ss,v::vs,c,c',hc,hF=>by
  simp only [Y5] at hc
  split at hc
  ·rename_i c1 h1
   obtain⟨a1,a2,a3,a4⟩:=pS X hc hF
   obtain⟨b1,b2,b3,b4⟩:=IA X h1 (a1.trans hF)
   have e1:K9 E0 F.ds (s::ss) c.ds.length=((S7 E0 F.ds s c.ds.length).1::(K9 E0 F.ds ss c1.ds.length).1,(K9 E0 F.ds ss c1.ds.length).2):=by
    simp only [K9];rw [b2]
   refine⟨b1.trans a1,by rw [e1];exact a2,fun k=>a3 (b3 k),fun vals hv hu=>?_⟩
   rw [e1]
   cases hv with
   |cons hv1 hv2=>
    obtain⟨x1,x2⟩:=b4 _ (P1 hv1) (O2 (hu v (by simp)))
    obtain⟨y1,y2⟩:=a4 _ hv2 (fun v' hv'=>hu v' (by simp [hv']))
    exact⟨.cons x1 y1,fun v' hv'=>by rcases B7.1 hv' with rfl|hv';exact x2;exact y2 v' hv'⟩
  ·cases hc
 |[],_::_,_,_,hc,_=>by simp [Y5] at hc
 |_::_,[],_,_,hc,_=>by simp [Y5] at hc
theorem pW {st:St}(X:CX u p q g gF st.h w F){tm:Nat→Value}(ht:∀ t,VV g (st.t t) (tm t))(hu:∀ t,(st.t t).K5 p):∀ {sl:List (Nat×SV)} {c c':Cf},gX st c sl=some c'→Le c' F→
  Le c c'∧c'.ds.length=(L1 E0 F.ds sl c.ds.length).2∧(fV c.ren→fV c'.ren)∧∀ t,VV (eL g gF F.ren) ((L1 E0 F.ds sl c.ds.length).1 t) (tm t)∧((L1 E0 F.ds sl c.ds.length).1 t).K5 q
 |[],c,c',hc,hF=>by
  simp only [gX,B1] at hc
  subst hc
  exact⟨Le.refl c,rfl,id,fun t=>⟨(trivial:VD _ .top _),trivial⟩⟩
 |(t0,s)::sl,c,c',hc,hF=>by
  simp only [gX] at hc
  split at hc
  ·rename_i c1 h1
   obtain⟨a1,a2,a3,a4⟩:=pW X ht hu hc hF
   obtain⟨b1,b2,b3,b4⟩:=IA X h1 (a1.trans hF)
   obtain⟨x1,x2⟩:=b4 _ (ht t0) (hu t0)
   refine⟨b1.trans a1,?_,fun k=>a3 (b3 k),fun t=>?_⟩
   ·simp only [L1];rw [← b2];exact a2
   ·simp only [L1]
    rw [← b2]
    by_cases e:t=t0
    ·subst e
     rw [beq_iff.2 rfl]
     exact⟨P1 x1,O2 x2⟩
    ·have:Nat.beq t t0=false:=by
      cases k:Nat.beq t t0 with
      |true=>exact absurd (beq_iff.1 k) e
      |false=>rfl
     rw [this]
     exact a4 t
  ·cases hc
def TN (g g0:G)(p q:Nat→Prop)(h:Nat→Option Ob)(w:World)(ren:List (Nat×Nat))(l:Nat)(x0:Ob):Prop:=
 OB g0 l x0 w∧x0.K5 q∧∃ o x,I4 ren l=some o∧h o=some x∧(∀ b,S9 g0 l x0 b→S9 g o x b)
theorem aE (X:CX u p q g gF h w F)(S:J2 u p g h w):∀ {obs:List eQ} {l:Nat} {c c':Cf},W4 h c l obs=some c'→Le c' F→(c'.fz=c.fz∨True)→
  Le c c'∧(fV c.ren→fV c'.ren)∧∀ l0 x0,J3 E0 F.ds obs l c.ds.length l0=some x0→TN g (eL g gF F.ren) p q h w F.ren l0 x0
 |[],l,c,c',hc,hF,_=>by
  simp only [W4,B1] at hc
  subst hc
  exact⟨Le.refl c,id,fun l0 x0 h0=>by simp [J3] at h0⟩
 | .gone::r,l,c,c',hc,hF,hz=>aE X S (obs:=r) (l:=l+1) hc hF hz
 | .var ss::r,l,c,c',hc,hF,_=>by
  simp only [W4] at hc
  split at hc
  ·rename_i o hl
   split at hc
   ·rename_i cs ho
    split at hc
    ·rename_i c1 h1
     obtain⟨a1,a3,a4⟩:=aE X S hc hF (.inr trivial)
     obtain⟨b1,b2,b3,b4⟩:=pS X h1 (a1.trans hF)
     refine⟨b1.trans a1,fun k=>a3 (b3 k),fun l0 x0 h0=>?_⟩
     have e1:J3 E0 F.ds (.var ss::r) l c.ds.length l0=bif Nat.beq l0 l then some (.var (K9 E0 F.ds ss c.ds.length).1) else J3 E0 F.ds r (l+1) c1.ds.length l0:=by
      simp only [J3];rw [← b2]
     rw [e1] at h0
     cases e:Nat.beq l0 l with
     |false=>rw [e] at h0;exact a4 l0 x0 h0
     |true=>
      rw [e] at h0
      have e:l0=l:=beq_iff.1 e
      subst e
      simp only [cond_true,B1] at h0
      subst h0
      have hlF:=((b1.trans a1).trans hF).ren _ _ hl
      obtain⟨cc,ee,k1,k2,k3⟩:=S.ob _ _ ho
      obtain⟨x1,x2⟩:=b4 _ k2 (S.use _ _ ho).2
      have hblk:(eL g gF F.ren).blk l0=g.blk o:=by simp [eL,hlF]
      refine⟨⟨cc,ee,by rw [hblk];exact k1,x1,k3.1,fun t o' f hm=>by obtain⟨o'',f',hm'⟩:=pR h1 (kT hm);exact k3.2 _ _ _ hm'⟩,x2,o,_,hlF,ho,fun b hb=>?_⟩
      simp only [S9,hblk] at hb
      exact hb
    ·cases hc
   ·cases hc
  ·cases hc
 | .row e sz m::r,l,c,c',hc,hF,_=>by
  simp only [W4] at hc
  split at hc
  ·rename_i o hl
   split at hc
   ·rename_i e' sz' xs ho
    obtain⟨hb,hc⟩:=H3 hc
    simp only [A9] at hb
    have he:e=e':=beq_iff.1 hb.1
    have hsz:sz=sz':=beq_iff.1 hb.2
    obtain⟨a1,a3,a4⟩:=aE X S hc hF (.inr trivial)
    have b1:Le c ⟨c.ds++[.Z sz xs],c.fz,c.ren⟩:=⟨⟨_,rfl⟩,fun _ h=>h,fun _ _ h=>h⟩
    refine⟨b1.trans a1,a3,fun l0 x0 h0=>?_⟩
    have hn:Y F.ds c.ds.length = .Z sz xs:=Le.Y (a1.trans hF)
    have e1:J3 E0 F.ds (.row e sz m::r) l c.ds.length l0=bif Nat.beq l0 l then some (.row e sz xs false) else J3 E0 F.ds r (l+1) (c.ds.length+1) l0:=by
     simp only [J3,hn,D.l]
    rw [e1] at h0
    cases e2:Nat.beq l0 l with
    |false=>rw [e2] at h0;exact a4 l0 x0 (by simpa using h0)
    |true=>
     rw [e2] at h0
     have e2:l0=l:=beq_iff.1 e2
     subst e2
     simp only [cond_true,B1] at h0
     subst h0
     have hlF:=((b1.trans a1).trans hF).ren _ _ hl
     obtain⟨us,k1,k2,k3⟩:=S.ob _ _ ho
     have hhdr:(eL g gF F.ren).hdr l0=g.hdr o:=by simp [eL,hlF]
     refine⟨⟨us,by rw [hsz];exact k1,?_,?_⟩,trivial,o,_,hlF,ho,fun b hb'=>?_⟩
     ·rw [hhdr,he,hsz];exact k2
     ·rw [hsz];exact eS X.a.h _ _ _ k3
     ·simp only [S9,hhdr] at hb'
      exact hb'
   ·cases hc
  ·cases hc
 | .mp kt::r,l,c,c',hc,hF,_=>by
  simp only [W4] at hc
  split at hc
  ·rename_i o hl
   split at hc
   ·rename_i kt' xs ho
    obtain⟨hb,hc⟩:=H3 hc
    have hk:kt=kt':=Y2.vV hb
    obtain⟨a1,a3,a4⟩:=aE X S hc hF (.inr trivial)
    have b1:Le c ⟨c.ds++[.Z 2 xs],c.fz,c.ren⟩:=⟨⟨_,rfl⟩,fun _ h=>h,fun _ _ h=>h⟩
    refine⟨b1.trans a1,a3,fun l0 x0 h0=>?_⟩
    have hn:Y F.ds c.ds.length = .Z 2 xs:=Le.Y (a1.trans hF)
    have e1:J3 E0 F.ds (.mp kt::r) l c.ds.length l0=bif Nat.beq l0 l then some (.mp kt xs) else J3 E0 F.ds r (l+1) (c.ds.length+1) l0:=by
     simp only [J3,hn,D.l]
    rw [e1] at h0
    cases e2:Nat.beq l0 l with
    |false=>rw [e2] at h0;exact a4 l0 x0 (by simpa using h0)
    |true=>
     rw [e2] at h0
     have e2:l0=l:=beq_iff.1 e2
     subst e2
     simp only [cond_true,B1] at h0
     subst h0
     have hlF:=((b1.trans a1).trans hF).ren _ _ hl
     obtain⟨es,clock,k1,k2,kb⟩:=S.ob _ _ ho
     have hblk:(eL g gF F.ren).blk l0=g.blk o:=by simp [eL,hlF]
     refine⟨⟨es,clock,by rw [hblk];exact k1,?_,kb⟩,trivial,o,_,hlF,ho,fun b hb'=>?_⟩
     ·rw [hk];exact k2.mono fun _ _ _ k=>⟨W2 X.a.h _ _ k.1,W2 X.a.h _ _ k.2.1,k.2.2⟩
     ·simp only [S9,hblk] at hb'
      exact hb'
   ·cases hc
  ·cases hc
 | .nst e ie sz m::r,l,c,c',hc,hF,_=>by
  simp only [W4] at hc
  split at hc
  ·rename_i o hl
   split at hc
   ·rename_i e' ie' sz' xs ho
    replace hc:=H3 hc
    obtain⟨hb,hc⟩:=hc
    simp only [A9] at hb
    obtain rfl:e=e':=beq_iff.1 hb.1.1
    obtain rfl:ie=ie':=beq_iff.1 hb.1.2
    obtain rfl:sz=sz':=beq_iff.1 hb.2
    obtain⟨a1,a3,a4⟩:=aE X S hc hF (.inr trivial)
    have b1:Le c ⟨c.ds++[.Z 1 xs],c.fz,c.ren⟩:=⟨⟨_,rfl⟩,fun _ h=>h,fun _ _ h=>h⟩
    refine⟨b1.trans a1,a3,fun l0 x0 h0=>?_⟩
    have hn:Y F.ds c.ds.length = .Z 1 xs:=Le.Y (a1.trans hF)
    have e1:J3 E0 F.ds (.nst e ie sz m::r) l c.ds.length l0=bif Nat.beq l0 l then some (.nst e ie sz xs) else J3 E0 F.ds r (l+1) (c.ds.length+1) l0:=by
     simp only [J3,hn,D.l]
    rw [e1] at h0
    cases e2:Nat.beq l0 l with
    |false=>rw [e2] at h0;exact a4 l0 x0 (by simpa using h0)
    |true=>
     rw [e2] at h0
     have e2:l0=l:=beq_iff.1 e2
     subst e2
     simp only [cond_true,B1] at h0
     subst h0
     have hlF:=((b1.trans a1).trans hF).ren _ _ hl
     obtain⟨k0,⟨us,k1,k2⟩,k3⟩:=S.ob _ _ ho
     have hhdr:(eL g gF F.ren).hdr l0=g.hdr o:=by simp [eL,hlF]
     have hih:(eL g gF F.ren).ihdr l0=g.ihdr o:=by simp [eL,hlF]
     refine⟨⟨k0,⟨us,by rw [hhdr];exact k1,fun j x hx=>?_⟩,by simpa only [hhdr,hih] using k3⟩,trivial,o,_,hlF,ho,fun b hb'=>by simpa only [S9,hhdr,hih] using hb'⟩
     obtain⟨v,hv,k⟩:=k2 j x hx
     refine⟨v,hv,?_⟩
     rcases k with ⟨m1,m2,m3,m4,m5⟩|⟨ys,vs,m1,m2,m3,m4,m5,m6⟩
     ·exact .inl ⟨m1,m2,m3,m4,by rw [hih];exact m5⟩
     ·exact .inr ⟨ys,vs,m1,m2,by rw [hih];exact m3,m4,m5,eS X.a.h _ _ _ m6⟩
   ·cases hc
  ·cases hc
 | .it t l'::r,l,c,c',hc,hF,_=>by
  simp only [W4] at hc
  split at hc
  ·rename_i o hl
   split at hc
   ·rename_i t' mo xs ho
    have hk:t=t':=beq_iff.1 (H3 hc).1
    replace hc:=(H3 hc).2
    subst hk
    split at hc
    ·rename_i ren hr
     obtain⟨r1,r2,r3⟩:=oX hr
     obtain⟨a1,a3,a4⟩:=aE X S hc hF (.inr trivial)
     have b1:Le c ⟨c.ds++[.Z 0 xs],c.fz,ren⟩:=⟨⟨_,rfl⟩,fun _ h=>h,r2⟩
     refine⟨b1.trans a1,fun k=>a3 (r3 k),fun l0 x0 h0=>?_⟩
     have hn:Y F.ds c.ds.length = .Z 0 xs:=Le.Y (c:=⟨c.ds,c.fz,ren⟩) (a1.trans hF)
     have e1:J3 E0 F.ds (.it t l'::r) l c.ds.length l0=bif Nat.beq l0 l then some (.it t l' xs) else J3 E0 F.ds r (l+1) (c.ds.length+1) l0:=by
      simp only [J3,hn,D.l]
     rw [e1] at h0
     cases e2:Nat.beq l0 l with
     |false=>rw [e2] at h0;exact a4 l0 x0 (by simpa using h0)
     |true=>
      rw [e2] at h0
      have e2:l0=l:=beq_iff.1 e2
      subst e2
      simp only [cond_true,B1] at h0
      subst h0
      have hlF:=((b1.trans a1).trans hF).ren _ _ hl
      have hmF:=(a1.trans hF).ren _ _ r1
      obtain⟨n,ns,k0,k1⟩:=S.ob _ _ ho
      have hblk:(eL g gF F.ren).blk l0=g.blk o:=by simp [eL,hlF]
      have hblm:(eL g gF F.ren).blk l'=g.blk mo:=by simp [eL,hmF]
      refine⟨⟨n,ns,k0,by rw [hblk,hblm];exact k1⟩,X.q _ _ hmF,o,_,hlF,ho,fun b hb'=>?_⟩
      simp only [S9,hblk] at hb'
      exact hb'
    ·cases hc
   ·cases hc
  ·cases hc
theorem RH (E:Ty→D→D)(sk:Sk)(ds:List D):(J6 E sk ds).h=J3 E ds sk.objs 0 (L1 E ds sk.slots 0).2:=rfl
structure NU (u:Nat→Option Obj) (p:Nat→Prop) (g gF:G) (st:St) (tm:Nat→Value) (w:World) (sk:Sk) (pre:List (Nat×Nat)) (cf:Cf):Prop where
 a:I6 p g gF
 blk:gF.blk=g.blk
 hdr:gF.hdr=g.hdr
 ihdr:gF.ihdr=g.ihdr
 S:J2 u p gF (K8 st.h cf.fz) w
 tm:∀ t,VV (eL g gF cf.ren) ((J6 E0 sk cf.ds).t t) (tm t)
 nm:∀ t,((J6 E0 sk cf.ds).t t).K5 (·<sk.objs.length)
 ob:∀ l x0,(J6 E0 sk cf.ds).h l=some x0→TN g (eL g gF cf.ren) p (·<sk.objs.length) st.h w cf.ren l x0
 one:fV cf.ren
 pre:∀ l o,I4 pre l=some o→I4 cf.ren l=some o
 lt:∀ l o,I4 cf.ren l=some o→o∉cf.fz∧l<sk.objs.length
theorem nQ {sk:Sk}{pre:List (Nat×Nat)}{st:St}{tm:Nat→Value}{cf:Cf}(hc:EK sk pre st=some cf)(S:J2 u p g st.h w)(ht:∀ t,VV g (st.t t) (tm t))(hu:∀ t,(st.t t).K5 p)(hpre:fV pre) :
  ∃ gF,NU u p g gF st tm w sk pre cf:=by
 unfold EK at hc
 split at hc
 ·rename_i c1 h1
  split at hc
  ·rename_i c2 h2
   obtain⟨hb,hc⟩:=H3 hc
   cases hc
   simp only [A9] at hb
   obtain⟨gF,f1,f2,f3,f4,f5,f6⟩:=S.freeze cf.fz
   have X:CX u p (·<sk.objs.length) g gF st.h w cf:=⟨f4,f1,fun l o h=>yQ hb.2 l o h,f5⟩
   obtain⟨a1,a2,a3⟩:=aE X S h2 (Le.refl cf) (.inr trivial)
   obtain⟨b1,b2,b3,b4⟩:=pW X ht hu h1 a1
   have e:(L1 E0 cf.ds sk.slots 0).2=c1.ds.length:=b2.symm
   refine⟨gF,f1,f2,f3,f6,f4,fun t=>(b4 t).1,fun t=>(b4 t).2,fun l x0 h0=>?_,a2 (b3 hpre),fun l o h=>a1.ren l o (b1.ren l o h),fun l o h=>⟨BM hb.1 l o h,yQ hb.2 l o h⟩⟩
   rw [RH,e] at h0
   exact a3 l x0 h0
  ·cases hc
 ·cases hc
theorem NU.Lz {sk:Sk}{pre:List (Nat×Nat)}{st:St}{tm:Nat→Value}{cf:Cf}(M:NU u p g gF st tm w sk pre cf)(S0:J2 u p g st.h w) :
  J2 u (·<sk.objs.length) (eL g gF cf.ren) (J6 E0 sk cf.ds).h w:=by
 have blkn:∀ l x0 b,(J6 E0 sk cf.ds).h l=some x0→S9 (eL g gF cf.ren) l x0 b→∃ o x,I4 cf.ren l=some o∧K8 st.h cf.fz o=some x∧S9 gF o x b:=by
  intro l x0 b h0 hb
  obtain⟨_,_,o,x,h1,h2,h3⟩:=M.ob l x0 h0
  refine⟨o,x,h1,by rw [aN _ _ _ (M.lt l o h1).1];exact h2,?_⟩
  rw [Q8 M.a.w (S0.use _ _ h2).1 fun i=>by rw [M.ihdr]]
  exact h3 b hb
 refine⟨M.S.frz,M.S.unt,fun l x0 h0=>(M.ob l x0 h0).1,fun l x0 b h0 hb=>?_,fun l l' x0 x0' b h0 h0' hb hb'=>?_,fun l x0 h0=>?_,M.S.dj⟩
 ·obtain⟨o,x,_,h2,h3⟩:=blkn l x0 b h0 hb
  exact M.S.sep o x b h2 h3
 ·obtain⟨o,x,h1,h2,h3⟩:=blkn l x0 b h0 hb
  obtain⟨o',x',h1',h2',h3'⟩:=blkn l' x0' b h0' hb'
  have:=M.S.inj o o' x x' b h2 h2' h3 h3'
  subst this
  exact M.one l l' o h1 h1'
 ·obtain⟨_,h1,o,x,h2,_⟩:=M.ob l x0 h0
  exact⟨(M.lt l o h2).2,h1⟩
def Pos (ds:List D)(j:Nat)(rest:List D):Prop:=∃ pre,pre.length=j∧ds=pre++rest
def LV (g:G)(q:Nat→Prop)(x:V)(v:Value):Prop:=VL g x v∧x.aS q
def AV (g:G)(q:Nat→Prop)(x:V)(v:Value):Prop:=VA g x v∧x.K7 q
theorem IF {ds:List D}{s:SV}{v:Value}{j:Nat}{rest:List D}(hp:Pos ds j rest)(hc:(U3 s rest).1=true)(h:LV g q (M3 E0 ds s j).1 v) :
  LV g q (M3 L0 ds s j).1 v∧Pos ds (M3 E0 ds s j).2 (U3 s rest).2∧(M3 L0 ds s j).2=(M3 E0 ds s j).2:=by
 match s,hc,h with
 | .d t,hc,h=>
  obtain⟨pre,hp1,hp2⟩:=hp
  cases rest with
  |nil=>simp [U3] at hc
  |cons x rest=>
   have hn:Y ds j=x:=by rw [hp2,← hp1];exact yX _ _ _
   simp only [M3,hn,E0] at h ⊢
   exact⟨⟨dJ hc h.1,trivial⟩,⟨pre++[x],by simp [hp1],by rw [hp2];simp [U3]⟩,trivial⟩
 | .ptr ..,_,h=>exact⟨h,hp,rfl⟩
 | .row ..,_,h=>exact⟨h,hp,rfl⟩
 | .mp ..,_,h=>exact⟨h,hp,rfl⟩
 | .bp ..,_,h=>exact⟨h,hp,rfl⟩
 | .fn ..,_,h=>exact⟨h,hp,rfl⟩
 | .agg ..,_,h=>exact⟨h,hp,rfl⟩
 | .x,_,h=>exact⟨h,hp,rfl⟩
theorem xN {ds:List D}:∀ {ss:List SV} {vs:List Value} {j:Nat} {rest:List D},Pos ds j rest→(W3 ss rest).1=true→F2 (LV g q) (J4 E0 ds ss j).1 vs→
  F2 (LV g q) (J4 L0 ds ss j).1 vs∧Pos ds (J4 E0 ds ss j).2 (W3 ss rest).2∧(J4 L0 ds ss j).2=(J4 E0 ds ss j).2
 |[],vs,j,rest,hp,_,h=>⟨h,hp,rfl⟩
 |s::ss,vs,j,rest,hp,hc,h=>by
  simp only [W3,A9] at hc
  simp only [J4] at h ⊢
  cases h with
  |cons h1 h2=>
   obtain⟨a1,a2,a3⟩:=IF hp hc.1 h1
   rw [a3]
   obtain⟨b1,b2,b3⟩:=xN a2 hc.2 h2
   exact⟨.cons a1 b1,b2,b3⟩
def TJ (x:V):Prop:=bB x=x
theorem AS {E:Ty→D→D}{ds:List D}(s:SV)(j:Nat):TJ (M3 E ds s j).1:=by cases s<;>rfl
theorem mV {E:Ty→D→D}{ds:List D}:∀ (ss:List SV) (j:Nat),∀ x∈(J4 E ds ss j).1,TJ x
 |[],_,x,h=>by cases h
 |s::ss,j,x,h=>by
  simp only [J4] at h
  rcases B7.1 h with rfl|h
  ·exact AS s j
  ·exact mV ss _ x h
theorem oY:∀ {cs:List V} {xs:List D},EA cs=some xs→cs=xs.map V.d
 |[],xs,h=>by simp only [EA,B1] at h;subst h;rfl
 |c::cs,xs,h=>by
  simp only [EA] at h
  split at h
  ·rename_i x xs' e
   simp only [B1] at h
   subst h
   rw [oY e];rfl
  ·cases h
theorem F2.both {α β:Type}{R:α→β→Prop}{S:α→Prop}{zs:List α}{bs:List β}(h:F2 R zs bs)(hs:∀ a∈zs,S a):F2 (fun a b=>R a b∧S a) zs bs:=by
 induction h with
 |nil=>exact .nil
 |cons h1 _ ih=>exact .cons ⟨h1,hs _ (by simp)⟩ (ih fun a ha=>hs a (by simp [ha]))
theorem RW {cs:List V}{v:Value}(hl:∀ c∈cs,TJ c)(h:AV g q (T8 cs) v):∃ us:Array Value,v = .agg us∧F2 (LV g q) cs us.toList:=by
 obtain⟨h1,h2⟩:=h
 unfold T8 at h1 h2
 split at h1
 ·rename_i xs e
  obtain⟨us,rfl,h3⟩:=h1
  refine⟨us,rfl,?_⟩
  rw [oY e]
  exact F2.qT (((W7 _ _ _).1 h3).mono fun _ _ _ h=>⟨h,trivial⟩)
 ·rename_i e
  rw [e] at h2
  have e2:cs.map bB=cs:=by
   conv=>rhs;rw [← List.map_id cs]
   exact List.map_congr_left fun c hc=>hl c hc
  simp only [e2] at h1 h2
  obtain⟨us,rfl,h3⟩:=h1
  exact⟨us,rfl,F2.both h3 h2⟩
theorem JC {cs:List V}{us:Array Value}(h:F2 (LV g q) cs us.toList):AV g q (T8 cs) (.agg us):=by
 have:=hY (h.mono fun _ _ _ h=>W6 h.1)
 rw [Array.toArray_toList] at this
 refine⟨this,cD fun y hy=>?_⟩
 obtain⟨b,_,hb⟩:=h.mem y hy
 exact aV hb.1 hb.2
theorem Fi {ds:List D}{s:SV}{v:Value}{j:Nat}{rest:List D}(hp:Pos ds j rest)(hc:(uZ s rest).1=true)(h:AV g q (S7 E0 ds s j).1 v) :
  AV g q (S7 L0 ds s j).1 v∧Pos ds (S7 E0 ds s j).2 (uZ s rest).2∧(S7 L0 ds s j).2=(S7 E0 ds s j).2:=by
 have leaf:∀ s,(∀ E,S7 E ds s j=M3 E ds s j)→uZ s rest=U3 s rest→(uZ s rest).1=true→AV g q (S7 E0 ds s j).1 v→
   AV g q (S7 L0 ds s j).1 v∧Pos ds (S7 E0 ds s j).2 (uZ s rest).2∧(S7 L0 ds s j).2=(S7 E0 ds s j).2:=by
  intro s e1 e2 hc h
  rw [e1,e1,e2] at *
  have hl:LV g q (M3 E0 ds s j).1 v:=by
   match s,h with
   | .d _,h=>exact h
   | .ptr ..,h=>exact h
   | .row ..,h=>exact h
   | .mp ..,h=>exact h
   | .bp ..,h=>exact h
   | .fn ..,h=>exact h
   | .agg ..,h=>exact h
   | .x,h=>exact h
  obtain⟨a1,a2,a3⟩:=IF hp hc hl
  exact⟨⟨W6 a1.1,aV a1.1 a1.2⟩,a2,a3⟩
 match s,hc,h with
 | .fn f [],hc,h=>
  refine leaf (.fn f []) (fun E=>rfl) ?_ hc h
  simp [uZ,U3,W3]
 | .fn f (c::caps),hc,h=>
  have hc:(W3 (c::caps) rest).1=true:=hc
  have e:∀ E,S7 E ds (.fn f (c::caps)) j=(.fn f (J4 E ds (c::caps) j).1,(J4 E ds (c::caps) j).2):=fun E=>rfl
  rw [e,e] at *
  have hlen:=X6 (E:=E0) (ds:=ds) (c::caps) j
  have hlen':=X6 (E:=L0) (ds:=ds) (c::caps) j
  obtain⟨h1,h2⟩:=h
  have hF:∃ us:Array Value,v = .func (.func f) #[] us∧F2 (LV g q) (J4 E0 ds (c::caps) j).1 us.toList:=by
   simp only [] at h1 h2
   generalize (J4 E0 ds (c::caps) j).1=xs at *
   cases xs with
   |nil=>simp at hlen
   |cons x xs=>
    obtain⟨us,rfl,h3⟩:=h1
    exact⟨us,rfl,F2.both h3 h2⟩
  obtain⟨us,rfl,h3⟩:=hF
  obtain⟨a1,a2,a3⟩:=xN hp hc h3
  refine⟨?_,a2,a3⟩
  simp only [] at *
  generalize (J4 L0 ds (c::caps) j).1=ys at *
  cases ys with
  |nil=>simp at hlen'
  |cons y ys=>
   refine⟨⟨us,rfl,a1.mono fun _ _ _ h=>h.1⟩,fun z hz=>?_⟩
   obtain⟨b,_,hb⟩:=a1.mem z hz
   exact hb.2
 | .agg ss,hc,h=>
  have hc:(W3 ss rest).1=true:=hc
  have e:∀ E,S7 E ds (.agg ss) j=(T8 (J4 E ds ss j).1,(J4 E ds ss j).2):=fun E=>rfl
  rw [e,e] at *
  obtain⟨us,rfl,h3⟩:=RW (mV ss j) h
  obtain⟨a1,a2,a3⟩:=xN hp hc h3
  exact⟨JC a1,a2,a3⟩
 | .d t,hc,h=>exact leaf (.d t) (fun E=>rfl) rfl hc h
 | .ptr ..,hc,h=>exact leaf (.ptr ..) (fun E=>rfl) rfl hc h
 | .row ..,hc,h=>exact leaf (.row ..) (fun E=>rfl) rfl hc h
 | .mp ..,hc,h=>exact leaf (.mp ..) (fun E=>rfl) rfl hc h
 | .bp ..,_,h=>exact⟨h,hp,rfl⟩
 | .x,hc,h=>exact leaf .x (fun E=>rfl) rfl hc h
theorem BY {ds:List D}:∀ {ss:List SV} {vs:List Value} {j:Nat} {rest:List D},Pos ds j rest→(aX ss rest).1=true→F2 (AV g q) (K9 E0 ds ss j).1 vs→
  F2 (AV g q) (K9 L0 ds ss j).1 vs
 |[],vs,j,rest,hp,_,h=>h
 |s::ss,vs,j,rest,hp,hc,h=>by
  simp only [aX,A9] at hc
  simp only [K9] at h ⊢
  cases h with
  |cons h1 h2=>
   obtain⟨a1,a2,a3⟩:=Fi hp hc.1 h1
   rw [a3]
   exact .cons a1 (BY a2 hc.2 h2)
theorem JU {E:Ty→D→D}{ds:List D}{s:SV}{j:Nat}{rest:List D}(hp:Pos ds j rest)(hc:(U3 s rest).1=true):Pos ds (M3 E ds s j).2 (U3 s rest).2∧(M3 E ds s j).2=(M3 E0 ds s j).2:=by
 match s,hc with
 | .d t,hc=>
  obtain⟨pre,hp1,hp2⟩:=hp
  cases rest with
  |nil=>simp [U3] at hc
  |cons x rest=>exact⟨⟨pre++[x],by simp [hp1,M3],by rw [hp2];simp [U3]⟩,rfl⟩
 | .ptr ..,_=>exact⟨hp,rfl⟩
 | .row ..,_=>exact⟨hp,rfl⟩
 | .mp ..,_=>exact⟨hp,rfl⟩
 | .bp ..,_=>exact⟨hp,rfl⟩
 | .fn ..,_=>exact⟨hp,rfl⟩
 | .agg ..,_=>exact⟨hp,rfl⟩
 | .x,_=>exact⟨hp,rfl⟩
theorem zH {E:Ty→D→D}{ds:List D}:∀ {ss:List SV} {j:Nat} {rest:List D},Pos ds j rest→(W3 ss rest).1=true→Pos ds (J4 E ds ss j).2 (W3 ss rest).2∧(J4 E ds ss j).2=(J4 E0 ds ss j).2
 |[],j,rest,hp,_=>⟨hp,rfl⟩
 |s::ss,j,rest,hp,hc=>by
  simp only [W3,A9] at hc
  simp only [J4]
  obtain⟨a1,a2⟩:=JU (E:=E) hp hc.1
  obtain⟨b1,b2⟩:=zH (E:=E) a1 hc.2
  exact⟨b1,by rw [b2,a2]⟩
theorem XO {E:Ty→D→D}{ds:List D}{s:SV}{j:Nat}{rest:List D}(hp:Pos ds j rest)(hc:(uZ s rest).1=true):Pos ds (S7 E ds s j).2 (uZ s rest).2∧(S7 E ds s j).2=(S7 E0 ds s j).2:=by
 match s,hc with
 | .fn f [],hc=>exact⟨hp,rfl⟩
 | .fn f (c::caps),hc=>exact zH (ss:=c::caps) hp hc
 | .agg ss,hc=>exact zH (ss:=ss) hp hc
 | .d t,hc=>exact JU (s:= .d t) hp hc
 | .ptr ..,hc=>exact⟨hp,rfl⟩
 | .row ..,hc=>exact⟨hp,rfl⟩
 | .mp ..,hc=>exact⟨hp,rfl⟩
 | .bp ..,hc=>exact⟨hp,rfl⟩
 | .x,hc=>exact⟨hp,rfl⟩
theorem sY {E:Ty→D→D}{ds:List D}:∀ {ss:List SV} {j:Nat} {rest:List D},Pos ds j rest→(aX ss rest).1=true→Pos ds (K9 E ds ss j).2 (aX ss rest).2∧(K9 E ds ss j).2=(K9 E0 ds ss j).2
 |[],j,rest,hp,_=>⟨hp,rfl⟩
 |s::ss,j,rest,hp,hc=>by
  simp only [aX,A9] at hc
  simp only [K9]
  obtain⟨a1,a2⟩:=XO (E:=E) hp hc.1
  obtain⟨b1,b2⟩:=sY (E:=E) a1 hc.2
  exact⟨b1,by rw [b2,a2]⟩
theorem WG {cs:List V}{v:Value}(h:VV g (T8 cs) v)(hu:(T8 cs).K5 q):AV g q (T8 cs) v:=by
 unfold T8 at *
 split
 ·rename_i xs e;rw [e] at h;exact⟨h,trivial⟩
 ·rename_i e;rw [e] at h hu;exact⟨h,hu⟩
theorem Bf {E:Ty→D→D}{ds:List D}{s:SV}{j:Nat}{v:Value}(h:VV g (S7 E ds s j).1 v)(hu:(S7 E ds s j).1.K5 q):AV g q (S7 E ds s j).1 v:=by
 match s,h,hu with
 | .fn f [],h,_=>exact⟨h,trivial⟩
 | .fn f (c::caps),h,hu=>
  simp only [S7,J4] at h hu ⊢
  exact⟨h,hu⟩
 | .agg ss,h,hu=>exact WG h hu
 | .d t,h,_=>exact⟨h,trivial⟩
 | .ptr ..,h,hu=>exact⟨h,hu⟩
 | .row ..,h,hu=>exact⟨h,hu⟩
 | .mp ..,h,hu=>exact⟨h,hu⟩
 | .bp ..,h,hu=>exact⟨h,hu⟩
 | .x,h,_=>exact⟨h,trivial⟩
theorem BZ {ds:List D}{tm:Nat→Value}:∀ {sl:List (Nat×SV)} {j:Nat} {rest:List D},Pos ds j rest→(cY sl rest).1=true→
  Pos ds (L1 E0 ds sl j).2 (cY sl rest).2∧(L1 L0 ds sl j).2=(L1 E0 ds sl j).2∧
  (∀ t,VV g ((L1 E0 ds sl j).1 t) (tm t)∧((L1 E0 ds sl j).1 t).K5 q→VV g ((L1 L0 ds sl j).1 t) (tm t)∧((L1 L0 ds sl j).1 t).K5 q)
 |[],j,rest,hp,_=>⟨hp,rfl,fun _=>id⟩
 |(t0,s)::sl,j,rest,hp,hc=>by
  simp only [cY,A9] at hc
  obtain⟨a1,_⟩:=XO (E:=E0) hp hc.1
  obtain⟨_,a2⟩:=XO (E:=L0) hp hc.1
  obtain⟨b1,b2,b3⟩:=BZ (tm:=tm) a1 hc.2
  simp only [L1,cY]
  rw [a2]
  refine⟨b1,b2,fun t ht=>?_⟩
  by_cases e:t=t0
  ·subst e
   rw [beq_iff.2 rfl] at ht ⊢
   have h1:=Bf ht.1 ht.2
   obtain⟨c1,_,_⟩:=Fi hp hc.1 h1
   exact⟨P1 c1.1,O2 c1.2⟩
  ·have:Nat.beq t t0=false:=by
    cases k:Nat.beq t t0 with
    |true=>exact absurd (beq_iff.1 k) e
    |false=>rfl
   rw [this] at ht ⊢
   exact b3 t ht
theorem iQ {ds:List D}{w:World}:∀ {obs:List eQ} {l j:Nat} {rest:List D},Pos ds j rest→P6 obs rest=true→∀ l0 x,J3 L0 ds obs l j l0=some x→
  ∃ x0,J3 E0 ds obs l j l0=some x0∧(OB g l0 x0 w→x0.K5 q→OB g l0 x w∧x.K5 q)∧(∀ b,S9 g l0 x b→S9 g l0 x0 b)
 |[],l,j,rest,hp,hc,l0,x,h=>by simp [J3] at h
 | .gone::r,l,j,rest,hp,hc,l0,x,h=>iQ (obs:=r) (l:=l+1) hp hc l0 x h
 | .var ss::r,l,j,rest,hp,hc,l0,x,h=>by
  simp only [P6,A9] at hc
  obtain⟨a1,_⟩:=sY (E:=E0) hp hc.1
  obtain⟨_,a2⟩:=sY (E:=L0) hp hc.1
  simp only [J3] at h ⊢
  rw [a2] at h
  cases e:Nat.beq l0 l with
  |false=>rw [e] at h;simpa using iQ a1 hc.2 l0 x (by simpa using h)
  |true=>
   rw [e] at h
   simp only [cond_true,B1] at h
   subst h
   refine⟨_,rfl,fun ho hu=>?_,fun b hb=>hb⟩
   obtain⟨c,ee,k1,k2,k3⟩:=ho
   have h1:F2 (AV g q) (K9 E0 ds ss j).1 c.toList:=F2.both k2 hu
   have h2:=BY hp hc.1 h1
   refine⟨⟨c,ee,k1,h2.mono fun _ _ _ h=>h.1,k3.1,fun t o' f hm=>k3.2 _ _ _ (qL (kT hm))⟩,fun y hy=>?_⟩
   obtain⟨b,_,hb⟩:=h2.mem y hy
   exact hb.2
 | .row e sz m::r,l,j,[],hp,hc,l0,x,h=>by simp [P6] at hc
 | .row e sz m::r,l,j,y::rest,hp,hc,l0,x,h=>by
  simp only [P6,A9] at hc
  obtain⟨pre,hp1,hp2⟩:=hp
  have a1:Pos ds (j+1) rest:=⟨pre++[y],by simp [hp1],by rw [hp2];simp⟩
  simp only [J3] at h ⊢
  cases e2:Nat.beq l0 l with
  |false=>rw [e2] at h;simpa using iQ a1 hc.2 l0 x (by simpa using h)
  |true=>
   rw [e2] at h
   simp only [cond_true,B1] at h
   subst h
   exact⟨_,rfl,fun ho hu=>⟨ho,hu⟩,fun b hb=>hb⟩
 | .it t l'::r,l,j,[],hp,hc,l0,x,h=>by simp [P6] at hc
 | .it t l'::r,l,j,y::rest,hp,hc,l0,x,h=>by
  simp only [P6,A9] at hc
  obtain⟨pre,hp1,hp2⟩:=hp
  have a1:Pos ds (j+1) rest:=⟨pre++[y],by simp [hp1],by rw [hp2];simp⟩
  simp only [J3] at h ⊢
  cases e2:Nat.beq l0 l with
  |false=>rw [e2] at h;simpa using iQ a1 hc.2 l0 x (by simpa using h)
  |true=>
   rw [e2] at h
   simp only [cond_true,B1] at h
   subst h
   exact⟨_,rfl,fun ho hu=>⟨ho,hu⟩,fun b hb=>hb⟩
 | .mp kt::r,l,j,[],hp,hc,l0,x,h=>by simp [P6] at hc
 | .mp kt::r,l,j,y::rest,hp,hc,l0,x,h=>by
  simp only [P6,A9] at hc
  obtain⟨pre,hp1,hp2⟩:=hp
  have a1:Pos ds (j+1) rest:=⟨pre++[y],by simp [hp1],by rw [hp2];simp⟩
  simp only [J3] at h ⊢
  cases e2:Nat.beq l0 l with
  |false=>rw [e2] at h;simpa using iQ a1 hc.2 l0 x (by simpa using h)
  |true=>
   rw [e2] at h
   simp only [cond_true,B1] at h
   subst h
   exact⟨_,rfl,fun ho hu=>⟨ho,hu⟩,fun b hb=>hb⟩
 | .nst e ie sz m::r,l,j,[],hp,hc,l0,x,h=>by simp [P6] at hc
 | .nst e ie sz m::r,l,j,y::rest,hp,hc,l0,x,h=>by
  simp only [P6,A9] at hc
  obtain⟨pre,hp1,hp2⟩:=hp
  have a1:Pos ds (j+1) rest:=⟨pre++[y],by simp [hp1],by rw [hp2];simp⟩
  simp only [J3] at h ⊢
  cases e2:Nat.beq l0 l with
  |false=>rw [e2] at h;simpa using iQ a1 hc.2 l0 x (by simpa using h)
  |true=>
   rw [e2] at h
   simp only [cond_true,B1] at h
   subst h
   exact⟨_,rfl,fun ho hu=>⟨ho,hu⟩,fun b hb=>hb⟩
theorem OQ {u:Nat→Option Obj}{sk:Sk}{ds:List D}{tm:Nat→Value}{w:World}(hc:aL sk ds=true)(S:J2 u q g (J6 E0 sk ds).h w)(ht:∀ t,VV g ((J6 E0 sk ds).t t) (tm t)∧((J6 E0 sk ds).t t).K5 q) :
  J2 u q g (O0 sk ds).h w∧∀ t,VV g ((O0 sk ds).t t) (tm t)∧((O0 sk ds).t t).K5 q:=by
 unfold aL at hc
 simp only [A9] at hc
 obtain⟨a1,a2,a3⟩:=BZ (g:=g) (q:=q) (tm:=tm) (ds:=ds) (j:=0) (rest:=ds) ⟨[],rfl,rfl⟩ hc.1
 refine⟨?_,fun t=>a3 t (ht t)⟩
 have hob:∀ l x,(O0 sk ds).h l=some x→∃ x0,(J6 E0 sk ds).h l=some x0∧(OB g l x0 w→x0.K5 q→OB g l x w∧x.K5 q)∧(∀ b,S9 g l x b→S9 g l x0 b):=by
  intro l x h
  have h:J3 L0 ds sk.objs 0 (L1 L0 ds sk.slots 0).2 l=some x:=h
  rw [a2] at h
  exact iQ a1 hc.2 l x h
 refine⟨S.frz,S.unt,fun o x h=>?_,fun o x b h hb=>?_,fun o o' x x' b h h' hb hb'=>?_,fun o x h=>?_,S.dj⟩
 ·obtain⟨x0,h0,h1,_⟩:=hob o x h
  exact (h1 (S.ob _ _ h0) (S.use _ _ h0).2).1
 ·obtain⟨x0,h0,_,h2⟩:=hob o x h
  exact S.sep o x0 b h0 (h2 b hb)
 ·obtain⟨x0,h0,_,h2⟩:=hob o x h
  obtain⟨x0',h0',_,h2'⟩:=hob o' x' h'
  exact S.inj o o' x0 x0' b h0 h0' (h2 b hb) (h2' b hb')
 ·obtain⟨x0,h0,h1,_⟩:=hob o x h
  exact⟨(S.use _ _ h0).1,(h1 (S.ob _ _ h0) (S.use _ _ h0).2).2⟩
end
end Go.AE
namespace Go.AE
open Go.RowKit
open Classical in
noncomputable def jU (g0:G) (h0:Nat→Option Ob) (w:World):Nat→Option Obj:=fun b=>
 if ∃ l x0,h0 l=some x0∧S9 g0 l x0 b then none else if g0.h b=none then w.heap[b]? else none
section
variable {u:Nat→Option Obj} {p q q1 q2:Nat→Prop} {gH g0 g1 g2:G} {hold h0 h1 h2:Nat→Option Ob} {w w1:World} {R:Nat→Nat→Prop} {f:Nat→Nat}
theorem zM {b:Nat}{y:Obj}(h:jU g0 h0 w b=some y):(¬ ∃ l x0,h0 l=some x0∧S9 g0 l x0 b)∧g0.h b=none∧w.heap[b]? = some y:=by
 unfold jU at h
 split at h
 ·cases h
 ·rename_i k
  split at h
  ·rename_i k';exact⟨k,k',h⟩
  ·cases h
theorem rA {b:Nat}{y:Obj}(h1:¬ ∃ l x0,h0 l=some x0∧S9 g0 l x0 b)(h2:g0.h b=none)(h3:w.heap[b]? = some y):jU g0 h0 w b=some y:=by
 unfold jU
 rw [if_neg h1,if_pos h2];exact h3
structure Pass (u:Nat→Option Obj) (p q:Nat→Prop) (gH g0:G) (hold h0:Nat→Option Ob) (w:World) (R:Nat→Nat→Prop):Prop where
 S:J2 u p gH hold w
 S0:J2 u q g0 h0 w
 sub:∀ b x,gH.h b=some x→g0.h b=some x
 ob:∀ l x0,h0 l=some x0→∃ o x,R l o∧hold o=some x∧∀ b,S9 g0 l x0 b→S9 gH o x b
theorem Pass.Lz (X:Pass u p q gH g0 hold h0 w R):J2 (jU g0 h0 w) q g0 h0 w:=by
 refine⟨X.S0.frz,fun b x h=>(zM h).2.2,X.S0.ob,fun o x b h hb=>⟨(X.S0.sep o x b h hb).1,?_⟩,X.S0.inj,X.S0.use,fun b=>?_⟩
 ·unfold jU;rw [if_pos ⟨o,x,h,hb⟩]
 ·cases e:jU g0 h0 w b with
  |none=>exact .inr rfl
  |some y=>exact .inl (zM e).2.1
theorem Pass.back (X:Pass u p q gH g0 hold h0 w R)(S1:J2 (jU g0 h0 w) q1 g1 h1 w1)(hext:∀ b x,g0.h b=some x→g1.h b=some x)(ha:V7 p gH g2)(hsub:∀ b x,g2.h b=some x→g1.h b=some x)
  (hpq:∀ x,p x→q2 x)
  (hobs:∀ x ob,h2 x=some ob→
   (hold x=some ob∧(∀ l x0,h0 l=some x0→¬ R l x)∧(∀ b,S9 gH x ob b→g0.h b=none∨g2.h b=none)∧∀ i,g2.ihdr x i=gH.ihdr x i)∨
   (∃ l ob1,h1 l=some ob1∧x=f l∧OB g2 x ob w1∧(∀ b,S9 g2 x ob b→S9 g1 l ob1 b)∧q2 x∧ob.K5 q2)):J2 u q2 g2 h2 w1:=by
 have notPassed:∀ x ob b,hold x=some ob→(∀ l x0,h0 l=some x0→¬ R l x)→S9 gH x ob b→¬ ∃ l x0,h0 l=some x0∧S9 g0 l x0 b:=by
  rintro x ob b h1 h2 hb ⟨l,x0,h3,h4⟩
  obtain⟨o,x',k1,k2,k3⟩:=X.ob l x0 h3
  have:=X.S.inj x o ob x' b h1 k2 hb (k3 b h4)
  subst this
  exact h2 l x0 h3 k1
 have key:∀ x ob b,hold x=some ob→(∀ l x0,h0 l=some x0→¬ R l x)→(∀ b,S9 gH x ob b→g0.h b=none∨g2.h b=none)→S9 gH x ob b→
   w1.heap[b]? = w.heap[b]?∧g2.h b=none∧u b=none∧∀ l ob1,h1 l=some ob1→¬ S9 g1 l ob1 b:=by
  intro x ob b h1 h2 h3 hb
  have hlt:=FT (X.S.ob _ _ h1) hb
  obtain⟨y,hy⟩:∃ y,w.heap[b]? = some y:=⟨_,C8 hlt⟩
  have hnp:=notPassed x ob b h1 h2 hb
  refine⟨?_,?_,(X.S.sep x ob b h1 hb).2,?_⟩
  ·cases e:g0.h b with
   |none=>rw [S1.unt b y (rA hnp e hy),hy]
   |some y'=>rw [S1.frz b y' (hext b y' e),X.S0.frz b y' e]
  ·cases e:g0.h b with
   |none=>
    have h4:=rA hnp e hy
    cases e2:g2.h b with
    |none=>rfl
    |some y2=>
     have:=hsub b y2 e2
     rcases S1.dj b with k|k
     ·rw [this] at k;cases k
     ·rw [h4] at k;cases k
   |some y'=>
    rcases h3 b hb with k|k
    ·rw [e] at k;cases k
    ·exact k
  ·intro l ob1 h5 h6
   obtain⟨k1,k2⟩:=S1.sep l ob1 b h5 h6
   cases e:g0.h b with
   |none=>rw [rA hnp e hy] at k2;cases k2
   |some y'=>rw [hext b y' e] at k1;cases k1
 have ublock:∀ b x,u b=some x→jU g0 h0 w b=some x:=by
  intro b x hb
  refine rA ?_ ?_ (X.S.unt b x hb)
  ·rintro ⟨l,x0,h3,h4⟩
   obtain⟨o,x',k1,k2,k3⟩:=X.ob l x0 h3
   have:=(X.S.sep o x' b k2 (k3 b h4)).2
   rw [hb] at this;cases this
  ·rcases X.S0.dj b with k|k
   ·exact k
   ·rw [hb] at k;cases k
 have agr:∀ x ob,hold x=some ob→(∀ i,g2.ihdr x i=gH.ihdr x i)→S9 g2 x ob=S9 gH x ob:=fun x ob h hi=>Q8 ha (X.S.use _ _ h).1 hi
 refine⟨fun b x h=>S1.frz b x (hsub b x h),fun b x h=>S1.unt b x (ublock b x h),fun x ob h=>?_,fun x ob b h hb=>?_,fun x x' ob ob' b h h' hb hb'=>?_,fun x ob h=>?_,fun b=>?_⟩
 ·rcases hobs x ob h with ⟨k1,k2,k3,ki⟩|⟨l,ob1,k1,k2,k3,_⟩
  ·exact (X.S.ob _ _ k1).keep ha (X.S.use _ _ k1).1 (X.S.use _ _ k1).2 (fun b hb=>(key x ob b k1 k2 k3 hb).1) ki
  ·exact k3
 ·rcases hobs x ob h with ⟨k1,k2,k3,ki⟩|⟨l,ob1,k1,k2,k3,k4,_⟩
  ·rw [agr x ob k1 ki] at hb
   exact⟨(key x ob b k1 k2 k3 hb).2.1,(key x ob b k1 k2 k3 hb).2.2.1⟩
  ·obtain⟨j1,j2⟩:=S1.sep l ob1 b k1 (k4 b hb)
   constructor
   ·cases e:g2.h b with
    |none=>rfl
    |some y=>rw [hsub b y e] at j1;cases j1
   ·cases e:u b with
    |none=>rfl
    |some y=>rw [ublock b y e] at j2;cases j2
 ·rcases hobs x ob h with ⟨k1,k2,k3,ki⟩|⟨l,ob1,k1,k2,k3,k4,_⟩
  ·rw [agr x ob k1 ki] at hb
   rcases hobs x' ob' h' with ⟨k1',k2',k3',ki'⟩|⟨l',ob1',k1',_,_,k4',_⟩
   ·rw [agr x' ob' k1' ki'] at hb'
    exact X.S.inj x x' ob ob' b k1 k1' hb hb'
   ·exact absurd (k4' b hb') ((key x ob b k1 k2 k3 hb).2.2.2 l' ob1' k1')
  ·rcases hobs x' ob' h' with ⟨k1',k2',k3',ki'⟩|⟨l',ob1',k1',k2',_,k4',_⟩
   ·rw [agr x' ob' k1' ki'] at hb'
    exact absurd (k4 b hb) ((key x' ob' b k1' k2' k3' hb').2.2.2 l ob1 k1)
   ·have:=S1.inj l l' ob1 ob1' b k1 k1' (k4 b hb) (k4' b hb')
    rw [k2,k2',this]
 ·rcases hobs x ob h with ⟨k1,_⟩|⟨l,ob1,_,_,_,_,k5,k6⟩
  ·exact⟨hpq _ (X.S.use _ _ k1).1,(X.S.use _ _ k1).2.mono hpq⟩
  ·exact⟨k5,k6⟩
 ·cases e:g2.h b with
  |none=>exact .inl rfl
  |some y=>
   right
   cases e':u b with
   |none=>rfl
   |some y'=>
    rcases S1.dj b with k|k
    ·rw [hsub b y e] at k;cases k
    ·rw [ublock b y' e'] at k;cases k
end
end Go.AE
namespace Go.AE
open Go.RowKit
def iK (d:D):Prop:=∀ h h' v,VD h d v→VD h' d v
theorem sF (b:Bool):iK (.bool b):=fun _ _ _ h=>h
theorem yB (k:IntKind)(n:Int):iK (.int k n):=fun _ _ _ h=>h
theorem yE (s:G0):iK (.str s):=fun _ _ _ h=>h
theorem kR:iK .top:=fun _ _ _ h=>h
theorem OV (f:Nat):iK (.fn f):=fun _ _ _ h=>h
theorem HQ {h h':Nat→Option Obj}:∀ {xs:List D} {us:List Value},(∀ x∈xs,iK x)→jV h xs us→jV h' xs us
 |[],us,_,e=>e
 |x::xs,us,hf,e=>by
  obtain⟨v,r,rfl,h1,h2⟩:=e
  exact⟨v,r,rfl,hf x (by simp) _ _ _ h1,HQ (fun y hy=>hf y (by simp [hy])) h2⟩
theorem xZ {cs:List D}(h:∀ c∈cs,iK c):iK (.agg cs):=fun _ _ _ ⟨us,h1,h2⟩=>⟨us,h1,HQ h h2⟩
theorem HO {h h':Nat→Option Obj}{sz:Nat}:∀ {xs:List D} {us:List Value},(∀ x∈xs,iK x)→aT h sz xs us→aT h' sz xs us
 |[],us,_,e=>e
 |x::xs,us,hf,e=>by
  obtain⟨v,r,rfl,h1,h2,h3,h4⟩:=e
  exact⟨v,r,rfl,h1,h2,hf x (by simp) _ _ _ h3,HO (fun y hy=>hf y (by simp [hy])) h4⟩
theorem kQ {t:Y2}(h:iB t=true)(x:D):iK (qD t x):=by
 cases t<;>simp [iB] at h
 ·exact sF _
 ·exact yB _ _
 ·exact yE _
theorem kP:∀ {ts:List Y2} {x:D} {j:Nat},ts.all iB=true→∀ c∈aM ts x j,iK c
 |[],_,_,_,c,hc=>by cases hc
 |t::ts,x,j,h,c,hc=>by
  simp only [List.all_cons,A9] at h
  simp only [aM] at hc
  rcases B7.1 hc with rfl|hc
  ·exact kQ h.1 _
  ·exact kP h.2 c hc
theorem EY {t:Ty}(h:vS t=true)(x:D):iK (L0 t x):=by
 cases t with
 |leaf t=>exact kQ h x
 |agg ts=>exact xZ (kP h)
 |ifc t ts=>cases h
theorem IM {x:D}(h:zG x=true):iK x:=by
 cases x with
 |bool b=>exact sF b
 |int k n=>exact yB k n
 |str s=>exact yE s
 |agg cs=>
  refine xZ fun c hc=>?_
  have:=B6.1 (show cs.all _=true from h) c hc
  cases c<;>first|exact sF _|exact yB _ _|exact yE _|cases this
 |_=>cases h
def DQ:V→Prop
 | .d _=>True
 | .ptr _ _=>True
 | .row _=>True
 | .mp _=>True
 |_=>False
def AL:V→Prop
 | .fn _ (c::cs)=>∀ x∈c::cs,DQ x
 | .agg cs=>∀ x∈cs,DQ x
 | .bp ..=>True
 |x=>DQ x
def rJ (P:D→Prop):V→Prop
 | .d d=>P d
 |_=>True
def AK (P:D→Prop):V→Prop
 | .fn _ cs=>∀ x∈cs,rJ P x
 | .agg cs=>∀ x∈cs,rJ P x
 |x=>rJ P x
theorem rJ.mono {P Q:D→Prop}(h:∀ d,P d→Q d){x:V}(hx:rJ P x):rJ Q x:=by
 cases x<;>first|exact h _ hx|trivial
theorem AK.mono {P Q:D→Prop}(h:∀ d,P d→Q d){x:V}(hx:AK P x):AK Q x:=by
 cases x with
 |fn f cs=>exact fun y hy=>(hx y hy).mono h
 |agg cs=>exact fun y hy=>(hx y hy).mono h
 |d _=>exact rJ.mono (x:= .d _) h hx
 |_=>trivial
theorem AT {E:Ty→D→D}{ds:List D}(s:SV)(j:Nat):DQ (M3 E ds s j).1:=by cases s<;>trivial
theorem cM {E:Ty→D→D}{ds:List D}:∀ (ss:List SV) (j:Nat),∀ x∈(J4 E ds ss j).1,DQ x
 |[],_,x,h=>by cases h
 |s::ss,j,x,h=>by
  simp only [J4] at h
  rcases B7.1 h with rfl|h
  ·exact AT s j
  ·exact cM ss _ x h
theorem qQ {x:V}(h:DQ x):bB x=x:=by cases x<;>first|rfl|exact h.elim
theorem JD {cs:List V}(h:∀ x∈cs,DQ x):AL (T8 cs):=by
 unfold T8
 split
 ·trivial
 ·intro x hx
  obtain⟨c,hc,rfl⟩:=List.mem_map.1 hx
  rw [qQ (h c hc)];exact h c hc
theorem yJ {E:Ty→D→D}{ds:List D}(s:SV)(j:Nat):AL (S7 E ds s j).1:=by
 match s with
 | .fn f []=>trivial
 | .fn f (c::caps)=>
  have e:(S7 E ds (.fn f (c::caps)) j).1 = .fn f (J4 E ds (c::caps) j).1:=rfl
  rw [e]
  have h1:=cM (E:=E) (ds:=ds) (c::caps) j
  have h2:=X6 (E:=E) (ds:=ds) (c::caps) j
  generalize (J4 E ds (c::caps) j).1=xs at *
  cases xs with
  |nil=>simp at h2
  |cons x xs=>exact h1
 | .agg ss=>exact JD (cM ss j)
 | .d t=>trivial
 | .ptr ..=>trivial
 | .row ..=>trivial
 | .mp ..=>trivial
 | .bp ..=>trivial
 | .x=>trivial
theorem fE {E:Ty→D→D}{ds:List D}:∀ (ss:List SV) (j:Nat),∀ x∈(K9 E ds ss j).1,AL x
 |[],_,x,h=>by cases h
 |s::ss,j,x,h=>by
  simp only [K9] at h
  rcases B7.1 h with rfl|h
  ·exact yJ s j
  ·exact fE ss _ x h
theorem kU {E:Ty→D→D}{ds:List D}:∀ (sl:List (Nat×SV)) (j:Nat) (t:Nat),AL ((L1 E ds sl j).1 t)
 |[],_,_=>trivial
 |(t0,s)::sl,j,t=>by
  simp only [L1]
  cases Nat.beq t t0 with
  |true=>exact yJ s j
  |false=>exact kU sl _ t
theorem yC {ds:List D}{s:SV}{j:Nat}(h:kY s=true):rJ iK (M3 L0 ds s j).1:=by
 cases s with
 |d t=>exact EY h _
 |fn f cs=>exact OV f
 |agg _=>exact kR
 |x=>exact kR
 |bp _ _ _=>exact kR
 |_=>trivial
theorem sG {ds:List D}:∀ {ss:List SV} {j:Nat},ss.all kY=true→∀ x∈(J4 L0 ds ss j).1,rJ iK x
 |[],_,_,x,h=>by cases h
 |s::ss,j,hp,x,h=>by
  simp only [List.all_cons,A9] at hp
  simp only [J4] at h
  rcases B7.1 h with rfl|h
  ·exact yC hp.1
  ·exact sG hp.2 x h
theorem VF {ds:List D}{s:SV}{j:Nat}(h:mG s=true):AK iK (S7 L0 ds s j).1:=by
 match s,h with
 | .fn f [],_=>exact OV f
 | .fn f (c::caps),h=>exact sG (ss:=c::caps) h
 | .agg ss,h=>
  have hl:=sG (ds:=ds) (ss:=ss) (j:=j) h
  have e:(S7 L0 ds (.agg ss) j).1=T8 (J4 L0 ds ss j).1:=rfl
  rw [e]
  have hs:=cM (E:=L0) (ds:=ds) ss j
  generalize (J4 L0 ds ss j).1=cs at *
  unfold T8
  split
  ·rename_i xs e
   refine xZ fun c hc=>?_
   have:=hl (.d c) (by rw [oY e];exact List.mem_map.2 ⟨c,hc,rfl⟩)
   exact this
  ·intro x hx
   obtain⟨c,hc,rfl⟩:=List.mem_map.1 hx
   rw [qQ (hs c hc)];exact hl c hc
 | .d t,h=>exact yC (s:= .d t) h
 | .ptr ..,_=>trivial
 | .row ..,_=>trivial
 | .mp ..,_=>trivial
 | .bp ..,_=>trivial
 | .x,_=>exact kR
theorem yA {ds:List D}:∀ {ss:List SV} {j:Nat},ss.all mG=true→∀ x∈(K9 L0 ds ss j).1,AK iK x
 |[],_,_,x,h=>by cases h
 |s::ss,j,hp,x,h=>by
  simp only [List.all_cons,A9] at hp
  simp only [K9] at h
  rcases B7.1 h with rfl|h
  ·exact VF hp.1
  ·exact yA hp.2 x h
theorem yD {ds:List D}:∀ {sl:List (Nat×SV)} {j:Nat},(sl.all fun p=>mG p.2)=true→∀ t,AK iK ((L1 L0 ds sl j).1 t)
 |[],_,_,t=>kR
 |(t0,s)::sl,j,hp,t=>by
  simp only [List.all_cons,A9] at hp
  simp only [L1]
  cases Nat.beq t t0 with
  |true=>exact VF hp.1
  |false=>exact yD hp.2 t
section
variable {p q2:Nat→Prop} {g1 g2:G} {f:Nat→Nat} {n1:Nat} {w:World}
structure Names (n1:Nat) (q2:Nat→Prop) (g1 g2:G) (f:Nat→Nat):Prop where
 blk:∀ l,l<n1→g2.blk (f l)=g1.blk l
 hdr:∀ l,l<n1→g2.hdr (f l)=g1.hdr l
 ihdr:∀ l,l<n1→∀ i,g2.ihdr (f l) i=g1.ihdr l i
 q:∀ l,l<n1→q2 (f l)
def jR (g1 g2:G)(d:D):Prop:=∀ v,VD g1.h d v→VD g2.h d v
theorem jI (N:Names n1 q2 g1 g2 f){x:V}{v:Value}(hs:DQ x)(hd:rJ (jR g1 g2) x)(h:VL g1 x v)(hu:x.aS (·<n1)):VL g2 (jH f x) v∧(jH f x).aS q2:=by
 match x,hs,hd,h,hu with
 | .d d,_,hd,h,_=>exact⟨hd v h,trivial⟩
 | .ptr o off,_,_,h,hu=>
  have hu:o<n1:=hu
  refine⟨?_,N.q o hu⟩
  show v=_
  rw [N.blk o hu];exact h
 | .row o,_,_,h,hu=>
  have hu:o<n1:=hu
  refine⟨?_,N.q o hu⟩
  show v=_∧_
  rw [N.hdr o hu];exact h
 | .mp o,_,_,h,hu=>
  have hu:o<n1:=hu
  refine⟨?_,N.q o hu⟩
  show v=_
  rw [N.blk o hu];exact h
theorem oJ (N:Names n1 q2 g1 g2 f):∀ {xs:List V} {vs:List Value},(∀ x∈xs,DQ x)→(∀ x∈xs,rJ (jR g1 g2) x)→F2 (VL g1) xs vs→(∀ x∈xs,x.aS (·<n1))→
  F2 (VL g2) (xs.map (jH f)) vs∧∀ x∈xs.map (jH f),x.aS q2
 |[],_,_,_,h,_=>by cases h;exact⟨.nil,fun x hx=>by cases hx⟩
 |x::xs,_,hs,hd,h,hu=>by
  cases h with
  |cons h1 h2=>
   obtain⟨a1,a2⟩:=jI N (hs x (by simp)) (hd x (by simp)) h1 (hu x (by simp))
   obtain⟨b1,b2⟩:=oJ N (fun y hy=>hs y (by simp [hy])) (fun y hy=>hd y (by simp [hy])) h2 (fun y hy=>hu y (by simp [hy]))
   exact⟨.cons a1 b1,fun y hy=>by
    simp only [List.map_cons] at hy
    rcases B7.1 hy with rfl|hy
    ·exact a2
    ·exact b2 y hy⟩
theorem QA (N:Names n1 q2 g1 g2 f){x:V}{v:Value}(hs:AL x)(hd:AK (jR g1 g2) x)(h:VA g1 x v)(hu:x.K7 (·<n1)):VA g2 (GN f x) v∧(GN f x).K7 q2:=by
 match x,hs,hd,h,hu with
 | .fn _ [],hs,_,h,_=>exact hs.elim
 | .fn fn (c::cs),hs,hd,h,hu=>
  obtain⟨us,rfl,h1⟩:=h
  obtain⟨a1,a2⟩:=oJ N hs hd h1 hu
  exact⟨⟨us,rfl,a1⟩,a2⟩
 | .agg cs,hs,hd,h,hu=>
  obtain⟨us,rfl,h1⟩:=h
  obtain⟨a1,a2⟩:=oJ N hs hd h1 hu
  exact⟨⟨us,rfl,a1⟩,a2⟩
 | .d d,hs,hd,h,hu=>exact⟨hd v h,trivial⟩
 | .ptr o off,hs,hd,h,hu=>
  obtain⟨a1,a2⟩:=jI N (x:= .ptr o off) hs hd h hu
  exact⟨a1,a2⟩
 | .row o,hs,hd,h,hu=>
  obtain⟨a1,a2⟩:=jI N (x:= .row o) hs hd h hu
  exact⟨a1,a2⟩
 | .mp o,hs,hd,h,hu=>
  obtain⟨a1,a2⟩:=jI N (x:= .mp o) hs hd h hu
  exact⟨a1,a2⟩
 | .bp t o off,_,_,h,hu=>
  have hu:o<n1:=hu
  refine⟨?_,N.q o hu⟩
  show v=_∨v=_
  rw [N.blk o hu];exact h
theorem uQ (N:Names n1 q2 g1 g2 f):∀ {xs:List V} {vs:List Value},(∀ x∈xs,AL x)→(∀ x∈xs,AK (jR g1 g2) x)→F2 (VA g1) xs vs→(∀ x∈xs,x.K7 (·<n1))→
  F2 (VA g2) (xs.map (GN f)) vs∧∀ x∈xs.map (GN f),x.K7 q2
 |[],_,_,_,h,_=>by cases h;exact⟨.nil,fun x hx=>by cases hx⟩
 |x::xs,_,hs,hd,h,hu=>by
  cases h with
  |cons h1 h2=>
   obtain⟨a1,a2⟩:=QA N (hs x (by simp)) (hd x (by simp)) h1 (hu x (by simp))
   obtain⟨b1,b2⟩:=uQ N (fun y hy=>hs y (by simp [hy])) (fun y hy=>hd y (by simp [hy])) h2 (fun y hy=>hu y (by simp [hy]))
   exact⟨.cons a1 b1,fun y hy=>by
    simp only [List.map_cons] at hy
    rcases B7.1 hy with rfl|hy
    ·exact a2
    ·exact b2 y hy⟩
theorem Du {fr:Nat→Nat}{t o' f:Nat}{cs:List V}(h:V.bp t o' f∈cs.map (GN fr)):∃ o,V.bp t o f∈cs:=by
 obtain⟨x,hx,e⟩:=List.mem_map.1 h
 match x,hx,e with
 | .bp t2 o2 f2,hx,e=>cases e;exact⟨_,hx⟩
 | .fn _ _,_,e=>cases e
 | .agg _,_,e=>cases e
 | .d _,_,e=>cases e
 | .ptr ..,_,e=>cases e
 | .el ..,_,e=>cases e
 | .rp ..,_,e=>cases e
 | .row _,_,e=>cases e
 | .sub ..,_,e=>cases e
 | .tup _,_,e=>cases e
 | .mp _,_,e=>cases e
 | .ir ..,_,e=>cases e
 | .irp ..,_,e=>cases e
def Hb (g1 g2:G):Ob→Prop
 | .var cs=>(∀ x∈cs,AL x)∧∀ x∈cs,AK (jR g1 g2) x
 | .row _ _ xs _=>∀ h us sz,h=g1.h→aT h sz xs us→aT g2.h sz xs us
 | .mp _ xs=>∀ x∈xs,jR g1 g2 (x.at_ 0)∧jR g1 g2 (x.at_ 1)
 | .it ..=>True
 | .nst _ _ _ xs=>∀ sz ys us,D.Z sz ys∈xs→aT g1.h sz ys us→aT g2.h sz ys us
theorem XT (N:Names n1 q2 g1 g2 f){l:Nat}{ob:Ob}(hl:l<n1)(ho:Hb g1 g2 ob)(hfz:∀ e sz xs,ob≠ .row e sz xs true)(h:OB g1 l ob w)(hu:ob.K5 (·<n1)) :
  OB g2 (f l) (jT f ob) w∧(jT f ob).K5 q2∧∀ b,S9 g2 (f l) (jT f ob) b→S9 g1 l ob b:=by
 match ob,ho,hfz,h,hu with
 | .var cs,ho,_,h,hu=>
  obtain⟨c,e,k1,k2,k3⟩:=h
  obtain⟨a1,a2⟩:=uQ N ho.1 ho.2 k2 hu
  refine⟨⟨c,e,by rw [N.blk l hl];exact k1,a1,k3.1,fun t o' f' hm=>by obtain⟨o,hm'⟩:=Du hm;exact k3.2 _ _ _ hm'⟩,a2,fun b hb=>?_⟩
  simp only [jT,S9,N.blk l hl] at hb
  exact hb
 | .row e sz xs false,ho,_,h,hu=>
  obtain⟨us,k1,k2,k3⟩:=h
  refine⟨⟨us,k1,by rw [N.hdr l hl];exact k2,ho _ _ _ rfl k3⟩,trivial,fun b hb=>?_⟩
  simp only [jT,S9,N.hdr l hl] at hb
  exact hb
 | .row e sz xs true,_,hfz,_,_=>exact absurd rfl (hfz e sz xs)
 | .mp kt xs,ho,_,h,hu=>
  obtain⟨es,clock,k1,k2,kb⟩:=h
  refine⟨⟨es,clock,by rw [N.blk l hl];exact k1,k2.mono fun x hx _ k=>⟨(ho x hx).1 _ k.1,(ho x hx).2 _ k.2.1,k.2.2⟩,kb⟩,trivial,fun b hb=>?_⟩
  simp only [jT,S9,N.blk l hl] at hb
  exact hb
 | .nst e ie sz xs,ho,_,h,hu=>
  obtain⟨k0,⟨us,k1,k2⟩,k3⟩:=h
  refine⟨⟨k0,⟨us,by rw [N.hdr l hl];exact k1,fun j x hx=>?_⟩,by simpa only [N.hdr l hl,N.ihdr l hl] using k3⟩,trivial,fun b hb=>by simpa only [jT,S9,N.hdr l hl,N.ihdr l hl] using hb⟩
  obtain⟨v,hv,k⟩:=k2 j x hx
  refine⟨v,hv,?_⟩
  rcases k with ⟨m1,m2,m3,m4,m5⟩|⟨ys,vs,m1,m2,m3,m4,m5,m6⟩
  ·exact .inl ⟨m1,m2,m3,m4,by rw [N.ihdr l hl];exact m5⟩
  ·exact .inr ⟨ys,vs,m1,m2,by rw [N.ihdr l hl];exact m3,m4,m5,ho _ _ _ (by rw [← m1];exact List.mem_of_getElem? hx) m6⟩
 | .it t mo xs,ho,_,h,hu=>
  obtain⟨n,ns,k0,k1⟩:=h
  have hu:mo<n1:=hu
  refine⟨⟨n,ns,k0,by rw [N.blk l hl,N.blk mo hu];exact k1⟩,N.q mo hu,fun b hb=>?_⟩
  simp only [jT,S9,N.blk l hl] at hb
  exact hb
end
end Go.AE
namespace Go.AE
open Go.RowKit
def uE:eQ→Bool
 | .var _=>true
 | .row _ _ m=>Nat.beq m 1
 | .nst _ _ _ m=>Nat.beq m 1
 | .gone=>false
 | .mp _=>true
 | .it ..=>true
def iU:eQ→Bool
 | .gone=>true
 |_=>false
theorem beq_false {x y:Nat}(h:x≠y):Nat.beq x y=false:=by
 cases k:Nat.beq x y with
 |true=>exact absurd (beq_iff.1 k) h
 |false=>rfl
theorem NB (l0:Nat)(s:eQ)(r:List eQ):L2 l0 (s::r)=if uE s=true then (l0,l0)::L2 (l0+1) r else L2 (l0+1) r:=by
 cases s with
 |var _=>rfl
 |row e sz m=>
  have h1:L2 l0 (.row e sz m::r)=bif uE (.row e sz m) then (l0,l0)::L2 (l0+1) r else L2 (l0+1) r:=rfl
  rw [h1]
  cases uE (.row e sz m)<;>rfl
 |nst e ie sz m=>
  have h1:L2 l0 (.nst e ie sz m::r)=bif uE (.nst e ie sz m) then (l0,l0)::L2 (l0+1) r else L2 (l0+1) r:=rfl
  rw [h1]
  cases uE (.nst e ie sz m)<;>rfl
 |gone=>rfl
 |mp _=>rfl
 |it _ _=>rfl
theorem Y9:∀ {objs:List eQ} {l0 l o:Nat},I4 (L2 l0 objs) l=some o↔o=l∧∃ k s,l=l0+k∧objs[k]? = some s∧uE s=true
 |[],l0,l,o=>by simp [L2,I4]
 |s::r,l0,l,o=>by
  rw [NB]
  have ih:=@Y9 r (l0+1) l o
  by_cases hs:uE s=true
  ·rw [if_pos hs,fH]
   by_cases e:l=l0
   ·subst e
    rw [if_pos rfl]
    constructor
    ·intro h;cases h;exact⟨rfl,0,s,rfl,rfl,hs⟩
    ·rintro ⟨rfl,_⟩;rfl
   ·rw [if_neg e,ih]
    constructor
    ·rintro ⟨h1,k,s',h2,h3,h4⟩;exact⟨h1,k+1,s',by omega,by simpa using h3,h4⟩
    ·rintro ⟨h1,k,s',h2,h3,h4⟩
     cases k with
     |zero=>omega
     |succ k=>exact⟨h1,k,s',by omega,by simpa using h3,h4⟩
  ·rw [if_neg hs,ih]
   constructor
   ·rintro ⟨h1,k,s',h2,h3,h4⟩;exact⟨h1,k+1,s',by omega,by simpa using h3,h4⟩
   ·rintro ⟨h1,k,s',h2,h3,h4⟩
    cases k with
    |zero=>simp at h3;subst h3;exact absurd h4 hs
    |succ k=>exact⟨h1,k,s',by omega,by simpa using h3,h4⟩
theorem R1 {E:Ty→D→D}{ds:List D}:∀ {objs:List eQ} {l0 j l:Nat} {x:Ob},J3 E ds objs l0 j l=some x→
  ∃ k s,l=l0+k∧objs[k]? = some s∧iU s=false∧(∀ cs,x = .var cs→∀ c∈cs,AL c)∧(∀ e sz xs,x≠ .row e sz xs true)
 |[],_,_,_,_,h=>by simp [J3] at h
 | .gone::r,l0,j,l,x,h=>by
  obtain⟨k,s,h1,h2,h3⟩:=R1 (objs:=r) h
  exact⟨k+1,s,by omega,by simpa using h2,h3⟩
 | .var ss::r,l0,j,l,x,h=>by
  simp only [J3] at h
  by_cases e:l=l0
  ·rw [beq_iff.2 e] at h
   simp only [cond_true,B1] at h
   subst h
   exact⟨0,_,by omega,rfl,rfl,fun cs hcs=>by cases hcs;exact fE ss j,fun _ _ _ hc=>by cases hc⟩
  ·rw [beq_false e] at h
   obtain⟨k,s,h1,h2,h3⟩:=R1 (objs:=r) h
   exact⟨k+1,s,by omega,by simpa using h2,h3⟩
 | .row e' sz m::r,l0,j,l,x,h=>by
  simp only [J3] at h
  by_cases e:l=l0
  ·rw [beq_iff.2 e] at h
   simp only [cond_true,B1] at h
   subst h
   exact⟨0,_,by omega,rfl,rfl,fun cs hcs=>(by cases hcs),fun _ _ _ hc=>by cases hc⟩
  ·rw [beq_false e] at h
   obtain⟨k,s,h1,h2,h3⟩:=R1 (objs:=r) h
   exact⟨k+1,s,by omega,by simpa using h2,h3⟩
 | .nst e1 ie sz m::r,l0,j,l,x,h=>by
  simp only [J3] at h
  by_cases e:l=l0
  ·rw [beq_iff.2 e] at h
   simp only [cond_true,B1] at h
   subst h
   exact⟨0,_,by omega,rfl,rfl,fun cs hcs=>(by cases hcs),fun _ _ _ hc=>by cases hc⟩
  ·rw [beq_false e] at h
   obtain⟨k,s,h1,h2,h3⟩:=R1 (objs:=r) h
   exact⟨k+1,s,by omega,by simpa using h2,h3⟩
 | .mp kt::r,l0,j,l,x,h=>by
  simp only [J3] at h
  by_cases e:l=l0
  ·rw [beq_iff.2 e] at h
   simp only [cond_true,B1] at h
   subst h
   exact⟨0,_,by omega,rfl,rfl,fun cs hcs=>(by cases hcs),fun _ _ _ hc=>by cases hc⟩
  ·rw [beq_false e] at h
   obtain⟨k,s,h1,h2,h3⟩:=R1 (objs:=r) h
   exact⟨k+1,s,by omega,by simpa using h2,h3⟩
 | .it t l'::r,l0,j,l,x,h=>by
  simp only [J3] at h
  by_cases e:l=l0
  ·rw [beq_iff.2 e] at h
   simp only [cond_true,B1] at h
   subst h
   exact⟨0,_,by omega,rfl,rfl,fun cs hcs=>(by cases hcs),fun _ _ _ hc=>by cases hc⟩
  ·rw [beq_false e] at h
   obtain⟨k,s,h1,h2,h3⟩:=R1 (objs:=r) h
   exact⟨k+1,s,by omega,by simpa using h2,h3⟩
theorem X7 {E:Ty→D→D}{ds:List D}:∀ {objs:List eQ} {l0 j k:Nat} {s:eQ},objs[k]? = some s→iU s=false→∃ x,J3 E ds objs l0 j (l0+k)=some x
 |[],_,_,_,_,h,_=>by simp at h
 |s0::r,l0,j,0,s,h,hg=>by
  simp at h
  subst h
  cases s0 with
  |gone=>cases hg
  |var ss=>simp only [J3,Nat.add_zero,beq_iff.2 rfl];exact⟨_,rfl⟩
  |row e sz m=>simp only [J3,Nat.add_zero,beq_iff.2 rfl];exact⟨_,rfl⟩
  |mp kt=>simp only [J3,Nat.add_zero,beq_iff.2 rfl];exact⟨_,rfl⟩
  |nst e ie sz m=>simp only [J3,Nat.add_zero,beq_iff.2 rfl];exact⟨_,rfl⟩
  |it t l=>simp only [J3,Nat.add_zero,beq_iff.2 rfl];exact⟨_,rfl⟩
 |s0::r,l0,j,k+1,s,h,hg=>by
  have h:r[k]? = some s:=by simpa using h
  cases s0 with
  |gone=>
   obtain⟨x,hx⟩:=X7 (E:=E) (ds:=ds) (objs:=r) (k:=k) (l0:=l0+1) (j:=j) h hg
   exact⟨x,by simp only [J3];rw [show l0+(k+1)=l0+1+k from by omega];exact hx⟩
  |var ss=>
   obtain⟨x,hx⟩:=X7 (E:=E) (ds:=ds) (objs:=r) (k:=k) (l0:=l0+1) (j:=(K9 E ds ss j).2) h hg
   exact⟨x,by simp only [J3];rw [beq_false (by omega),cond_false,show l0+(k+1)=l0+1+k from by omega];exact hx⟩
  |row e sz m=>
   obtain⟨x,hx⟩:=X7 (E:=E) (ds:=ds) (objs:=r) (k:=k) (l0:=l0+1) (j:=j+1) h hg
   exact⟨x,by simp only [J3];rw [beq_false (by omega),cond_false,show l0+(k+1)=l0+1+k from by omega];exact hx⟩
  |nst e ie sz m=>
   obtain⟨x,hx⟩:=X7 (E:=E) (ds:=ds) (objs:=r) (k:=k) (l0:=l0+1) (j:=j+1) h hg
   exact⟨x,by simp only [J3];rw [beq_false (by omega),cond_false,show l0+(k+1)=l0+1+k from by omega];exact hx⟩
  |mp kt=>
   obtain⟨x,hx⟩:=X7 (E:=E) (ds:=ds) (objs:=r) (k:=k) (l0:=l0+1) (j:=j+1) h hg
   exact⟨x,by simp only [J3];rw [beq_false (by omega),cond_false,show l0+(k+1)=l0+1+k from by omega];exact hx⟩
  |it t l=>
   obtain⟨x,hx⟩:=X7 (E:=E) (ds:=ds) (objs:=r) (k:=k) (l0:=l0+1) (j:=j+1) h hg
   exact⟨x,by simp only [J3];rw [beq_false (by omega),cond_false,show l0+(k+1)=l0+1+k from by omega];exact hx⟩
theorem PL:∀ {ds:List D} {j:Nat} {sz:Nat} {xs:List D},Y ds j = .Z sz xs→ .Z sz xs∈ds
 |[],_,_,_,h=>by simp [Y] at h
 |x::r,0,_,_,h=>by simp only [Y] at h;simp [h]
 |x::r,j+1,_,_,h=>by simp only [Y] at h;simp [PL h]
theorem XV {sk:Sk}{ds:List D}(h:U5 sk ds=true)(j:Nat):∀ x∈(Y ds j).l,iK x:=by
 intro x hx
 cases e:Y ds j with
 |Z sz xs=>
  rw [e] at hx
  have:=B6.1 (show ds.all _=true from h) _ (PL e)
  exact IM (B6.1 this x hx)
 |_=>rw [e] at hx;cases hx
theorem gG {P:Program}{sk:Sk}{ds:List D}(hd:U5 sk ds=true){g1 g2:G}:∀ {objs:List eQ} {l0 j l:Nat} {x:Ob},
  (objs.all fun | .var ss=>ss.all mG | .row e _ _=>vS (kA P e) | .gone=>true | .mp _=>false | .it ..=>false | .nst ..=>false)=true→J3 L0 ds objs l0 j l=some x→Hb g1 g2 x
 |[],_,_,_,_,_,h=>by simp [J3] at h
 | .gone::r,l0,j,l,x,hp,h=>gG hd (objs:=r) (by simpa using hp) h
 | .var ss::r,l0,j,l,x,hp,h=>by
  simp only [List.all_cons,A9] at hp
  simp only [J3] at h
  by_cases e:l=l0
  ·rw [beq_iff.2 e] at h
   simp only [cond_true,B1] at h
   subst h
   exact⟨fE ss j,fun y hy=>(yA hp.1 y hy).mono fun d hd v hv=>hd _ _ v hv⟩
  ·rw [beq_false e] at h
   exact gG hd hp.2 h
 | .row e' sz m::r,l0,j,l,x,hp,h=>by
  simp only [List.all_cons,A9] at hp
  simp only [J3] at h
  by_cases e:l=l0
  ·rw [beq_iff.2 e] at h
   simp only [cond_true,B1] at h
   subst h
   exact fun _ us sz _ hf=>HO (XV hd j) hf
  ·rw [beq_false e] at h
   exact gG hd hp.2 h
 | .mp kt::r,l0,j,l,x,hp,h=>by simp at hp
 | .nst ..::r,l0,j,l,x,hp,h=>by simp at hp
 | .it t l'::r,l0,j,l,x,hp,h=>by simp at hp
theorem mY {f:Nat→Nat}{h' h:Nat→Option Ob}:∀ {objs:List eQ} {l0 x:Nat} {ob:Ob},bG f h' h l0 objs x=some ob→
  (∃ k s ob1,objs[k]? = some s∧iU s=false∧x=f (l0+k)∧h' (l0+k)=some ob1∧ob=jT f ob1)∨(h x=some ob∧∀ k s,objs[k]? = some s→iU s=false→x≠f (l0+k))
 |[],l0,x,ob,hm=> .inr ⟨hm,fun k s h=>by simp at h⟩
 |s0::r,l0,x,ob,hm=>by
  have rest:bG f h' h (l0+1) r x=some ob→(iU s0=false→x≠f l0)→(∃ k s ob1,(s0::r)[k]? = some s∧iU s=false∧x=f (l0+k)∧h' (l0+k)=some ob1∧ob=jT f ob1)∨
    (h x=some ob∧∀ k s,(s0::r)[k]? = some s→iU s=false→x≠f (l0+k)):=by
   intro hm hx
   rcases mY hm with ⟨k,s,ob1,h1,h2,h3,h4,h5⟩|⟨h1,h2⟩
   ·exact .inl ⟨k+1,s,ob1,by simpa using h1,h2,by rw [h3];congr 1;omega,by rw [← h4];congr 1;omega,h5⟩
   ·refine .inr ⟨h1,fun k s hk hg=>?_⟩
    cases k with
    |zero=>simp at hk;subst hk;exact hx hg
    |succ k=>have:=h2 k s (by simpa using hk) hg;rwa [show l0+(k+1)=l0+1+k from by omega]
  have here:iU s0=false→bG f h' h l0 (s0::r) x=(bif Nat.beq x (f l0) then (match h' l0 with|some ob=>some (jT f ob)|none=>none) else bG f h' h (l0+1) r x):=by
   intro hg;cases s0<;>first|rfl|cases hg
  cases hg:iU s0 with
  |true=>
   cases s0 with
   |gone=>exact rest hm (fun h=>by rw [hg] at h;cases h)
   |_=>cases hg
  |false=>
   rw [here hg] at hm
   by_cases e:x=f l0
   ·rw [beq_iff.2 e] at hm
    simp only [cond_true] at hm
    split at hm
    ·rename_i ob1 h1
     simp only [B1] at hm
     exact .inl ⟨0,s0,ob1,rfl,hg,e,h1,hm.symm⟩
    ·cases hm
   ·rw [beq_false e] at hm
    exact rest hm fun _=>e
def FH:eQ→Bool
 | .row ..=>true
 | .nst ..=>true
 |_=>false
theorem mQ {sk:Sk}{ren pre:List (Nat×Nat)}{h:Nat→Option Ob}:∀ {objs:List eQ} {l0 x:Nat} {ob:Ob},aY sk ren pre h l0 objs x=some ob→
  h x=some ob∧∀ k s,objs[k]? = some s→FH s=true→I4 pre (l0+k)=none→I4 ren (l0+k)≠some x
 |[],l0,x,ob,hd=>⟨hd,fun k s h=>by simp at h⟩
 |s0::r,l0,x,ob,hd=>by
  have rest:aY sk ren pre h (l0+1) r x=some ob→(FH s0=true→I4 pre l0=none→I4 ren l0≠some x)→
    h x=some ob∧∀ k s,(s0::r)[k]? = some s→FH s=true→I4 pre (l0+k)=none→I4 ren (l0+k)≠some x:=by
   intro hm hx
   obtain⟨h1,h2⟩:=mQ hm
   refine⟨h1,fun k s hk hs hp=>?_⟩
   cases k with
   |zero=>simp at hk;subst hk;exact hx hs hp
   |succ k=>have:=h2 k s (by simpa using hk) hs;rw [show l0+(k+1)=l0+1+k from by omega] at hp ⊢;exact this hp
  have drop:(bif (match I4 pre l0 with|some _=>false|none=>(match I4 ren l0 with|some o=>Nat.beq x o|none=>false)) then none else aY sk ren pre h (l0+1) r x)=some ob→
    h x=some ob∧∀ k s,(s0::r)[k]? = some s→FH s=true→I4 pre (l0+k)=none→I4 ren (l0+k)≠some x:=by
   intro hd
   obtain⟨hb,hd⟩:=I2 hd
   refine rest hd fun _ hp hr=>?_
   rw [hp,hr] at hb
   simp only [beq_iff.2 rfl] at hb
   cases hb
  cases s0 with
  |var ss=>exact rest hd (fun h=>by cases h)
  |gone=>exact rest hd (fun h=>by cases h)
  |mp kt=>exact rest hd (fun h=>by cases h)
  |it t l=>exact rest hd (fun h=>by cases h)
  |row e sz m=>exact drop hd
  |nst e ie sz m=>exact drop hd
end Go.AE
