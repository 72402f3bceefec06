import Derived.Test.YtpmjplpnpnmlcaaGreatDoorEng1
import Derived.Laws.MakeOwn
import Derived.Laws.AppendOwnNone
import Derived.Laws.IdiomCopy
import Derived.Lib.AppendStr
import Derived.MapKept
import Derived.Laws.IdiomRangeMap
set_option linter.all false
namespace Go.AE
open Go.RowKit
section
variable {u:Nat→Option Obj} {p q:Nat→Prop} {g:G} {st:St} {h h':Nat→Option Ob} {a:Act} {w w':World} {P:Program} {o:Oper} {R:Type} {K:V→St→Option R} {r:R}
theorem beq_iff {x y:Nat}:Nat.beq x y=true↔x=y:=⟨Nat.eq_of_beq_eq_true,fun e=>by subst e;exact Nat.beq_refl x⟩
theorem setH_eq (st:St)(o:Nat)(ob:Option Ob)(x:Nat):(st.setH o ob).h x=if x=o then ob else st.h x:=by
 simp only [St.setH]
 by_cases e:x=o
 ·rw [if_pos e,beq_iff.2 e];rfl
 ·rw [if_neg e]
  cases k:Nat.beq x o with
  |true=>exact absurd (beq_iff.1 k) e
  |false=>rfl
theorem cell1_one {x:V}{v:Value}(hc:cell1 x=true)(hv:VV g x v):v.oneCell'=true:=by
 match x,hc,hv with
 | .d (.bool _),_,hv=>have hv:v=_:=hv;subst hv;rfl
 | .d (.int _ _),_,hv=>have hv:v=_:=hv;subst hv;rfl
 | .d (.str _),_,hv=>obtain⟨b,rfl,_⟩:=hv;rfl
 | .d (.lst _ _),_,hv=>obtain⟨A,cap,rfl,_⟩:=hv;rfl
 | .d (.nils _ _),_,hv=>have hv:v=_:=hv;subst hv;rfl
 | .d (.fn _),_,hv=>have hv:v=_:=hv;subst hv;rfl
 | .d .nilp,_,hv=>have hv:v=_:=hv;subst hv;rfl
 | .d .nilf,_,hv=>have hv:v=_:=hv;subst hv;rfl
 | .d .nilm,_,hv=>have hv:v=_:=hv;subst hv;rfl
 | .d .nili,_,hv=>have hv:v=_:=hv;subst hv;rfl
 | .d .ub,_,hv=>obtain⟨_,rfl⟩:=hv;rfl
 | .d (.iface _ _),_,hv=>obtain⟨_,rfl,_⟩:=hv;rfl
 | .d (.meth ..),_,hv=>obtain⟨_,rfl,_⟩:=hv;rfl
 | .ptr _ _,_,hv=>have hv:v=_:=hv;subst hv;rfl
 | .el ..,_,hv=>obtain⟨_,_,_,rfl⟩:=hv;rfl
 | .rp ..,_,hv=>obtain⟨_,_,_,rfl⟩:=hv;rfl
 | .sub ..,_,hv=>obtain⟨_,_,_,rfl,_⟩:=hv;rfl
 | .fn _ [],_,hv=>have hv:v=_:=hv;subst hv;rfl
 | .fn _ (_::_),_,hv=>obtain⟨_,rfl,_⟩:=hv;rfl
 | .row ro,_,hv=>exact hv.2
 | .mp _,_,hv=>have hv:v=_:=hv;subst hv;rfl
 | .ir ..,_,hv=>exact hv.2.1
 | .irp ..,_,hv=>obtain⟨_,_,_,_,_,_,rfl⟩:=hv;rfl
 | .bp ..,_,hv=>rcases (hv:v=_∨v=_) with rfl|rfl<;>rfl
theorem cells_of {x:V}{v:Value}(hc:okCells x=true)(hv:VV g x v)(hx:x.uses p) :
  F2 (VA g) x.cells v.cells.toList∧(∀ y∈v.cells.toList,y.oneCell'=true)∧(∀ c∈x.cells,c.usesA p):=by
 have one:∀ (cs:List V) (us:List Value),F2 (VA g) cs us→cs.all cell1=true→∀ y∈us,y.oneCell'=true:=by
  intro cs us hF
  induction hF with
  |nil=>intro _ y hy;cases hy
  |cons h1 _ ih=>
   intro hall y hy
   simp only [List.all_cons,Bool.and_eq_true] at hall
   rcases List.mem_cons.1 hy with rfl|hy
   ·exact cell1_one hall.1 (VV_of_VA h1)
   ·exact ih hall.2 y hy
 have single:x.cells=[x]→cell1 x=true→VA g x v→x.usesA p→F2 (VA g) x.cells v.cells.toList∧(∀ y∈v.cells.toList,y.oneCell'=true)∧(∀ c∈x.cells,c.usesA p):=by
  intro e h1 h2 h3
  have h4:=cell1_one h1 hv
  rw [e,cells_one h4]
  refine⟨.cons h2 .nil,?_,?_⟩
  ·intro y hy;simp at hy;subst hy;exact h4
  ·intro c hc;simp at hc;subst hc;exact h3
 have all1:x.cells=[x]→cell1 x=true:=by intro e;unfold okCells at hc;rw [e] at hc;simpa using hc
 match x,hc,hv,hx,one,single,all1 with
 | .d (.agg cs),hc,hv,_,one,_,_=>
  obtain⟨us,rfl,h1⟩:=hv
  have hF:F2 (VA g) (cs.map V.d) us.toList:=F2.map_left (((VDs_F2 _ _ _).1 h1).mono fun c _ b hb=>hb)
  exact⟨hF,one _ _ hF hc,fun c hc=>by obtain⟨d,_,rfl⟩:=List.mem_map.1 hc;trivial⟩
 | .agg cs,hc,hv,hx,one,_,_=>
  obtain⟨us,rfl,h1⟩:=VV_agg hv
  have hF:F2 (VA g) cs us.toList:=h1.mono fun c _ b hb=>VA_of_VL hb
  exact⟨hF,one _ _ hF hc,fun c hcm=>by obtain⟨b,_,hb⟩:=h1.mem c hcm;exact VL_usesA hb (hx c hcm)⟩
 | .tup vs,_,hv,_,_,_,all1=>have:=all1 rfl;simp [cell1] at this
 | .d .top,_,hv,_,_,single,all1=>exact single rfl (all1 rfl) hv trivial
 | .d .und,_,hv,_,_,single,all1=>exact single rfl (all1 rfl) hv trivial
 | .d (.bool _),_,hv,_,_,single,all1=>exact single rfl (all1 rfl) hv trivial
 | .d (.int _ _),_,hv,_,_,single,all1=>exact single rfl (all1 rfl) hv trivial
 | .d (.str _),_,hv,_,_,single,all1=>exact single rfl (all1 rfl) hv trivial
 | .d (.lst _ _),_,hv,_,_,single,all1=>exact single rfl (all1 rfl) hv trivial
 | .d (.nils _ _),_,hv,_,_,single,all1=>exact single rfl (all1 rfl) hv trivial
 | .d (.fn _),_,hv,_,_,single,all1=>exact single rfl (all1 rfl) hv trivial
 | .d .nilp,_,hv,_,_,single,all1=>exact single rfl (all1 rfl) hv trivial
 | .d .nilf,_,hv,_,_,single,all1=>exact single rfl (all1 rfl) hv trivial
 | .d .nilm,_,hv,_,_,single,all1=>exact single rfl (all1 rfl) hv trivial
 | .d .nili,_,hv,_,_,single,all1=>exact single rfl (all1 rfl) hv trivial
 | .d .ub,_,hv,_,_,single,all1=>exact single rfl (all1 rfl) hv trivial
 | .d (.iface _ _),_,hv,_,_,single,all1=>exact single rfl (all1 rfl) hv trivial
 | .d (.meth ..),_,hv,_,_,single,all1=>exact single rfl (all1 rfl) hv trivial
 | .ptr _ _,_,hv,hx,_,single,all1=>exact single rfl (all1 rfl) hv hx
 | .el ..,_,hv,hx,_,single,all1=>exact single rfl (all1 rfl) hv trivial
 | .rp ..,_,hv,hx,_,single,all1=>exact single rfl (all1 rfl) hv hx
 | .row _,_,hv,hx,_,single,all1=>exact single rfl (all1 rfl) hv hx
 | .mp _,_,hv,hx,_,single,all1=>exact single rfl (all1 rfl) hv hx
 | .ir ..,_,hv,hx,_,single,all1=>exact single rfl (all1 rfl) hv hx
 | .irp ..,_,hv,hx,_,single,all1=>exact single rfl (all1 rfl) hv hx
 | .sub ..,_,hv,hx,_,single,all1=>exact single rfl (all1 rfl) hv hx
 | .fn _ [],_,hv,hx,_,single,all1=>exact single rfl (all1 rfl) hv hx
 | .fn _ (_::_),_,hv,hx,_,single,all1=>exact single rfl (all1 rfl) hv hx
theorem newVar_simB (S:SimH u p g h w)(hpq:∀ x,p x→q x){no:Nat}(hnp:¬ p no)(hqo:q no){cs:List V}{us:Array Value}{e:TypeId}(hF:F2 (fun c v=>(c.usesA p∧VA g c v)∨(∃ t f,c = .bp t no f∧v = .pointer none)) cs us.toList)
  (h1:∀ y∈us.toList,y.oneCell'=true) (hbp:∀ t o' f,V.bp t o' f∈cs→e=t) (hh:∀ x,h' x=if x=no then some (.var cs) else h x) :
  ∃ g',Agree p g g'∧g'.h=g.h∧g'.hdr=g.hdr∧g'.blk no=w.heap.size∧SimH u q g' h' (w.alloc (.cells us e)):=by
 have ha:Agree p g ⟨g.h,fun x=>if x=no then w.heap.size else g.blk x,g.hdr,g.ihdr⟩:=⟨fun _ _ h=>h,fun x hx=>by
  have:x≠no:=fun e=>hnp (e▸hx)
  simp [this],fun _ _=>rfl,fun _ _=>rfl⟩
 refine⟨_,ha,rfl,rfl,by simp,?_⟩
 refine S.update ha rfl none (fun k hk _=>heap_alloc_old w _ hk) (fun b hb=>by cases hb) hpq no ?_ ?_
 ·intro o' x hx hne
  rw [hh,if_neg hne] at hx
  exact⟨hx,fun b _ e=>by cases e⟩
 ·intro x hx
  rw [hh,if_pos rfl] at hx
  simp only [Option.some.injEq] at hx
  subst hx
  refine⟨⟨us,e,?_,hF.mono fun c hc b hb=>?_,h1,hbp⟩,?_,hqo,fun c hc=>?_⟩
  ·simp only [if_true];exact heap_alloc_new w _
  ·rcases hb with ⟨hu,hb⟩|⟨t,f,rfl,rfl⟩
   ·exact VA.agree ha hu hb
   ·exact (Or.inl rfl:VL _ (.bp t no f) _)
  ·intro b hb
   simp only [obk,if_true] at hb
   exact .inr (by omega)
  ·have:∀ {cs:List V} {us:List Value},F2 (fun c v=>(c.usesA p∧VA g c v)∨(∃ t f,c = .bp t no f∧v = .pointer none)) cs us→∀ c∈cs,c.usesA q:=by
    intro cs us h
    induction h with
    |nil=>intro c hc;cases hc
    |cons hr _ ih=>
     intro c hc
     rcases List.mem_cons.1 hc with rfl|hc
     ·rcases hr with ⟨hu,_⟩|⟨t,f,rfl,_⟩
      ·exact hu.mono hpq
      ·exact hqo
     ·exact ih c hc
   exact this hF c hc
theorem newVar_sim (S:SimH u p g h w)(hpq:∀ x,p x→q x){no:Nat}(hnp:¬ p no)(hqo:q no){cs:List V}{us:Array Value}{e:TypeId}(hF:F2 (VA g) cs us.toList)
  (h1:∀ y∈us.toList,y.oneCell'=true) (hu:∀ c∈cs,c.usesA p) (hbp:∀ t o' f,V.bp t o' f∈cs→e=t) (hh:∀ x,h' x=if x=no then some (.var cs) else h x) :
  ∃ g',Agree p g g'∧g'.h=g.h∧g'.hdr=g.hdr∧g'.blk no=w.heap.size∧SimH u q g' h' (w.alloc (.cells us e)):=
 newVar_simB S hpq hnp hqo (hF.mono fun c hc _ hb=> .inl ⟨hu c hc,hb⟩) h1 hbp hh
theorem okCells_bp {vv:V}(h:okCells vv=true){t o f:Nat}:V.bp t o f∉vv.cells:=fun hm=>by
 have:=List.all_eq_true.1 h _ hm
 simp [cell1] at this
theorem F2.setL {α β:Type}{R:α→β→Prop}{zs:List α}{bs:List β}(h:F2 R zs bs):∀ {j:Nat} {a:α} {b:β},bs[j]? = some b→R a b→F2 R (zs.set j a) bs:=by
 induction h with
 |nil=>intro j a b hb;simp at hb
 |cons hr hs ih=>
  intro j a b hb ha
  cases j with
  |zero=>simp at hb;subst hb;exact .cons ha hs
  |succ j=>exact .cons hr (ih (by simpa using hb) ha)
theorem newRow_sim (S:SimH u p g h w)(hpq:∀ x,p x→q x){no:Nat}(hnp:¬ p no)(hqo:q no){e sz:Nat}{xs:List D}{v:Value}{us:List Value}{row:Option Nat}
  (hg:w.grownBy w' row) (hown:w'.ownsRow 0 e sz v xs.length us) (hsz:0<sz) (hf:VDf g.h sz xs us) (hrow:∀ b,row=some b→g.h b=none∧u b=none)
  (hblk:∀ b,v.ownBlock=some b→some b=row∨w.heap.size≤b)
  (hoth:∀ o' x,h' o'=some x→o'≠no→h o'=some x∧∀ b,obk g o' x b→some b≠row) (ho:h' no=some (.row e sz xs false)) :
  ∃ g',Agree p g g'∧g'.h=g.h∧g'.blk=g.blk∧g'.hdr no=v∧SimH u q g' h' w':=by
 have ha:Agree p g ⟨g.h,g.blk,fun x=>if x=no then v else g.hdr x,g.ihdr⟩:=⟨fun _ _ h=>h,fun _ _=>rfl,fun x hx=>by
  have:x≠no:=fun e=>hnp (e▸hx)
  simp [this],fun _ _=>rfl⟩
 refine⟨_,ha,rfl,rfl,by simp,?_⟩
 refine S.update ha rfl row hg.block hrow hpq no hoth ?_
 intro x hx
 rw [ho] at hx
 simp only [Option.some.injEq] at hx
 subst hx
 refine⟨⟨us,hsz,by simpa using hown,hf⟩,?_,hqo,trivial⟩
 intro b hb
 simp only [obk,if_true] at hb
 exact hblk b hb
theorem ext_grown {g':G}{row:Option Nat}(hg:w.grownBy w' row)(ha:Agree p g g'):Ext g w g' w':=⟨ha.h,hg.os,hg.tape,hg.output,hg.size⟩
theorem ext_alloc {g':G}{x:Obj}(ha:Agree p g g'):Ext g w g' (w.alloc x):=⟨ha.h,rfl,rfl,rfl,by simp⟩
theorem grown_refl (w:World)(row:Option Nat):w.grownBy w row:=⟨rfl,rfl,rfl,Nat.le_refl _,fun _ _ _=>rfl⟩
def Fresh (p q:Nat→Prop)(nid:Nat):Prop:=∀ k,k<32→¬ p (nid+k)∧q (nid+k)
theorem Fresh.zero {nid:Nat}(h:Fresh p q nid):¬ p nid∧q nid:=h 0 (by omega)
theorem ownK_ok {K:V→St→Option R}(S:SimH u p g st.h w)(hpq:∀ x,p x→q x){no:Nat}(hnp:¬ p no)(hqo:q no){t:TypeId}{vv:V}{v:Value}(hv:VV g vv v)(hu:vv.uses p)
  (h:ownK P t no vv st K=some r) :
  ∃ g' vv' st',K vv' st'=some r∧SimH u q g' st'.h w∧Agree p g g'∧g'.h=g.h∧g'.blk=g.blk∧VV g' vv' v∧vv'.uses q∧st'.t=st.t∧st'.m=st.m∧
   (∀ x,x≠no→st'.h x=st.h x)∧(okCells vv=true→okCells vv'=true)∧(cell1 vv=true→cell1 vv'=true)∧(cell1 vv=true→vv'.usesA q∧VA g' vv' v):=by
 unfold ownK at h
 split at h
 ·rename_i x y
  split at h
  ·rename_i e he
   obtain⟨hsz,h⟩:=bif_some h
   have hsz:0<szT P e:=by have h1:Nat.ble 1 (szT P e)=true:=hsz;exact Nat.le_of_ble_eq_true h1
   have hv:v = .slice none 0 0:=hv
   subst hv
   obtain⟨g',a1,a2,a3,a4,a5⟩:=newRow_sim (h':=(newRow st no e (szT P e) []).h) S hpq hnp hqo (e:=e) (sz:=szT P e) (xs:=[]) (v:= .slice none 0 0) (us:=[]) (row:=none) (grown_refl w none) (World.ownsRow_nil w 0 e (szT P e)) hsz rfl
    (fun b hb=>by cases hb) (fun b hb=>by cases hb) (fun o' x hx hne=>by rw [newRow,setH_eq,if_neg hne] at hx;exact⟨hx,fun _ _ e=>by cases e⟩) (by rw [newRow,setH_eq,if_pos rfl])
   have hV:VL g' (.row no) (.slice none 0 0):=⟨a4.symm,rfl⟩
   refine⟨g',.row no,_,h,a5,a1,a2,a3,hV,hqo,rfl,rfl,?_,fun _=>rfl,fun _=>rfl,fun _=>⟨hqo,hV⟩⟩
   intro x hne
   rw [newRow,setH_eq,if_neg hne]
  ·cases h
 ·refine⟨g,vv,st,h,S.more hpq,Agree.refl p g,rfl,rfl,hv,hu.mono hpq,rfl,rfl,fun _ _=>rfl,id,id,?_⟩
  intro hc
  match vv,hc,hv,hu with
  | .d (.agg _),hc,_,_=>simp [cell1] at hc
  | .agg _,hc,_,_=>simp [cell1] at hc
  | .tup _,hc,_,_=>simp [cell1] at hc
  | .d _,_,hv,_=>exact⟨trivial,hv⟩
  | .ptr ..,_,hv,hu=>exact⟨hpq _ hu,hv⟩
  | .el ..,_,hv,hu=>exact⟨trivial,hv⟩
  | .rp ..,_,hv,hu=>exact⟨hpq _ hu,hv⟩
  | .row _,_,hv,hu=>exact⟨hpq _ hu,hv⟩
  | .mp _,_,hv,hu=>exact⟨hpq _ hu,hv⟩
  | .ir ..,_,hv,hu=>exact⟨hpq _ hu,hv⟩
  | .irp ..,_,hv,hu=>exact⟨hpq _ hu,hv⟩
  | .bp ..,hc,_,_=>simp [cell1] at hc
  | .sub ..,_,hv,hu=>exact⟨hpq _ hu,hv⟩
  | .fn _ [],_,hv,hu=>exact⟨V.usesA.mono hpq (x:= .fn _ []) hu,hv⟩
  | .fn _ (_::_),_,hv,hu=>exact⟨V.usesA.mono hpq (x:= .fn _ (_::_)) hu,hv⟩
theorem Goal.res {vv:V}{st':St}{v:Value}{g':G}(hk:K vv st'=some r)(hr:(execOp a.eval o).run P w = .ok (.value v) w')(hs:SimH u q g' st'.h w')(ha:Agree p g g')(he:Ext g w g' w')(hv:VV g' vv v)(hu:vv.uses q)(ht:st'.t=st.t)(hn:st'.m=st.m) :
  Goal u p q g st a w P o K r:=⟨vv,st',hk,.inl ⟨v,w',hr,g',hs,ha,he,hv,hu,ht,hn,fun o ho _=>ha.ihdr o ho⟩⟩
theorem Goal.skip {st':St}{g':G}(hk:K .top st'=some r)(hr:(execOp a.eval o).run P w = .ok .skip w')(hs:SimH u q g' st'.h w')(ha:Agree p g g')(he:Ext g w g' w')(ht:st'.t=st.t)(hn:st'.m=st.m) :
  Goal u p q g st a w P o K r:=⟨.top,st',hk,.inr (.inl ⟨w',hr,g',hs,ha,he,(trivial:VD g'.h .top _),trivial,ht,hn,fun o ho _=>ha.ihdr o ho⟩)⟩
theorem Goal.skipW {st':St}{g':G}(hk:K .top st'=some r)(hr:(execOp a.eval o).run P w = .ok .skip w')(hs:SimH u q g' st'.h w')(ha:AgreeW p g g')(he:Ext g w g' w')(ht:st'.t=st.t)(hn:st'.m=st.m)(hi:∀ o,p o→st.h o=none→g'.ihdr o=g.ihdr o) :
  Goal u p q g st a w P o K r:=⟨.top,st',hk,.inr (.inl ⟨w',hr,g',hs,ha,he,(trivial:VD g'.h .top _),trivial,ht,hn,hi⟩)⟩
theorem op_assign (S:At u p g st a w)(hpq:∀ x,p x→q x){nid:Nat}{b:Bool}(hfr:Fresh p q nid){x:Operand}(ho:o.op = .assign x)
  (h:(force (evalV st x) fun v=>match v with
  | .d (.nils _ _)=>bif isSliceT P o.type then (bif b then K (typedNil P o.type v) st else ownK P o.type nid v st K) else K v st
  |v=>K v st)=some r):Goal u p q g st a w P o K r:=by
 rw [force_some] at h
 have plain:K (evalV st x) st=some r→Goal u p q g st a w P o K r:=fun h=>⟨_,_,h,op_move S hpq (.inr ho)⟩
 split at h
 ·rename_i e sz he
  cases hs:isSliceT P o.type with
  |false=>rw [hs] at h;exact plain h
  |true=>
   rw [hs] at h
   simp only [cond_true] at h
   cases b with
   |true=>
    have hx:VV g (evalV st x) (a.eval x):=S.ev x
    rw [he] at hx
    refine Goal.val S hpq h (v:=a.eval x) (by simp [execOp,ho]) ?_ ?_
    ·unfold typedNil
     rw [he]
     simp only []
     split<;>exact hx
    ·unfold typedNil
     rw [he]
     simp only []
     split<;>trivial
   |false=>
   simp only [cond_false] at h
   obtain⟨g',vv',st',k1,k2,k3,k4,_,k5,k6,k7,k8,_⟩:=ownK_ok S.hp hpq hfr.zero.1 hfr.zero.2 (S.ev x) (S.ev_uses x) h
   exact Goal.res k1 (v:=a.eval x) (w':=w) (by simp [execOp,ho]) k2 k3 ⟨k3.h,rfl,rfl,rfl,Nat.le_refl _⟩ k5 k6 k7 k8
 ·exact plain h
theorem zeroCell_VD {hh:Nat→Option Obj}{t:TypeId}{x:D}{v:Value}(h:VD hh x v):VD hh (zeroCell P t x) v:=by
 unfold zeroCell
 split
 ·split
  ·exact h
  ·exact h
 ·exact h
theorem zeroCells_VD {hh:Nat→Option Obj}:∀ {ts:List TypeId} {xs:List D} {us:List Value},VDs hh xs us→VDs hh (zeroCells P ts xs) us
 |[],xs,us,h=>by cases xs<;>exact h
 |t::ts,[],us,h=>h
 |t::ts,x::xs,us,h=>by
  obtain⟨v,r,rfl,h1,h2⟩:=h
  exact⟨v,r,rfl,zeroCell_VD h1,zeroCells_VD h2⟩
theorem zeroD_spec {t:TypeId}{z:D}(h:zeroD P t=some z):∃ i zv,P.info? t=some i∧i.zero=some zv∧∀ hh,VD hh z zv:=by
 unfold zeroD at h
 split at h
 ·rename_i i hi
  split at h
  ·rename_i zv hz
   refine⟨i,zv,hi,hz,fun hh=>?_⟩
   have hc:=constD_sound hh zv
   split at h
   ·rename_i cs hcs
    rw [hcs] at hc
    simp only [Option.some.injEq] at h
    subst h
    obtain⟨us,rfl,h1⟩:=hc
    exact⟨us,rfl,zeroCells_VD h1⟩
   ·simp only [Option.some.injEq] at h
    subst h
    exact zeroCell_VD hc
  ·cases h
 ·cases h
theorem mkVar (S:At u p g st a w)(hpq:∀ x,p x→q x){nid:Nat}(hfr:Fresh p q nid){t:TypeId}{vv:V}{v:Value}(hok:okCells vv=true)(hv:VV g vv v)(hu:vv.uses p)
  (hrun:(execOp a.eval o).run P w = .ok (.value (.pointer (some ⟨w.heap.size,0,none⟩))) (w.alloc (.cells v.cells t)))
  (h:K (.ptr nid 0) (newVar st nid vv.cells)=some r):Goal u p q g st a w P o K r:=by
 obtain⟨c1,c2,c3⟩:=cells_of hok hv hu
 obtain⟨g',a1,a2,a3,a4,a5⟩:=newVar_sim (h':=(newVar st nid vv.cells).h) (e:=t) S.hp hpq hfr.zero.1 hfr.zero.2 c1 c2 c3 (fun t o' f hm=>absurd hm (okCells_bp hok)) (fun x=>by rw [newVar,setH_eq])
 exact Goal.res h hrun a5 a1 (ext_alloc a1) (by show _=_;rw [show g'.blk nid=w.heap.size from a4]) hfr.zero.2 rfl rfl
theorem mkVarOwn (S:At u p g st a w)(hpq:∀ x,p x→q x){nid:Nat}(hfr:Fresh p q nid){t t':TypeId}{vv:V}{v:Value}(hok:okCells vv=true)(hv:VV g vv v)(hu:vv.uses p)
  (hrun:(execOp a.eval o).run P w = .ok (.value (.pointer (some ⟨w.heap.size,0,none⟩))) (w.alloc (.cells v.cells t')))
  (h:(ownK P t (nid+1) vv st fun v st=>K (.ptr nid 0) (newVar st nid v.cells))=some r):Goal u p q g st a w P o K r:=by
 obtain⟨g1,vv1,st1,k1,k2,k3,k4,k5,k6,k7,k8,k9,k10,k11,_⟩:=ownK_ok (q:=fun x=>p x∨x=nid+1) S.hp (fun x hx=> .inl hx) (hfr 1 (by omega)).1 (.inr rfl) hv hu h
 have hpq1:∀ x,(p x∨x=nid+1)→q x:=by
  intro x hx
  rcases hx with hx|rfl
  ·exact hpq x hx
  ·exact (hfr 1 (by omega)).2
 obtain⟨c1,c2,c3⟩:=cells_of (k11 hok) k6 k7
 obtain⟨g',a1,a2,a3,a4,a5⟩:=newVar_sim (h':=(newVar st1 nid vv1.cells).h) (e:=t') (no:=nid) k2 hpq1 (by intro e;rcases e with e|e;exact hfr.zero.1 e;omega) hfr.zero.2 c1 c2 c3 (fun t o' f hm=>absurd hm (okCells_bp (k11 hok))) (fun x=>by rw [newVar,setH_eq])
 have ha:Agree p g g':=⟨fun b x e=>a1.h b x (k3.h b x e),fun x hx=>(a1.blk x (.inl hx)).trans (k3.blk x hx),fun x hx=>(a1.hdr x (.inl hx)).trans (k3.hdr x hx),fun x hx=>(a1.ihdr x (.inl hx)).trans (k3.ihdr x hx)⟩
 exact Goal.res k1 hrun a5 ha (ext_alloc ha) (by show _=_;rw [a4]) hfr.zero.2 k8 k9
theorem beq_false' {a b:Nat}(h:a≠b):Nat.beq a b=false:=by rw [← Bool.not_eq_true];intro hc;exact h (Nat.eq_of_beq_eq_true hc)
theorem putObs_not:∀ {new:List (Nat×Ob)} {h:Nat→Option Ob} {x:Nat},(∀ e∈new,e.1≠x)→putObs h new x=h x
 |[],_,_,_=>rfl
 |(o,ob)::r,h,x,hx=>by
  simp only [putObs]
  rw [beq_false' (fun e=>hx (o,ob) (by simp) e.symm),cond_false]
  exact putObs_not fun e he=>hx e (by simp [he])
theorem putObs_comm {o:Nat}{ob:Ob}:∀ {new:List (Nat×Ob)} {h:Nat→Option Ob} (x:Nat),(∀ e∈new,e.1≠o)→putObs (fun x=>bif Nat.beq x o then some ob else h x) new x=(bif Nat.beq x o then some ob else putObs h new x)
 |[],_,_,_=>rfl
 |(o',ob')::r,h,x,hx=>by
  simp only [putObs]
  have ih:=putObs_comm (ob:=ob) (new:=r) (h:=h) x (fun e he=>hx e (by simp [he]))
  rw [ih]
  by_cases e:x=o'
  ·subst e
   rw [Nat.beq_refl,beq_false' (hx (x,ob') (by simp))]
   rfl
  ·rw [beq_false' e];rfl
theorem widenCells_yes {sel:Nat→Bool}{e sz:Nat}(he:sel (e+1)=true)(cs:List V)(m:Nat):widenCells sel (.d (.nils (e+1) (sz+1))::cs) m=(.row m::(widenCells sel cs (m+1)).1,(m,.row (e+1) (sz+1) [] false)::(widenCells sel cs (m+1)).2.1,(widenCells sel cs (m+1)).2.2):=by
 simp only [widenCells,he,cond_true]
theorem widenCells_no {sel:Nat→Bool}{c:V}(hc:¬ ∃ e sz,c = .d (.nils (e+1) (sz+1))∧sel (e+1)=true)(cs:List V)(m:Nat):widenCells sel (c::cs) m=(c::(widenCells sel cs m).1,(widenCells sel cs m).2.1,(widenCells sel cs m).2.2):=by
 match c,hc with
 | .d (.nils (e+1) (sz+1)),hc=>
  have:sel (e+1)=false:=by
   cases hs:sel (e+1) with
   |true=>exact absurd ⟨e,sz,rfl,hs⟩ hc
   |false=>rfl
  simp only [widenCells,this,cond_false]
 | .d (.nils 0 _),_=>rfl
 | .d (.nils (_+1) 0),_=>rfl
 | .d .top,_ | .d (.bool _),_ | .d (.int _ _),_ | .d (.str _),_ | .d (.lst _ _),_ | .d .und,_ | .d (.agg _),_ | .d (.fn _),_ | .d .nilp,_ | .d .nilf,_ | .d .nilm,_ | .d .nili,_ | .d .ub,_ | .d (.iface _ _),_ | .d (.meth ..),_=>rfl
 | .ptr ..,_ | .el ..,_ | .rp ..,_ | .row _,_ | .sub ..,_ | .agg _,_ | .fn ..,_ | .tup _,_ | .mp _,_ | .bp ..,_ | .ir ..,_ | .irp ..,_=>rfl
theorem widenCells_le {sel:Nat→Bool}:∀ (cs:List V) (m:Nat),m≤(widenCells sel cs m).2.2
 |[],m=>Nat.le_refl m
 |c::r,m=>by
  by_cases hc:∃ e sz,c = .d (.nils (e+1) (sz+1))∧sel (e+1)=true
  ·obtain⟨e,sz,rfl,hs⟩:=hc
   have:=widenCells_le (sel:=sel) r (m+1)
   rw [widenCells_yes hs]
   show m≤(widenCells sel r (m+1)).2.2
   omega
  ·rw [widenCells_no hc]
   exact widenCells_le r m
theorem widenCells_in {sel:Nat→Bool}:∀ {cs:List V} {m:Nat} {e:Nat×Ob},e∈(widenCells sel cs m).2.1→m≤e.1∧e.1<(widenCells sel cs m).2.2
 |[],m,e,h=>by cases h
 |c::r,m,x,h=>by
  by_cases hc:∃ e sz,c = .d (.nils (e+1) (sz+1))∧sel (e+1)=true
  ·obtain⟨e,sz,rfl,hs⟩:=hc
   have hle:=widenCells_le (sel:=sel) r (m+1)
   rw [widenCells_yes hs] at h ⊢
   show m≤x.1∧x.1<(widenCells sel r (m+1)).2.2
   have h:x∈(m,Ob.row (e+1) (sz+1) [] false)::(widenCells sel r (m+1)).2.1:=h
   rcases List.mem_cons.1 h with rfl|h
   ·exact⟨Nat.le_refl m,by show m<_;omega⟩
   ·have:=widenCells_in h
    omega
  ·rw [widenCells_no hc] at h ⊢
   exact widenCells_in h
theorem widenCells_bp {sel:Nat→Bool}{ty o f:Nat}:∀ {cs:List V} {n:Nat},V.bp ty o f∈(widenCells sel cs n).1→V.bp ty o f∈cs
 |[],n,h=>by cases h
 |c::r,n,h=>by
  by_cases hc:∃ e sz,c = .d (.nils (e+1) (sz+1))∧sel (e+1)=true
  ·obtain⟨e,sz,rfl,hs⟩:=hc
   rw [widenCells_yes hs] at h
   rcases List.mem_cons.1 h with h|h
   ·cases h
   ·exact List.mem_cons_of_mem _ (widenCells_bp h)
  ·rw [widenCells_no hc] at h
   rcases List.mem_cons.1 h with h|h
   ·rw [h];exact List.mem_cons_self ..
   ·exact List.mem_cons_of_mem _ (widenCells_bp h)
theorem widenCells_gen {sel:Nat→Bool}{u:Nat→Option Obj}{p:Nat→Prop}{w:World}{base:Nat}:∀ {cs:List V} {m:Nat} {g:G} {h:Nat→Option Ob} {vals:List Value},base≤m→(∀ x,base≤x→x<(widenCells sel cs m).2.2→¬ p x)→SimH u (fun x=>p x∨(base≤x∧x<m)) g h w→F2 (VA g) cs vals→(∀ c∈cs,c.usesA (fun x=>p x∨(base≤x∧x<m)))→
  ∃ g',Agree (fun x=>p x∨(base≤x∧x<m)) g g'∧g'.h=g.h∧g'.blk=g.blk∧F2 (VA g') (widenCells sel cs m).1 vals∧(∀ c∈(widenCells sel cs m).1,c.usesA (fun x=>p x∨(base≤x∧x<(widenCells sel cs m).2.2)))∧m≤(widenCells sel cs m).2.2∧
   (∀ e∈(widenCells sel cs m).2.1,m≤e.1∧e.1<(widenCells sel cs m).2.2)∧SimH u (fun x=>p x∨(base≤x∧x<(widenCells sel cs m).2.2)) g' (putObs h (widenCells sel cs m).2.1) w:=by
 intro cs
 induction cs with
 |nil=>
  intro m g h vals hbm hfree S hF hu
  cases hF
  have e0:widenCells sel [] m=([],[],m):=rfl
  rw [e0]
  exact⟨g,Agree.refl _ g,rfl,rfl,.nil,(fun c hc=>nomatch hc),Nat.le_refl _,(fun e he=>nomatch he),S⟩
 |cons c cs ih=>
  intro m g h vals hbm hfree S hF hu
  cases hF with
  |@cons _ v _ vals h1 h2=>
   have plain:widenCells sel (c::cs) m=(c::(widenCells sel cs m).1,(widenCells sel cs m).2.1,(widenCells sel cs m).2.2)→∃ g',Agree (fun x=>p x∨(base≤x∧x<m)) g g'∧g'.h=g.h∧g'.blk=g.blk∧F2 (VA g') (widenCells sel (c::cs) m).1 (v::vals)∧
     (∀ x∈(widenCells sel (c::cs) m).1,x.usesA (fun x=>p x∨(base≤x∧x<(widenCells sel (c::cs) m).2.2)))∧m≤(widenCells sel (c::cs) m).2.2∧(∀ e∈(widenCells sel (c::cs) m).2.1,m≤e.1∧e.1<(widenCells sel (c::cs) m).2.2)∧SimH u (fun x=>p x∨(base≤x∧x<(widenCells sel (c::cs) m).2.2)) g' (putObs h (widenCells sel (c::cs) m).2.1) w:=by
    intro e
    rw [e] at hfree ⊢
    obtain⟨g',a1,a2,a3,a4,a5,a6,a7,a8⟩:=ih hbm hfree S h2 (fun x hx=>hu x (by simp [hx]))
    refine⟨g',a1,a2,a3,.cons (VA.agree a1 (hu c (by simp)) h1) a4,fun x hx=>?_,a6,a7,a8⟩
    rcases List.mem_cons.1 hx with rfl|hx
    ·exact (hu _ (by simp)).mono fun o ho=>ho.imp id fun k=>⟨k.1,Nat.lt_of_lt_of_le k.2 a6⟩
    ·exact a5 x hx
   by_cases hn:∃ e sz,c = .d (.nils (e+1) (sz+1))∧sel (e+1)=true
   ·obtain⟨e,sz,rfl,hs⟩:=hn
    have e1:=widenCells_yes (sz:=sz) hs cs m
    rw [e1] at hfree ⊢
    have h1:v = .slice none 0 0:=h1
    subst h1
    have hm1:∀ x,(p x∨(base≤x∧x<m))→(p x∨(base≤x∧x<m+1)):=fun x hx=>hx.imp id fun k=>⟨k.1,by omega⟩
    have hmono:m+1≤(widenCells sel cs (m+1)).2.2:=widenCells_le cs (m+1)
    have hmin:¬ (p m∨(base≤m∧m<m)):=fun k=>k.elim (hfree m hbm (by show m<(widenCells sel cs (m+1)).2.2;omega)) fun k=>Nat.lt_irrefl _ k.2
    obtain⟨g1,b1,b2,b3,b4,b5⟩:=newRow_sim (h':=fun x=>bif Nat.beq x m then some (.row (e+1) (sz+1) [] false) else h x) S hm1 hmin (.inr ⟨hbm,Nat.lt_succ_self m⟩) (e:=e+1) (sz:=sz+1) (xs:=[]) (v:= .slice none 0 0) (us:=[]) (row:=none) (grown_refl w none) (World.ownsRow_nil w 0 (e+1) (sz+1)) (Nat.succ_pos sz) rfl
     (fun b hb=>by cases hb) (fun b hb=>by cases hb) (fun o' x hx hne=>by rw [beq_false' hne] at hx;exact⟨hx,fun _ _ e=>by cases e⟩) (by simp [Nat.beq_refl])
    obtain⟨g2,a1,a2,a3,a4,a5,a6,a7,a8⟩:=ih (m:=m+1) (by omega) hfree b5 (F2.mono h2 fun y hy z hz=>VA.agree b1 (hu y (by simp [hy])) hz) (fun y hy=>(hu y (by simp [hy])).mono hm1)
    have ha:Agree (fun x=>p x∨(base≤x∧x<m)) g g2:=⟨fun b x k=>a1.h b x (b1.h b x k),fun o ho=>(a1.blk o (hm1 o ho)).trans (b1.blk o ho),fun o ho=>(a1.hdr o (hm1 o ho)).trans (b1.hdr o ho),fun o ho=>(a1.ihdr o (hm1 o ho)).trans (b1.ihdr o ho)⟩
    have hm2:m<(widenCells sel cs (m+1)).2.2:=by omega
    refine⟨g2,ha,a2.trans b2,a3.trans b3,.cons ⟨by rw [a1.hdr m (.inr ⟨hbm,Nat.lt_succ_self m⟩),b4],rfl⟩ a4,fun x hx=>?_,Nat.le_trans (Nat.le_succ m) a6,fun x hx=>?_,?_⟩
    ·rcases List.mem_cons.1 hx with rfl|hx
     ·exact .inr ⟨hbm,hm2⟩
     ·exact a5 x hx
    ·rcases List.mem_cons.1 hx with rfl|hx
     ·exact⟨Nat.le_refl _,hm2⟩
     ·have:=a7 x hx
      exact⟨by omega,this.2⟩
    ·have e2:putObs h ((m,.row (e+1) (sz+1) [] false)::(widenCells sel cs (m+1)).2.1)=putObs (fun x=>bif Nat.beq x m then some (.row (e+1) (sz+1) [] false) else h x) (widenCells sel cs (m+1)).2.1:=by
      funext x
      rw [putObs_comm x fun y hy=>by have:=(a7 y hy).1;omega]
      rfl
     rw [e2]
     exact a8
   ·exact plain (widenCells_no hn cs m)
theorem mkVarB {c:Cfg}(S:At u p g st a w)(hpq:∀ x,p x→q x){nid:Nat}(hfr:Fresh p q nid){t:TypeId}{vv:V}{v:Value}(hok:okCells vv=true)(hv:VV g vv v)(hu:vv.uses p)
  (hrun:(execOp a.eval o).run P w = .ok (.value (.pointer (some ⟨w.heap.size,0,none⟩))) (w.alloc (.cells v.cells t)))
  (h:boxK c t nid vv.cells st K=some r):Goal u p q g st a w P o K r:=by
 unfold boxK at h
 cases hw:c.wty t 0 with
 |true=>
  rw [hw] at h
  simp only [cond_true] at h
  obtain⟨hm,h⟩:=bif_some h
  have hm:(widenCells (c.wty t) vv.cells (nid+1)).2.2≤nid+32:=Nat.le_of_ble_eq_true hm
  obtain⟨c1,c2,c3⟩:=cells_of hok hv hu
  have hfree:∀ x,nid+1≤x→x<(widenCells (c.wty t) vv.cells (nid+1)).2.2→¬ p x∧q x:=fun x h1 h2=>by
   have:=hfr (x-nid) (by omega)
   rwa [show nid+(x-nid)=x from by omega] at this
  have S0:SimH u (fun x=>p x∨(nid+1≤x∧x<nid+1)) g st.h w:=⟨S.hp.frz,S.hp.unt,S.hp.ob,S.hp.sep,S.hp.inj,fun o x ho=>⟨.inl (S.hp.use o x ho).1,(S.hp.use o x ho).2.mono fun x hx=> .inl hx⟩,S.hp.dj⟩
  obtain⟨g1,a1,a2,a3,a4,a5,a6,a7,a8⟩:=widenCells_gen (Nat.le_refl (nid+1)) (fun x h1 h2=>(hfree x h1 h2).1) S0 c1 (fun y hy=>(c3 y hy).mono fun x hx=> .inl hx)
  obtain⟨g',d1,d2,d3,d4,d5⟩:=newVar_sim (q:=q) (h':=(newVar { st with h:=putObs st.h (widenCells (c.wty t) vv.cells (nid+1)).2.1 } nid (widenCells (c.wty t) vv.cells (nid+1)).1).h) (e:=t) (no:=nid) a8
   (fun x hx=>hx.elim (hpq x) fun k=>(hfree x k.1 k.2).2) (fun e=>e.elim hfr.zero.1 fun k=>by omega) hfr.zero.2 a4 c2 a5 (fun t o' f hm=>absurd (widenCells_bp hm) (okCells_bp hok)) (fun x=>by rw [newVar,setH_eq])
  have ha:Agree p g g':=⟨fun b x e=>d1.h b x (a1.h b x e),fun x hx=>(d1.blk x (.inl hx)).trans (a1.blk x (.inl hx)),fun x hx=>(d1.hdr x (.inl hx)).trans (a1.hdr x (.inl hx)),fun x hx=>(d1.ihdr x (.inl hx)).trans (a1.ihdr x (.inl hx))⟩
  exact Goal.res h hrun d5 ha (ext_alloc ha) (by show _=_;rw [d4]) hfr.zero.2 rfl rfl
 |false=>
 rw [hw] at h
 simp only [cond_false] at h
 split at h
 ·rename_i cs' h' hb
  unfold bldCells at hb
  split at hb
  ·simp only [Option.some.injEq,Prod.mk.injEq] at hb
   obtain⟨rfl,rfl⟩:=hb
   exact mkVar S hpq hfr hok hv hu hrun h
  ·rename_i off hoff
   split at hb
   ·rename_i e sz e1 e2
    obtain⟨hsz,hb⟩:=bif_some hb
    have hsz:0<sz:=by have h1:Nat.ble 1 sz=true:=hsz;exact Nat.le_of_ble_eq_true h1
    simp only [Option.some.injEq,Prod.mk.injEq] at hb
    obtain⟨rfl,rfl⟩:=hb
    obtain⟨c1,c2,c3⟩:=cells_of hok hv hu
    obtain⟨b0,hb0,hr0⟩:=c1.get off _ e1
    obtain⟨b1,hb1,hr1⟩:=c1.get (off+1) _ e2
    have hr0:b0 = .pointer none:=hr0
    have hr1:b1 = .slice none 0 0:=hr1
    subst hr0
    subst hr1
    have hpq1:∀ x,(p x∨x=nid+1)→q x:=by
     intro x hx
     rcases hx with hx|rfl
     ·exact hpq x hx
     ·exact (hfr 1 (by omega)).2
    obtain⟨g1,a1,a2,a3,a4,a5⟩:=newRow_sim (q:=fun x=>p x∨x=nid+1) (h':=fun x=>bif Nat.beq x (nid+1) then some (.row e sz [] false) else st.h x) S.hp (fun x hx=> .inl hx) (no:=nid+1) (hfr 1 (by omega)).1 (.inr rfl) (e:=e) (sz:=sz) (xs:=[]) (v:= .slice none 0 0) (us:=[]) (row:=none) (grown_refl w none) (World.ownsRow_nil w 0 e sz) hsz rfl
     (fun b hb=>by cases hb) (fun b hb=>by cases hb) (fun o' x hx hne=>by
      have hn:Nat.beq o' (nid+1)=false:=by rw [← Bool.not_eq_true];intro hc;exact hne (Nat.eq_of_beq_eq_true hc)
      simp only [hn,cond_false] at hx
      exact⟨hx,fun _ _ e=>by cases e⟩) (by simp [Nat.beq_refl])
    have F0:F2 (fun c v=>(c.usesA (fun x=>p x∨x=nid+1)∧VA g1 c v)∨(∃ t f,c = .bp t nid f∧v = .pointer none)) vv.cells v.cells.toList:=
     c1.mono fun c hc b hb=> .inl ⟨(c3 c hc).mono fun x hx=> .inl hx,VA.agree a1 (c3 c hc) hb⟩
    have F1:=F0.setL (a:= .bp t nid off) hb0 (.inr ⟨t,off,rfl,rfl⟩)
    have F2':=F1.setL (a:= .row (nid+1)) hb1 (.inl ⟨.inr rfl,(⟨a4.symm,rfl⟩:VL g1 (.row (nid+1)) _)⟩)
    obtain⟨g',d1,d2,d3,d4,d5⟩:=newVar_simB (h':=(newVar { st with h:=fun x=>bif Nat.beq x (nid+1) then some (.row e sz [] false) else st.h x } nid ((vv.cells.set off (.bp t nid off)).set (off+1) (.row (nid+1)))).h) (e:=t) (no:=nid) a5 hpq1 (by intro e;rcases e with e|e;exact hfr.zero.1 e;omega) hfr.zero.2 F2' c2
     (fun t' o' f hm=>by
      rcases List.mem_or_eq_of_mem_set hm with hm|hm
      ·rcases List.mem_or_eq_of_mem_set hm with hm|hm
       ·exact absurd hm (okCells_bp hok)
       ·cases hm;rfl
      ·cases hm) (fun x=>by rw [newVar,setH_eq])
    have ha:Agree p g g':=⟨fun b x e=>d1.h b x (a1.h b x e),fun x hx=>(d1.blk x (.inl hx)).trans (a1.blk x hx),fun x hx=>(d1.hdr x (.inl hx)).trans (a1.hdr x hx),fun x hx=>(d1.ihdr x (.inl hx)).trans (a1.ihdr x hx)⟩
    exact Goal.res h hrun d5 ha (ext_alloc ha) (by show _=_;rw [d4]) hfr.zero.2 rfl rfl
   ·cases hb
 ·cases h
theorem op_alloc {c:Cfg}(S:At u p g st a w)(hpq:∀ x,p x→q x){nid:Nat}(hfr:Fresh p q nid){t:TypeId}(ho:o.op = .alloc t)
  (h:(match zeroD P t with
  |some z=>bif okCells (.d z) then (bif isSliceT P t then ownK P t (nid+1) (.d z) st fun v st=>K (.ptr nid 0) (newVar st nid v.cells) else boxK c t nid (V.d z).cells st K) else none
  |none=>none)=some r):Goal u p q g st a w P o K r:=by
 split at h
 ·rename_i z hz
  obtain⟨i,zv,hi,hzv,hV⟩:=zeroD_spec hz
  obtain⟨hok,h⟩:=bif_some h
  have hrun:(execOp a.eval o).run P w = .ok (.value (.pointer (some ⟨w.heap.size,0,none⟩))) (w.alloc (.cells zv.cells t)):=by
   simp [execOp,ho,Instr.alloc,zeroValue,typeInfo,hi,hzv,Go.newVar,Go.newRow]
  cases hs:isSliceT P t with
  |true=>rw [hs] at h;exact mkVarOwn S hpq hfr hok (hV _) trivial hrun h
  |false=>rw [hs] at h;exact mkVarB (vv:= .d z) S hpq hfr hok (hV _) trivial hrun h
 ·cases h
theorem op_box {c:Cfg}(S:At u p g st a w)(hpq:∀ x,p x→q x){nid:Nat}(hfr:Fresh p q nid){t:TypeId}{x:Operand}(ho:o.op = .box t x)
  (h:(bif !(okCells (evalV st x)) then none else bif isSliceT P t then ownK P t (nid+1) (evalV st x) st fun v st=>K (.ptr nid 0) (newVar st nid v.cells)
   else bif Nat.beq (evalV st x).cells.length (szT P t) then boxK c t nid (evalV st x).cells st K else none)=some r):Goal u p q g st a w P o K r:=by
 obtain⟨hok,h⟩:=bif_none_some h
 rw [Bool.not_eq_false'] at hok
 have hrun:(execOp a.eval o).run P w = .ok (.value (.pointer (some ⟨w.heap.size,0,none⟩))) (w.alloc (.cells (a.eval x).cells t)):=by
  simp [execOp,ho,Instr.box,Go.newVar,Go.newRow]
 cases hs:isSliceT P t with
 |true=>rw [hs] at h;exact mkVarOwn S hpq hfr hok (S.ev x) (S.ev_uses x) hrun h
 |false=>
  rw [hs] at h
  simp only [cond_false] at h
  obtain⟨_,h⟩:=bif_some h
  exact mkVarB S hpq hfr hok (S.ev x) (S.ev_uses x) hrun h
theorem foldl_setAt:∀ (vs:List Value) (k off:Nat) (cs:Array Value),((vs.zipIdx k).foldl (fun cs (x:Value×Nat)=>cs.setIfInBounds (off+x.2) x.1) cs).toList=setAt cs.toList (off+k) vs
 |[],k,off,cs=>by simp [setAt]
 |v::vs,k,off,cs=>by
  simp only [List.zipIdx_cons,List.foldl_cons]
  rw [foldl_setAt vs (k+1) off]
  simp only [setAt,Array.toList_setIfInBounds,Nat.add_assoc]
theorem fold_setAt (vs:Array Value)(off:Nat)(cs:Array Value):(vs.zipIdx.foldl (fun cs (x:Value×Nat)=>cs.setIfInBounds (off+x.2) x.1) cs).toList=setAt cs.toList off vs.toList:=by
 rw [← Array.foldl_toList]
 have:=foldl_setAt vs.toList 0 off cs
 simpa using this
theorem setAt_length {α:Type}:∀ (ys xs:List α) (off:Nat),(setAt xs off ys).length=xs.length
 |[],xs,off=>rfl
 |y::ys,xs,off=>by simp only [setAt];rw [setAt_length ys];simp
theorem F2.setAt {α β:Type}{R:α→β→Prop}{xs:List α}{ys:List β}(h2:F2 R xs ys):∀ {zs:List α} {bs:List β} (off:Nat),F2 R zs bs→F2 R (AE.setAt zs off xs) (AE.setAt bs off ys):=by
 induction h2 with
 |nil=>intro zs bs off h;exact h
 |cons hr _ ih=>
  intro zs bs off h
  exact ih (off+1) (h.set hr off)
theorem mem_setAt {α:Type}:∀ (ys xs:List α) (off:Nat) (x:α),x∈setAt xs off ys→x∈xs∨x∈ys
 |[],xs,off,x,h=> .inl h
 |y::ys,xs,off,x,h=>by
  rcases mem_setAt ys _ _ _ h with h|h
  ·rcases List.mem_or_eq_of_mem_set h with h|rfl
   ·exact .inl h
   ·exact .inr (by simp)
  ·exact .inr (by simp [h])
theorem places_ok:∀ (fs:List Field),(fs.all fun f=>(P.info? f.type).isSome)=true→∃ places,fs.mapM (fun f=>(P.info? f.type).map fun i=>(f.offset,i.size))=some places∧
  ∀ (k:Nat) (f:Field),fs[k]? = some f→places[k]? = some (f.offset,szT P f.type)
 |[],_=>⟨[],rfl,fun k f h=>by simp at h⟩
 |f::fs,h=>by
  simp only [List.all_cons,Bool.and_eq_true] at h
  obtain⟨places,h1,h2⟩:=places_ok fs h.2
  cases hi:P.info? f.type with
  |none=>rw [hi] at h;simp at h
  |some i=>
   refine⟨(f.offset,i.size)::places,by simp [List.mapM_cons,hi,h1],fun k f' hk=>?_⟩
   cases k with
   |zero=>simp at hk;subst hk;simp [szT,hi]
   |succ k=>simpa using h2 k f' (by simpa using hk)
theorem fill_ok (S:At u p g st a w){t:TypeId}{fs:Array Field}(ht:P.underlying t=some (.struct fs)){places:List (Nat×Nat)}(hp:∀ (k:Nat) (f:Field),fs.toList[k]? = some f→places[k]? = some (f.offset,szT P f.type)) :
  ∀ (ps:List (Nat×Operand)) (cs cs':List V) (us:Array Value),F2 (VA g) cs us.toList→(∀ c∈cs,c.usesA p)→buildCells P t (evalV st) cs ps=some cs'→
   ∃ us',Instr.fill (fun k=>places.toArray[k]?) us (ps.map fun x=>(x.1,a.eval x.2))=some us'∧F2 (VA g) cs' us'.toList∧∀ c∈cs',c.usesA p
 |[],cs,cs',us,hF,hu,h=>by
  simp only [buildCells,Option.some.injEq] at h
  subst h
  exact⟨us,rfl,hF,hu⟩
 |(k,x)::ps,cs,cs',us,hF,hu,h=>by
  simp only [buildCells] at h
  split at h
  ·rename_i off ft hft
   replace h:=bif_some h
   obtain⟨hc,h⟩:=h
   simp only [Bool.and_eq_true] at hc
   obtain⟨⟨hok,hsz⟩,hle⟩:=hc
   have hsz:(evalV st x).cells.length=szT P ft:=Nat.eq_of_beq_eq_true hsz
   have hle:off+szT P ft≤cs.length:=Nat.le_of_ble_eq_true hle
   obtain⟨fs',f,hu',hfk,rfl,rfl⟩:=fieldT_spec hft
   rw [ht] at hu'
   cases hu'
   obtain⟨c1,c2,c3⟩:=cells_of hok (S.ev x) (S.ev_uses x)
   have hl1:=c1.length
   have hl2:=hF.length
   simp only [Array.length_toList] at hl1 hl2
   have hpl:=hp k f (by rw [Array.getElem?_toList];exact hfk)
   have e1:¬ ((a.eval x).cells.size≠szT P f.type∨f.offset+(a.eval x).cells.size>us.size):=by omega
   have hF':F2 (VA g) (setAt cs f.offset (evalV st x).cells) ((a.eval x).cells.zipIdx.foldl (fun cs (x:Value×Nat)=>cs.setIfInBounds (f.offset+x.2) x.1) us).toList:=by
    rw [fold_setAt];exact c1.setAt _ hF
   obtain⟨us',k1,k2,k3⟩:=fill_ok S ht hp ps _ cs' _ hF' (fun c hc=>by
    rcases mem_setAt _ _ _ _ hc with hc|hc
    ·exact hu c hc
    ·exact c3 c hc) h
   refine⟨us',?_,k2,k3⟩
   simp only [List.map_cons,Instr.fill,List.getElem?_toArray,hpl]
   rw [if_neg (by simpa using e1)]
   simpa using k1
  ·cases h
theorem op_build (S:At u p g st a w)(hpq:∀ x,p x→q x){t:TypeId}{ps:Array (Nat×Operand)}(ho:o.op = .build t ps)
  (h:(match zeroD P t with
  |some z=>bif !(okCells (.d z)&&fieldsOk P t) then none else (match buildCells P t (evalV st) (V.d z).cells ps.toList with
   |some cs=>K (mkAgg cs) st
   |none=>none)
  |none=>none)=some r):Goal u p q g st a w P o K r:=by
 split at h
 ·rename_i z hz
  obtain⟨i,zv,hi,hzv,hV⟩:=zeroD_spec hz
  obtain⟨hok,h⟩:=bif_none_some h
  rw [Bool.not_eq_false',Bool.and_eq_true] at hok
  have hfs:=hok.2
  unfold fieldsOk at hfs
  split at hfs
  ·rename_i fs hfs'
   obtain⟨places,hp1,hp2⟩:=places_ok fs.toList hfs
   split at h
   ·rename_i cs' hcs
    obtain⟨c1,_,c3⟩:=cells_of (p:=p) hok.1 (show VV g (.d z) zv from hV _) trivial
    obtain⟨us',k1,k2,k3⟩:=fill_ok S hfs' hp2 ps.toList _ cs' zv.cells c1 c3 hcs
    refine Goal.val S hpq h (v:= .agg us') ?_ ?_ (uses_of_A (mkAgg_uses k3))
    ·have hb:P.built t (ps.map fun (i,x)=>(i,a.eval x)).toList=some us':=by
      unfold Program.built
      simp only [hi,hfs',hzv,hp1,Array.toList_map]
      exact k1
     simp only [execOp,ho]
     simp [run_build w t _ us' hb]
    ·have:=mkAgg_VA k2
     rw [Array.toArray_toList] at this
     exact VV_of_VA this
   ·cases h
  ·cases hfs
 ·cases h
theorem okD_one {x:D}{v:Value}(h:okD x=true)(hv:VD g.h x v):(∀ y∈v.cells.toList,y.oneCell'=true)∧v.cells.size=x.cells.length:=by
 have hok:okCells (.d x)=true:=by
  unfold okCells okD at *
  cases x<;>first|(simpa [V.cells,D.cells,List.all_map] using h)
 obtain⟨c1,c2,_⟩:=cells_of (p:=fun _=>True) hok (show VV g (.d x) v from hv) trivial
 refine⟨c2,?_⟩
 have:=c1.length
 simp only [Array.length_toList] at this
 rw [← this]
 cases x<;>simp [V.cells,D.cells]
theorem VDf_set {hh:Nat→Option Obj}{sz:Nat}:∀ {xs:List D} {us:List Value} {i:Nat} {x:D} {v:Value},VDf hh sz xs us→i<xs.length→v.cells.size=sz→(∀ y∈v.cells.toList,y.oneCell'=true)→VD hh x v→
  VDf hh sz (xs.set i x) (setAt us (i*sz) v.cells.toList)
 |[],us,i,x,v,_,hi,_,_,_=>by simp at hi
 |y::xs,us,0,x,v,h,_,hs,h1,hx=>by
  obtain⟨v',r,rfl,k1,k3,k4,k5⟩:=h
  refine⟨v,r,?_,hs,h1,hx,k5⟩
  have e:∀ (a b c:List Value) (pre:List Value),a.length=b.length→setAt (pre++(a++c)) pre.length b=pre++(b++c):=by
   intro a
   induction a with
   |nil=>intro b c pre hl;have:b=[]:=List.eq_nil_of_length_eq_zero hl.symm;subst this;rfl
   |cons a0 a ih=>
    intro b c pre hl
    cases b with
    |nil=>simp at hl
    |cons b0 b=>
     simp only [setAt]
     have e1:(pre++(a0::a++c)).set pre.length b0=(pre++[b0])++(a++c):=by simp
     rw [e1]
     have:=ih b c (pre++[b0]) (by simpa using hl)
     simp only [List.length_append,List.length_cons,List.length_nil,Nat.zero_add] at this
     rw [this];simp
  have:=e v'.cells.toList v.cells.toList r [] (by simp [k1,hs])
  simpa using this
 |y::xs,us,i+1,x,v,h,hi,hs,h1,hx=>by
  obtain⟨v',r,rfl,k1,k3,k4,k5⟩:=h
  refine⟨v',setAt r (i*sz) v.cells.toList,?_,k1,k3,k4,VDf_set k5 (by simpa using hi) hs h1 hx⟩
  have e:∀ (b pre c:List Value) (k:Nat),setAt (pre++c) (pre.length+k) b=pre++setAt c k b:=by
   intro b
   induction b with
   |nil=>intro pre c k;rfl
   |cons b0 b ih=>
    intro pre c k
    simp only [setAt]
    rw [List.set_append_right _ _ (by omega),show pre.length+k-pre.length=k from by omega,Nat.add_assoc,ih]
  have:=e v.cells.toList v'.cells.toList r (i*sz)
  rw [show v'.cells.toList.length+i*sz=(i+1)*sz from by rw [Nat.add_mul];simp [k1];omega] at this
  exact this
theorem VDf_replicate {hh:Nat→Option Obj}{sz:Nat}{x:D}{v:Value}(hs:v.cells.size=sz)(h1:∀ y∈v.cells.toList,y.oneCell'=true)(hx:VD hh x v):∀ n:Nat,VDf hh sz (List.replicate n x) (List.replicate n v.cells.toList).flatten
 |0=>rfl
 |n+1=>⟨v,_,by simp [List.replicate_succ],hs,h1,hx,VDf_replicate hs h1 hx n⟩
theorem madeCells_flat (z:Array Value)(hz:0<z.size)(n:Nat):(madeCells z (n*z.size)).toList=(List.replicate n z.toList).flatten:=by
 apply List.ext_getElem?
 intro j
 have hl:∀ n:Nat,(List.replicate n z.toList).flatten.length=n*z.size:=by intro n;simp
 have get:∀ (n j:Nat),j<n*z.size→(List.replicate n z.toList).flatten[j]? = z[j % z.size]?:=by
  intro n
  induction n with
  |zero=>intro j hj;omega
  |succ n ih=>
   intro j hj
   simp only [List.replicate_succ,List.flatten_cons]
   rcases Nat.lt_or_ge j z.size with hlt|hge
   ·rw [List.getElem?_append_left (by simpa using hlt),Nat.mod_eq_of_lt hlt,Array.getElem?_toList]
   ·rw [List.getElem?_append_right (by simpa using hge),Array.length_toList,ih (j-z.size) (by rw [Nat.add_mul] at hj;omega)]
    congr 1
    rw [← Nat.mod_eq_sub_mod hge]
 rcases Nat.lt_or_ge j (n*z.size) with hj|hj
 ·rw [get n j hj]
  have hm:j % z.size<z.size:=Nat.mod_lt _ hz
  simp [madeCells,hj,hm]
 ·rw [List.getElem?_eq_none (by simp [madeCells];exact hj),List.getElem?_eq_none (by rw [hl];exact hj)]
theorem toD_sound' {g':G}{x:V}{v:Value}{d:D}{fz os:List Nat}(hv:VV g x v)(hx:x.uses p)(hd:toD h x=some (d,fz))(hfz:∀ o∈fz,o∈os)
  (ha:Agree p g g') (hs:SimH u p g' (freezeH h os) w) (hir:IrOk h os g g'):VD g'.h d v:=by
 match x,hv,hx,hd with
 | .tup _,_,_,hd=>simp [toD,leafD] at hd
 | .d x,hv,hx,hd=>exact toD_sound (x:= .d x) hv hx hd hfz ha hs hir
 | .ptr ..,hv,hx,hd=>exact toD_sound (x:= .ptr ..) hv hx hd hfz ha hs hir
 | .el ..,hv,hx,hd=>exact toD_sound (x:= .el ..) hv hx hd hfz ha hs hir
 | .rp ..,hv,hx,hd=>exact toD_sound (x:= .rp ..) hv hx hd hfz ha hs hir
 | .row _,hv,hx,hd=>exact toD_sound (x:= .row _) hv hx hd hfz ha hs hir
 | .mp _,hv,hx,hd=>exact toD_sound (x:= .mp _) hv hx hd hfz ha hs hir
 | .ir ..,hv,hx,hd=>exact toD_sound (x:= .ir ..) hv hx hd hfz ha hs hir
 | .irp ..,hv,hx,hd=>exact toD_sound (x:= .irp ..) hv hx hd hfz ha hs hir
 | .bp ..,_,_,hd=>simp [toD,leafD] at hd
 | .sub ..,hv,hx,hd=>exact toD_sound (x:= .sub ..) hv hx hd hfz ha hs hir
 | .agg _,hv,hx,hd=>exact toD_sound (x:= .agg _) hv hx hd hfz ha hs hir
 | .fn _ [],hv,hx,hd=>exact toD_sound (x:= .fn _ []) hv hx hd hfz ha hs hir
 | .fn _ (_::_),hv,hx,hd=>exact toD_sound (x:= .fn _ (_::_)) hv hx hd hfz ha hs hir
theorem normLeaf_VD {h:Nat→Option Obj}{v:Value}:∀ {t:LTy} {x:D},VD h x v→VD h (normLeaf t x) v:=by
 intro t x hx
 cases t with
 |lst sz=>
  cases x with
  |nils a b=>
   have hx:v = .slice none 0 0:=hx
   subst hx
   exact⟨none,0,rfl,Nat.le_refl _,by unfold maxLen;omega,.inl rfl⟩
  |_=>exact hx
 |_=>exact hx
theorem normLeaves_VD {h:Nat→Option Obj}:∀ {ts:List LTy} {xs:List D} {vs:List Value},VDs h xs vs→VDs h (normLeaves ts xs) vs
 |[],xs,_,hx=>by cases xs<;>exact hx
 |_::_,[],_,hx=>hx
 |t::ts,x::xs,_,⟨v,r,e,h1,h2⟩=>⟨v,r,e,normLeaf_VD h1,normLeaves_VD h2⟩
theorem normTy_VD {h:Nat→Option Obj}{v:Value}{t:Ty}{x:D}(hx:VD h x v):VD h (normTy t x) v:=by
 cases t with
 |leaf t=>exact normLeaf_VD hx
 |agg ts=>
  cases x with
  |agg cs=>
   obtain⟨us,e,h1⟩:=hx
   exact⟨us,e,normLeaves_VD h1⟩
  |_=>exact hx
 |ifc t ts=>exact hx
theorem toN_sound {g':G}{ty:Ty}{x:V}{v:Value}{d:D}{fz os:List Nat}(hv:VV g x v)(hx:x.uses p)(hd:toN ty h x=some (d,fz))(hfz:∀ o∈fz,o∈os)
  (ha:Agree p g g') (hs:SimH u p g' (freezeH h os) w) (hir:IrOk h os g g'):VD g'.h d v:=by
 unfold toN at hd
 split at hd
 ·rename_i d0 a h0
  cases hd
  exact normTy_VD (toD_sound' hv hx h0 hfz ha hs hir)
 ·cases hd
theorem zeroN_spec {P:Program}{e:TypeId}{z:D}(h:zeroN P e=some z):∃ i zv,P.info? e=some i∧i.zero=some zv∧∀ g:Nat→Option Obj,VD g z zv:=by
 unfold zeroN at h
 split at h
 ·rename_i z0 hz
  cases h
  obtain⟨i,zv,h1,h2,h3⟩:=zeroD_spec hz
  exact⟨i,zv,h1,h2,fun g=>normTy_VD (h3 g)⟩
 ·cases h
theorem putParts_ok (S:At u p g st a w){g':G}(ha:Agree p g g'){os:List Nat}(hs:SimH u p g' (freezeH st.h os) w)(hir:IrOk st.h os g g'){ty:Ty}{sz:Nat}:∀ (ps:List (Nat×Operand)) (xs ys:List D) (b:List Nat) (us:Array Value),
  putParts ty st.h (evalV st) sz xs ps=some (ys,b)→(∀ o∈b,o∈os)→VDf g'.h sz xs us.toList→
  ∃ us',Instr.fill (fun i=>some (i*sz,sz)) us (ps.map fun x=>(x.1,a.eval x.2))=some us'∧VDf g'.h sz ys us'.toList∧ys.length=xs.length
 |[],xs,ys,b,us,h,_,hf=>by
  simp only [putParts,Option.some.injEq,Prod.mk.injEq] at h
  obtain⟨rfl,rfl⟩:=h
  exact⟨us,rfl,hf,rfl⟩
 |(k,x)::ps,xs,ys,b,us,h,hb,hf=>by
  simp only [putParts] at h
  split at h
  ·rename_i d fz hd
   replace h:=bif_some h
   obtain⟨hc,h⟩:=h
   simp only [Bool.and_eq_true] at hc
   obtain⟨⟨hk,hok⟩,hsz⟩:=hc
   have hk:k<xs.length:=by have h1:Nat.ble (k+1) xs.length=true:=hk;exact Nat.le_of_ble_eq_true h1
   have hsz:d.cells.length=sz:=Nat.eq_of_beq_eq_true hsz
   split at h
   ·rename_i ys' b' hr
    simp only [Option.some.injEq,Prod.mk.injEq] at h
    obtain⟨rfl,rfl⟩:=h
    have hv:=toN_sound (S.ev x) (S.ev_uses x) hd (fun o ho=>hb o (by simp [ho])) ha hs hir
    obtain⟨d1,d2⟩:=okD_one hok hv
    have hvs:(a.eval x).cells.size=sz:=by rw [d2,hsz]
    have hlen:=VDf_length hf
    simp only [Array.length_toList] at hlen
    have hmul:k*sz+sz≤us.size:=by
     rw [hlen,← Nat.succ_mul];exact Nat.mul_le_mul_right _ hk
    have hf':VDf g'.h sz (xs.set k d) ((a.eval x).cells.zipIdx.foldl (fun cs (x:Value×Nat)=>cs.setIfInBounds (k*sz+x.2) x.1) us).toList:=by
     rw [fold_setAt];exact VDf_set hf hk hvs d1 hv
    obtain⟨us',k1,k2,k3⟩:=putParts_ok S ha hs hir ps _ _ _ _ hr (fun o ho=>hb o (by simp [ho])) hf'
    refine⟨us',?_,k2,by rw [k3];simp⟩
    have e1:¬ ((a.eval x).cells.size≠sz∨k*sz+(a.eval x).cells.size>us.size):=by omega
    simp only [List.map_cons,Instr.fill]
    rw [if_neg (by simpa using e1)]
    exact k1
   ·cases h
  ·cases h
theorem op_buildSlice (S:At u p g st a w)(hpq:∀ x,p x→q x){nid:Nat}(hfr:Fresh p q nid){t:TypeId}{n:Nat}{ps:Array (Nat×Operand)}(ho:o.op = .buildSlice t n ps)
  (h:(match elemT P t with
  |some e=>(match zeroN P e with
   |some z=>bif Nat.blt 0 (szT P e)&&tOk P e&&Nat.ble (n*szT P e) 16777216&&okD z&&Nat.beq z.cells.length (szT P e) then
     (match putParts (tyT P e) st.h (evalV st) (szT P e) (List.replicate n z) ps.toList with
     |some (xs,fz)=>K (.row nid) (newRow (st.freeze fz) nid e (szT P e) xs)
     |none=>none) else none
   |none=>none)
  |none=>none)=some r):Goal u p q g st a w P o K r:=by
 split at h
 ·rename_i e he
  split at h
  ·rename_i z hz
   obtain⟨hc,h⟩:=bif_some h
   simp only [Bool.and_eq_true] at hc
   obtain⟨⟨⟨⟨hpos,htok⟩,hle⟩,hok⟩,hzl⟩:=hc
   have hpos:0<szT P e:=by have h1:Nat.ble 1 (szT P e)=true:=hpos;exact Nat.le_of_ble_eq_true h1
   have hle:n*szT P e≤16777216:=Nat.le_of_ble_eq_true hle
   have hzl:z.cells.length=szT P e:=Nat.eq_of_beq_eq_true hzl
   obtain⟨i,zv,hi,hzv,hV⟩:=zeroN_spec hz
   have hsi:szT P e=i.size:=by simp [szT,hi]
   split at h
   ·rename_i xs fz hput
    obtain⟨g1,a1,b1,c1,s1,i1,j1⟩:=S.hp.freeze fz
    obtain⟨z1,z2⟩:=okD_one (g:=g) hok (hV g.h)
    have hzs:zv.cells.size=szT P e:=by rw [z2,hzl]
    have hmade:(madeCells zv.cells (n*szT P e)).toList=(List.replicate n zv.cells.toList).flatten:=by
     have:=madeCells_flat zv.cells (by rw [hzs];exact hpos) n
     rwa [hzs] at this
    obtain⟨us',k1,k2,k3⟩:=putParts_ok S a1 s1 i1 ps.toList _ _ _ (madeCells zv.cells (n*szT P e)) hput (fun o ho=>ho) (by rw [hmade];exact VDf_replicate hzs z1 (hV _) n)
    have hlen:=VDf_length k2
    simp only [Array.length_toList,k3,List.length_replicate] at hlen
    have hn:n≤maxLen:=by
     have:n≤n*szT P e:=Nat.le_mul_of_pos_right n hpos
     simp only [maxLen];omega
    have hxs:xs.length=n:=by rw [k3];simp
    have hown:=World.ownsRow_lit (e:=e) (size:=szT P e) w us' n (Nat.zero_le _) hn hlen
    obtain⟨g',m1,m2,m3,m4,m5⟩:=newRow_sim (h':=(newRow (st.freeze fz) nid e (szT P e) xs).h) s1 hpq hfr.zero.1 hfr.zero.2 (World.grownBy_alloc w _ none) (by rw [hxs];exact hown) hpos k2
     (fun b hb=>by cases hb) (fun b hb=>by simp only [Value.ownBlock,Option.some.injEq] at hb;exact .inr (by omega)) (fun o' x hx hne=>by rw [newRow,setH_eq,if_neg hne] at hx;exact⟨hx,fun _ _ e=>by cases e⟩) (by rw [newRow,setH_eq];simp)
    have ha:Agree p g g':=⟨fun b x e=>m1.h b x (a1.h b x e),fun x hx=>(m1.blk x hx).trans (a1.blk x hx),fun x hx=>(m1.hdr x hx).trans (a1.hdr x hx),fun x hx=>(m1.ihdr x hx).trans (a1.ihdr x hx)⟩
    refine Goal.res h (v:= .slice (some ⟨w.heap.size,0,none⟩) n n) ?_ m5 ha (ext_alloc ha) ⟨m4.symm,rfl⟩ hfr.zero.2 rfl rfl
    have ht:=elemT_spec he
    rw [hsi] at hle k1
    have hk1:Instr.fill (fun i_1=>some (i_1*i.size,i.size)) (madeCells zv.cells (n*i.size)) (ps.map fun (k,x)=>(k,a.eval x)).toList=some us':=by
     rw [Array.toList_map];exact k1
    simp only [execOp,ho,Instr.buildSlice,Sem.run_bind,run_underlying ht,Result.andThen_ok,run_sizeOf' hi]
    by_cases hn0:n*i.size=0
    ·have hn0':n=0:=by
      rcases Nat.eq_zero_or_pos n with h0|h0
      ·exact h0
      ·have hpi:0<i.size:=by rw [← hsi];exact hpos
       have:=Nat.mul_pos h0 hpi;omega
     have e1:madeCells zv.cells (n*i.size)=#[]:=by rw [hn0];simp [madeCells]
     rw [e1] at hk1
     subst hn0'
     rw [Array.toList_map] at hk1
     have e0:(Array.range 0).map (fun _:Nat=>(default:Value))=#[]:=by simp
     simp [e0,hk1,Go.newRow]
    ·have hle':¬ (n*i.size>2 ^ 24):=by omega
     simp [hle',hn0,zeroValue,typeInfo,hi,hzv,Go.newRow]
     have e2:(Array.range (n*i.size)).map (fun x=>zv.cells[x % zv.cells.size]!)=madeCells zv.cells (n*i.size):=rfl
     simp [madeCells] at hk1
     simp [hk1]
   ·cases h
  ·cases h
 ·cases h
end
end Go.AE
namespace Go.AE
open Go.RowKit
section
variable {u:Nat→Option Obj} {p q:Nat→Prop} {g:G} {st:St} {h h':Nat→Option Ob} {a:Act} {w w':World} {P:Program} {o:Oper} {R:Type} {K:V→St→Option R} {r:R}
theorem setAt_pre {α:Type}:∀ (b pre c:List α) (k:Nat),setAt (pre++c) (pre.length+k) b=pre++setAt c k b
 |[],pre,c,k=>rfl
 |b0::b,pre,c,k=>by
  simp only [setAt]
  rw [List.set_append_right _ _ (by omega),show pre.length+k-pre.length=k from by omega,Nat.add_assoc,setAt_pre b]
theorem setAt_post {α:Type}:∀ (b c post:List α) (k:Nat),k+b.length≤c.length→setAt (c++post) k b=setAt c k b++post
 |[],c,post,k,_=>rfl
 |b0::b,c,post,k,h=>by
  simp only [setAt]
  simp only [List.length_cons] at h
  rw [List.set_append_left _ _ (by omega),setAt_post b _ _ _ (by simp;omega)]
theorem setAt_all {α:Type}:∀ (b c:List α),c.length=b.length→setAt c 0 b=b:=by
 intro b c h
 have:=setAt_eq0 b c [] h
 simpa using this
where
 setAt_eq0 {α:Type}:∀ (b c pre:List α),c.length=b.length→setAt (pre++c) pre.length b=pre++b
 |[],c,pre,h=>by have:c=[]:=List.eq_nil_of_length_eq_zero h;subst this;rfl
 |b0::b,c,pre,h=>by
  cases c with
  |nil=>simp at h
  |cons c0 c=>
   simp only [setAt]
   have e1:(pre++c0::c).set pre.length b0=(pre++[b0])++c:=by simp
   rw [e1]
   have:=setAt_eq0 b c (pre++[b0]) (by simpa using h)
   simp only [List.length_append,List.length_cons,List.length_nil,Nat.zero_add] at this
   rw [this];simp
theorem setAt_take {α:Type}:∀ (b c:List α) (k m:Nat),(setAt c k b).take m=setAt (c.take m) k b
 |[],c,k,m=>rfl
 |b0::b,c,k,m=>by simp only [setAt];rw [setAt_take b,List.take_set]
theorem setAt_eq {α:Type}:∀ (b c:List α) (k:Nat),k+b.length≤c.length→setAt c k b=c.take k++b++c.drop (k+b.length):=by
 intro b c k h
 have h1:c=c.take k++((c.drop k).take b.length++c.drop (k+b.length)):=by
  rw [← List.drop_drop,List.take_append_drop,List.take_append_drop]
 have hl:(c.take k).length=k:=by simp;omega
 have e:=setAt_pre b (c.take k) ((c.drop k).take b.length++c.drop (k+b.length)) 0
 rw [← h1,hl,Nat.add_zero] at e
 rw [e,setAt_post _ _ _ _ (by simp;omega),setAt_all _ _ (by simp;omega),List.append_assoc]
theorem VDf_split {hh:Nat→Option Obj}{sz:Nat}:∀ {xs:List D} {us:List Value} {i:Nat},VDf hh sz xs us→i<xs.length→
  ∃ (pre:List Value) (v:Value) (post:List Value),us=pre++(v.cells.toList++post)∧pre.length=i*sz∧v.cells.size=sz∧(∀ y∈v.cells.toList,y.oneCell'=true)∧VD hh (xs[i]?.getD .top) v∧
   ∀ (x':D) (v':Value),v'.cells.size=sz→(∀ y∈v'.cells.toList,y.oneCell'=true)→VD hh x' v'→VDf hh sz (xs.set i x') (pre++(v'.cells.toList++post))
 |[],us,i,_,hi=>by simp at hi
 |x::xs,us,0,h,_=>by
  obtain⟨v,r,rfl,k1,k3,k4,k5⟩:=h
  exact⟨[],v,r,rfl,by simp,k1,k3,k4,fun x' v' h1 h2 h3=>⟨v',r,rfl,h1,h2,h3,k5⟩⟩
 |x::xs,us,i+1,h,hi=>by
  obtain⟨v,r,rfl,k1,k3,k4,k5⟩:=h
  obtain⟨pre,v1,post,rfl,e1,e2,e3,e4,e5⟩:=VDf_split (i:=i) k5 (by simpa using hi)
  refine⟨v.cells.toList++pre,v1,post,by simp,by simp [k1,e1,Nat.add_mul];omega,e2,e3,by simpa using e4,fun x' v' h1 h2 h3=>?_⟩
  exact⟨v,pre++(v'.cells.toList++post),by simp,k1,k3,k4,e5 x' v' h1 h2 h3⟩
theorem run_storeVar {t:TypeId}{info:TypeInfo}(hinfo:P.info? t=some info){b off:Nat}{c:Array Value}{e:TypeId}{v:Value}(hb:w.heap[b]? = some (.cells c e (0,0)))(hsz:v.cells.size=info.size)
  (hle:off+v.cells.size≤c.size) (h1:∀ y∈v.cells.toList,y.oneCell'=true) :
  (storeVar t ⟨b,off,none⟩ v).run P w = .ok () (w.setRow b (setAt c.toList off v.cells.toList).toArray):=by
 have hst:=run_storeCells_at P b off e v.cells.toList 0 c w hb (by simpa using hle) h1
 simp only [Nat.add_zero] at hst
 rw [← setAt_eq _ _ _ (by simpa using hle)] at hst
 simp only [storeVar,Sem.run_bind,run_sizeOf' hinfo,Result.andThen_ok]
 simp [hsz,hst]
theorem ext_setRow {g':G}(ha:Agree p g g')(b:Nat)(cs:Array Value):Ext g w g' (w.setRow b cs):=⟨ha.h,rfl,rfl,rfl,by simp [World.setRow]⟩
theorem ext_setRowW {g':G}(ha:AgreeW p g g')(b:Nat)(cs:Array Value):Ext g w g' (w.setRow b cs):=⟨ha.h,rfl,rfl,rfl,by simp [World.setRow]⟩
theorem var_update (S:SimH u p g h w){no:Nat}{cs cs':List V}{c c':Array Value}{e:TypeId}(ho:h no=some (.var cs))(hb:w.heap[g.blk no]? = some (.cells c e (0,0)))
  (hF:F2 (VA g) cs' c'.toList) (h1:∀ y∈c'.toList,y.oneCell'=true) (hu:∀ v∈cs',v.usesA p) (hbp:∀ t o' f,V.bp t o' f∈cs'→e=t) (hh:∀ x,h' x=if x=no then some (.var cs') else h x) :
  SimH u p g h' (w.setRow (g.blk no) c'):=by
 refine S.update (Agree.refl p g) rfl (some (g.blk no)) (fun k _ hk=>setRow_other w _ k _ (fun e=>hk (by rw [e]))) (fun b hb=>?_) (fun _ h=>h) no ?_ ?_
 ·cases hb
  exact S.sep no _ _ ho rfl
 ·intro o' x hx hne
  rw [hh,if_neg hne] at hx
  refine⟨hx,fun b hb e=>?_⟩
  cases e
  exact hne (S.inj o' no _ _ _ hx ho hb rfl)
 ·intro x hx
  rw [hh,if_pos rfl] at hx
  cases hx
  refine⟨⟨c',e,setRow_heap w _ c c' e (0,0) hb,hF,h1,hbp⟩,fun b hb=>?_,(S.use _ _ ho).1,hu⟩
  simp only [obk] at hb
  exact .inl (by rw [hb])
theorem row_form (S:SimH u p g h w){no e sz:Nat}{xs:List D}(ho:h no=some (.row e sz xs false)){b:Nat}(hb:(g.hdr no).ownBlock=some b) :
  ∃ (cap:Nat) (cur:Array Value),0<sz∧g.hdr no = .slice (some ⟨b,0,none⟩) xs.length cap∧w.heap[b]? = some (.cells cur e (0,0))∧xs.length≤cap∧cap≤maxLen∧cur.size=cap*sz∧VDf g.h sz xs (cur.toList.take (xs.length*sz)):=by
 obtain⟨us,hsz,h1,h2⟩:=S.ob _ _ ho
 rcases ownsRow_form h1 with ⟨k,_,_⟩|⟨b',cap,cur,k1,k2,k3,k4,k5,k6,_⟩
 ·rw [k] at hb;simp [Value.ownBlock] at hb
 ·rw [k1] at hb
  simp only [Value.ownBlock,Option.some.injEq] at hb
  subst hb
  exact⟨cap,cur,hsz,k1,k2,k3,k4,k5,by rw [k6];exact h2⟩
theorem row_update (S:SimH u p g h w){no e sz:Nat}{xs xs':List D}(ho:h no=some (.row e sz xs false)){b:Nat}(hb:(g.hdr no).ownBlock=some b){cur c':Array Value}(hcur:w.heap[b]? = some (.cells cur e (0,0)))
  (hsz:c'.size=cur.size) (hlen:xs'.length=xs.length) (hf:VDf g.h sz xs' (c'.toList.take (xs.length*sz))) (hh:∀ x,h' x=if x=no then some (.row e sz xs' false) else h x) :
  SimH u p g h' (w.setRow b c'):=by
 obtain⟨cap,cur',hsz0,k1,k2,k3,k4,k5,k6⟩:=row_form S ho hb
 rw [hcur] at k2
 simp only [Option.some.injEq,Obj.cells.injEq,and_true] at k2
 subst k2
 refine S.update (Agree.refl p g) rfl (some b) (fun k _ hk=>setRow_other w _ k _ (fun e=>hk (by rw [e]))) (fun b' hb'=>?_) (fun _ h=>h) no ?_ ?_
 ·cases hb'
  exact S.sep no _ _ ho hb
 ·intro o' x hx hne
  rw [hh,if_neg hne] at hx
  refine⟨hx,fun b' hb' e=>?_⟩
  cases e
  exact hne (S.inj o' no _ _ _ hx ho hb' hb)
 ·intro x hx
  rw [hh,if_pos rfl] at hx
  cases hx
  have hlf:=VDf_length hf
  refine⟨⟨_,hsz0,⟨?_,.inr ⟨b,cap,c',by rw [hlen];exact k1,Nat.zero_le _,setRow_heap w b cur c' e (0,0) hcur,by rw [hlen];exact k3,k4,by rw [hsz];exact k5,?_⟩⟩,hf⟩,fun b' hb'=>?_,(S.use _ _ ho).1,trivial⟩
  ·exact hlf
  ·rw [hlen]
  ·simp only [obk] at hb'
   rw [hb] at hb'
   exact .inl hb'.symm
theorem set_same {α:Type}:∀ {us:List α} {i:Nat} {v:α},us[i]? = some v→us.set i v=us
 |[],_,_,h=>by simp at h
 |u::us,0,v,h=>by simp at h;subst h;rfl
 |u::us,i+1,v,h=>by
  show u::us.set i v=_
  rw [set_same (by simpa using h)]
theorem own_set {e sz n b:Nat}{v:Value}{us:List Value}(h:w.ownsRow 0 e sz v n us)(hb:v.ownBlock=some b):∃ cur:Array Value,w.heap[b]? = some (.cells cur e (0,0))∧n*sz≤cur.size∧
  ∀ off (ys:List Value),(w.setRow b (setAt cur.toList off ys).toArray).ownsRow 0 e sz v n (setAt us off ys):=by
 rcases ownsRow_form h with ⟨h1,_⟩|⟨b',cap,cur,h1,h3,h4,h5,h6,h7,h8⟩
 ·rw [h1] at hb;cases hb
 ·rw [h1] at hb ⊢
  simp only [Value.ownBlock,Option.some.injEq] at hb
  subst hb
  refine⟨cur,h3,by rw [h6];exact Nat.mul_le_mul_right _ h4,fun off ys=>⟨by rw [setAt_length];exact h8,.inr ⟨b',cap,_,rfl,Nat.zero_le _,setRow_heap w b' cur _ e (0,0) h3,h4,h5,by simp [setAt_length,h6],?_⟩⟩⟩
  simp only []
  rw [setAt_take,h7]
theorem ownsRow_setRow {e sz n b:Nat}{v:Value}{us:List Value}{c:Array Value}(h:w.ownsRow 0 e sz v n us)(hb:v.ownBlock≠some b):(w.setRow b c).ownsRow 0 e sz v n us:=
 ownsRow_congr (fun k hk=>setRow_other w _ k _ fun e=>hb (by rw [hk,e])) h
theorem nst_nil (S:SimH u p g h w){no e ie sz b i m1 m2:Nat}{xs:List D}(ho:h no=some (.nst e ie sz xs))(hb:(g.hdr no).ownBlock=some b)(hx:xs[i]? = some (.nils m1 m2)){cur:Array Value}(hcur:w.heap[b]? = some (.cells cur e (0,0))) :
  SimH u p g h (w.setRow b (setAt cur.toList i [Value.slice none 0 0]).toArray):=by
 obtain⟨h0,⟨us,h1,hN⟩,hD⟩:=S.ob _ _ ho
 obtain⟨cur',k1,k2,k3⟩:=own_set h1 hb
 rw [hcur] at k1
 simp only [Option.some.injEq,Obj.cells.injEq,and_true] at k1
 subst k1
 refine S.update2 (Agree.refl p g) rfl (obk g no (.nst e ie sz xs)) (fun k _ hk=>setRow_other w _ k _ (fun e=>hk (.inl (by rw [e];exact hb)))) (fun b' hb'=>S.sep no _ _ ho hb') (fun _ h=>h) no (fun o' x hx' hne=>⟨hx',fun b' hb' e=>hne (S.inj o' no _ _ _ hx' ho hb' e)⟩) ?_
 intro x hx'
 rw [ho] at hx'
 cases hx'
 refine⟨⟨h0,⟨_,k3 i _,fun j y hy=>?_⟩,hD⟩,fun b' hb'=> .inl hb',(S.use _ _ ho).1,trivial⟩
 obtain⟨v,hv,k⟩:=hN j y hy
 have hus:setAt us i [Value.slice none 0 0]=us:=by
  obtain⟨v',hv',k'⟩:=hN i _ hx
  rcases k' with ⟨_,_,_,rfl,_⟩|⟨_,_,k',_⟩
  ·exact set_same hv'
  ·cases k'
 rw [hus]
 refine⟨v,hv,?_⟩
 rcases k with k|⟨ys,vs,l1,l2,l3,l4,l5,l6⟩
 ·exact .inl k
 ·exact .inr ⟨ys,vs,l1,l2,l3,l4,ownsRow_setRow l5 (fun hbb=>(hD j v b (List.getElem?_eq_some_iff.1 hy).1 l3 hbb).1 hb),l6⟩
theorem nst_put (S:SimH u p g h w){no o' e ie sz b i m1 m2:Nat}{xs ys:List D}(ho:h no=some (.nst e ie sz xs))(hb:(g.hdr no).ownBlock=some b)(hx:xs[i]? = some (.nils m1 m2)){cur:Array Value}(hcur:w.heap[b]? = some (.cells cur e (0,0)))
  (hro:h o'=some (.row ie sz ys false)) (hne:ys≠[]) (hoo:no≠o') (hone:(g.hdr o').oneCell'=true) (hh:∀ x,h' x=if x=no then some (.nst e ie sz (xs.set i (.lst sz ys))) else if x=o' then none else h x) :
  ∃ g',AgreeW p g g'∧SimH u p g' h' (w.setRow b (setAt cur.toList i [g.hdr o']).toArray)∧∀ o,o≠no→g'.ihdr o=g.ihdr o:=by
 obtain⟨h0,⟨us,h1,hN⟩,hD⟩:=S.ob _ _ ho
 obtain⟨vs,hsz,r1,r2⟩:=S.ob _ _ hro
 obtain⟨cur',k1,k2,k3⟩:=own_set h1 hb
 rw [hcur] at k1
 simp only [Option.some.injEq,Obj.cells.injEq,and_true] at k1
 subst k1
 have hi:i<xs.length:=(List.getElem?_eq_some_iff.1 hx).1
 have hlen:us.length=xs.length:=by have:=h1.1;omega
 have hnone:g.ihdr no i=none:=by
  obtain⟨v',hv',k'⟩:=hN i _ hx
  rcases k' with ⟨_,_,_,_,k'⟩|⟨_,_,k',_⟩
  ·exact k'
  ·cases k'
 have apart:∀ b',(g.hdr o').ownBlock=some b'→¬ obk g no (.nst e ie sz xs) b':=fun b' k k'=>hoo (S.inj no o' _ _ _ ho hro k' k)
 let g':G:=⟨g.h,g.blk,g.hdr,fun o j=>if o=no∧j=i then some (g.hdr o') else g.ihdr o j⟩
 have gi:g'.ihdr no i=some (g.hdr o'):=if_pos ⟨rfl,rfl⟩
 have gn:∀ o j,¬ (o=no∧j=i)→g'.ihdr o j=g.ihdr o j:=fun o j k=>if_neg k
 have ha:AgreeW p g g':=⟨fun _ _ k=>k,fun _ _=>rfl,fun _ _=>rfl,fun o _ j v k=>by
  rw [gn o j fun e=>by rw [e.1,e.2,hnone] at k;cases k];exact k⟩
 refine⟨g',ha,S.update2 ha rfl (fun k=>obk g no (.nst e ie sz xs) k∨(g.hdr o').ownBlock=some k) (fun k _ hk=>setRow_other w _ k _ (fun e=>hk (.inl (.inl (by rw [e];exact hb))))) (fun b' hb'=>?_) (fun _ h=>h) no (fun x ob hx' hne'=>?_) (fun x hx'=>?_) (fun x hx' j=>gn x j fun e=>hx' e.1),fun x hx'=>funext fun j=>gn x j fun e=>hx' e.1⟩
 ·rcases hb' with hb'|hb'
  ·exact S.sep no _ _ ho hb'
  ·exact S.sep o' _ _ hro hb'
 ·rw [hh,if_neg hne'] at hx'
  split at hx'
  ·cases hx'
  ·rename_i hxo
   refine⟨hx',fun b' hb' e=>?_⟩
   rcases e with e|e
   ·exact hne' (S.inj x no _ _ _ hx' ho hb' e)
   ·exact hxo (S.inj x o' _ _ _ hx' hro hb' e)
 ·rw [hh,if_pos rfl] at hx'
  cases hx'
  refine⟨⟨h0,⟨_,by rw [List.length_set];exact k3 i _,fun j y hy=>?_⟩,?_⟩,fun b' hb'=>?_,(S.use _ _ ho).1,trivial⟩
  ·show ∃ u,(us.set i (g.hdr o'))[j]? = some u∧_
   by_cases e:j=i
   ·subst e
    rw [List.getElem?_set_self hi] at hy
    cases hy
    refine⟨_,List.getElem?_set_self (by omega),.inr ⟨ys,vs,rfl,hne,gi,hone,ownsRow_setRow r1 fun k=>apart b k (.inl hb),r2⟩⟩
   ·rw [List.getElem?_set_ne (fun k=>e k.symm)] at hy
    obtain⟨v,hv,k⟩:=hN j y hy
    refine⟨v,by rw [List.getElem?_set_ne (fun k=>e k.symm)];exact hv,?_⟩
    rcases k with ⟨a1,a2,a3,a4,a5⟩|⟨zs,ws,l1,l2,l3,l4,l5,l6⟩
    ·exact .inl ⟨a1,a2,a3,a4,by rw [gn no j fun k=>e k.2];exact a5⟩
    ·exact .inr ⟨zs,ws,l1,l2,by rw [gn no j fun k=>e k.2];exact l3,l4,ownsRow_setRow l5 (fun hbb=>(hD j v b (List.getElem?_eq_some_iff.1 hy).1 l3 hbb).1 hb),l6⟩
  ·intro i0 v0 b0 hi0 hv0 hb0
   rw [List.length_set] at hi0 ⊢
   by_cases e:i0=i
   ·subst e
    rw [gi] at hv0
    cases hv0
    refine⟨fun k=>apart b0 hb0 (.inl k),fun j v' hj hv' hb'=>?_⟩
    by_cases ej:j=i0
    ·exact ej
    ·rw [gn no j fun k=>ej k.2] at hv'
     exact absurd (.inr ⟨j,v',hj,hv',hb'⟩) (apart b0 hb0)
   ·rw [gn no i0 fun k=>e k.2] at hv0
    obtain⟨d1,d2⟩:=hD i0 v0 b0 hi0 hv0 hb0
    refine⟨d1,fun j v' hj hv' hb'=>?_⟩
    by_cases ej:j=i
    ·subst ej
     rw [gi] at hv'
     cases hv'
     exact absurd (.inr ⟨i0,v0,hi0,hv0,hb0⟩) (apart b0 hb')
    ·rw [gn no j fun k=>ej k.2] at hv'
     exact d2 j v' hj hv' hb'
  ·rcases hb' with hb'|⟨j,v',hj,hv',hb'⟩
   ·exact .inl (.inl (.inl hb'))
   ·rw [List.length_set] at hj
    by_cases ej:j=i
    ·subst ej
     rw [gi] at hv'
     cases hv'
     exact .inl (.inr hb')
    ·rw [gn no j fun k=>ej k.2] at hv'
     exact .inl (.inl (.inr ⟨j,v',hj,hv',hb'⟩))
theorem nst_set (S:SimH u p g h w){no e ie sz b i j:Nat}{xs ys:List D}{v v1:Value}{x:D}(ho:h no=some (.nst e ie sz xs))(hx:xs[i]? = some (.lst sz ys))(hv:g.ihdr no i=some v)(hb:v.ownBlock=some b)(hj:j<ys.length){vs:List Value}
  (l5:w.ownsRow 0 ie sz v ys.length vs) (l6:VDf g.h sz ys vs) (hone:v.oneCell'=true) {cur:Array Value} (hcur:w.heap[b]? = some (.cells cur ie (0,0))) (d1:∀ y∈v1.cells.toList,y.oneCell'=true) (d2:v1.cells.size=sz) (d3:VD g.h x v1)
  (hh:∀ x',h' x'=if x'=no then some (.nst e ie sz (xs.set i (.lst sz (ys.set j x)))) else h x') :
  SimH u p g h' (w.setRow b (setAt cur.toList (j*sz) v1.cells.toList).toArray):=by
 obtain⟨h0,⟨us,h1,hN⟩,hD⟩:=S.ob _ _ ho
 have hi:i<xs.length:=(List.getElem?_eq_some_iff.1 hx).1
 obtain⟨cur',k1,k2,k3⟩:=own_set l5 hb
 rw [hcur] at k1
 simp only [Option.some.injEq,Obj.cells.injEq,and_true] at k1
 subst k1
 obtain⟨D1,D2⟩:=hD i v b hi hv hb
 refine S.update2 (Agree.refl p g) rfl (obk g no (.nst e ie sz xs)) (fun k _ hk=>setRow_other w _ k _ (fun e=>hk (.inr ⟨i,v,hi,hv,by rw [e];exact hb⟩))) (fun b' hb'=>S.sep no _ _ ho hb') (fun _ h=>h) no (fun o' x' hx' hne=>by
  rw [hh,if_neg hne] at hx'
  exact⟨hx',fun b' hb' e=>hne (S.inj o' no _ _ _ hx' ho hb' e)⟩) ?_
 intro x' hx'
 rw [hh,if_pos rfl] at hx'
 cases hx'
 refine⟨⟨h0,⟨us,by rw [List.length_set];exact ownsRow_setRow h1 D1,fun j' y hy=>?_⟩,by simpa only [List.length_set] using hD⟩,fun b' hb'=> .inl (by simpa only [obk,List.length_set] using hb'),(S.use _ _ ho).1,trivial⟩
 by_cases e:j'=i
 ·subst e
  rw [List.getElem?_set_self hi] at hy
  cases hy
  obtain⟨v',hv',k⟩:=hN j' _ hx
  rcases k with ⟨_,_,k,_⟩|⟨zs,ws,_,m2,m3,_⟩
  ·cases k
  ·rw [hv] at m3
   cases m3
   exact⟨v,hv',.inr ⟨_,_,rfl,(fun e=>by
    have h9:ys=[]:=by simpa using congrArg List.length e
    rw [h9] at hj
    simp at hj),hv,hone,by rw [List.length_set];exact k3 (j*sz) _,VDf_set l6 hj d2 d1 d3⟩⟩
 ·rw [List.getElem?_set_ne (fun k=>e k.symm)] at hy
  obtain⟨v',hv',k⟩:=hN j' y hy
  refine⟨v',hv',?_⟩
  rcases k with k|⟨zs,ws,m1,m2,m3,m4,m5,m6⟩
  ·exact .inl k
  ·exact .inr ⟨zs,ws,m1,m2,m3,m4,ownsRow_setRow m5 (fun hbb=>e (D2 j' v' (List.getElem?_eq_some_iff.1 hy).1 m3 hbb)),m6⟩
theorem typedNil_VA {P:Program}{t:TypeId}{v:V}{x:Value}(h:VA g v x):VA g (typedNil P t v) x:=by
 unfold typedNil
 split
 ·split
  ·exact h
  ·exact h
 ·exact h
theorem typedNil_uses {P:Program}{t:TypeId}{v:V}{q:Nat→Prop}(h:v.usesA q):(typedNil P t v).usesA q:=by
 unfold typedNil
 split
 ·split<;>trivial
 ·exact h
theorem typedNil_cell1 {P:Program}{t:TypeId}{v:V}(h:cell1 v=true):cell1 (typedNil P t v)=true:=by
 unfold typedNil
 split
 ·split<;>rfl
 ·exact h
theorem op_store (S:At u p g st a w)(hpq:∀ x,p x→q x){nid:Nat}(hfr:Fresh p q nid){t:TypeId}{x y:Operand}(ho:o.op = .store t x y)
  {ow:Bool} (h:storeK P ow t (evalV st x) (evalV st y) nid st K=some r):Goal u p q g st a w P o K r:=by
 have hvx:=S.ev x
 have hvy:=S.ev y
 have huy:=S.ev_uses y
 unfold storeK at h
 obtain⟨ht,h⟩:=bif_none_some h
 have ht:tOk P t=true:=by simpa using ht
 obtain⟨d,info,hd,hinfo,hg,hs⟩:=tOk_spec ht
 have exec:∀ (ad:Addr) (w':World),a.eval x = .pointer (some ad)→(storeVar t ad (a.eval y)).run P w = .ok () w'→(execOp a.eval o).run P w = .ok .skip w':=by
  intro ad w' e1 e2
  simp only [execOp,ho,Instr.storeAt,e1,Instr.sureAddr]
  simp [e2]
 split at h
 ·rename_i no off he
  rw [he] at hvx
  have hvx:=VV_ptr hvx
  split at h
  ·rename_i cs hcs
   obtain⟨c,e,hb,hF,h1,hbp⟩:=S.hp.ob _ _ hcs
   have hlen:=hF.length
   simp only [Array.length_toList] at hlen
   have hpno:p no:=(S.hp.use _ _ hcs).1
   have hne:no≠nid:=fun e=>hfr.zero.1 (e▸hpno)
   cases hag:isAggT P t with
   |true=>
    rw [hag] at h
    simp only [cond_true] at h
    obtain⟨hc,h⟩:=bif_some h
    simp only [Bool.and_eq_true] at hc
    obtain⟨⟨hok,hsz⟩,hle⟩:=hc
    have hsz:(evalV st y).cells.length=szT P t:=Nat.eq_of_beq_eq_true hsz
    have hle:off+(evalV st y).cells.length≤cs.length:=Nat.le_of_ble_eq_true hle
    obtain⟨c1,c2,c3⟩:=cells_of hok hvy huy
    have hl:=c1.length
    simp only [Array.length_toList] at hl
    have hrun:=run_storeVar (P:=P) (v:=a.eval y) hinfo hb (by omega) (off:=off) (by omega) c2
    have hsim:=var_update (h':=(st.setH no (some (.var (setAt cs off (evalV st y).cells)))).h) (c':=(setAt c.toList off (a.eval y).cells.toList).toArray) S.hp hcs hb (by simpa using c1.setAt off hF)
     (by intro z hz;rcases mem_setAt _ _ _ _ (by simpa using hz) with hz|hz;exact h1 z hz;exact c2 z hz)
     (by intro z hz;rcases mem_setAt _ _ _ _ hz with hz|hz;exact (S.hp.use _ _ hcs).2 z hz;exact c3 z hz)
     (by intro t' o' f hz;rcases mem_setAt _ _ _ _ hz with hz|hz;exact hbp _ _ _ hz;exact absurd hz (okCells_bp hok)) (fun x=>setH_eq _ _ _ _)
    exact Goal.skip h (exec _ _ hvx hrun) (hsim.more hpq) (Agree.refl p g) (ext_setRow (Agree.refl p g) _ _) rfl rfl
   |false=>
    rw [hag] at h
    simp only [cond_false] at h
    obtain⟨hc,h⟩:=bif_some h
    simp only [Bool.and_eq_true] at hc
    obtain⟨⟨hc1,hsz⟩,hlt⟩:=hc
    have hsz:szT P t=1:=Nat.eq_of_beq_eq_true hsz
    have hlt:off<cs.length:=by have h1:Nat.ble (off+1) cs.length=true:=hlt;exact Nat.le_of_ble_eq_true h1
    have hone:=cell1_one hc1 hvy
    have hcy:=cells_one hone
    have hrun:=run_storeVar (P:=P) (v:=a.eval y) hinfo hb (by rw [hcy];simp;omega) (off:=off) (by rw [hcy];simp;omega) (by rw [hcy];simpa using hone)
    rw [hcy] at hrun
    have main:∀ (g1:G) (vv1:V) (st1:St),SimH u q g1 st1.h w→Agree p g g1→g1.h=g.h→g1.blk=g.blk→VA g1 vv1 (a.eval y)→vv1.usesA q→cell1 vv1=true→st1.t=st.t→st1.m=st.m→st1.h no=st.h no→
      K .top (st1.setH no (some (.var (setAt cs off [vv1]))))=some r→Goal u p q g st a w P o K r:=by
     intro g1 vv1 st1 s1 a1 a2 a3 a4 a5 a5c a6 a7 a8 h
     have hcs1:st1.h no=some (.var cs):=by rw [a8];exact hcs
     have hF1:F2 (VA g1) cs c.toList:=hF.mono fun c hc b hb=>VA.agree a1 ((S.hp.use _ _ hcs).2 c hc) hb
     have hb1:w.heap[g1.blk no]? = some (.cells c e (0,0)):=by rw [a3];exact hb
     have hsim:=var_update (h':=(st1.setH no (some (.var (setAt cs off [vv1])))).h) (c':=(setAt c.toList off [a.eval y]).toArray) s1 hcs1 hb1 (by simpa using (F2.cons a4 .nil).setAt off hF1)
      (by intro z hz;rcases mem_setAt _ _ _ _ (by simpa using hz) with hz|hz;exact h1 z hz;simp at hz;subst hz;exact hone)
      (by intro z hz;rcases mem_setAt _ _ _ _ hz with hz|hz;exact ((S.hp.use _ _ hcs).2 z hz).mono hpq;simp at hz;subst hz;exact a5)
      (by intro t' o' f hz;rcases mem_setAt _ _ _ _ hz with hz|hz;exact hbp _ _ _ hz;simp at hz;rw [← hz] at a5c;cases a5c) (fun x=>setH_eq _ _ _ _)
     rw [a3] at hsim
     exact Goal.skip h (exec _ _ hvx hrun) hsim a1 (ext_setRow a1 _ _) a6 a7
    cases hn1:(Nat.beq cs.length 1||ow) with
    |true=>
     rw [hn1] at h
     simp only [cond_true] at h
     obtain⟨g1,vv1,st1,k1,k2,k3,k4,k5,k6,k7,k8,k9,k10,_,k12,k13⟩:=ownK_ok S.hp hpq hfr.zero.1 hfr.zero.2 hvy huy h
     obtain⟨k14,k15⟩:=k13 hc1
     exact main g1 vv1 st1 k2 k3 k4 k5 k15 k14 (k12 hc1) k8 k9 (k10 no hne) k1
    |false=>
     rw [hn1] at h
     simp only [cond_false] at h
     have hVA:VA g (evalV st y) (a.eval y)∧(evalV st y).usesA p:=by
      match evalV st y,hc1,hvy,huy with
      | .d (.agg _),hc,_,_=>simp [cell1] at hc
      | .agg _,hc,_,_=>simp [cell1] at hc
      | .tup _,hc,_,_=>simp [cell1] at hc
      | .d _,_,hv,_=>exact⟨hv,trivial⟩
      | .ptr ..,_,hv,hu=>exact⟨hv,hu⟩
      | .el ..,_,hv,hu=>exact⟨hv,trivial⟩
      | .rp ..,_,hv,hu=>exact⟨hv,hu⟩
      | .row _,_,hv,hu=>exact⟨hv,hu⟩
      | .mp _,_,hv,hu=>exact⟨hv,hu⟩
      | .ir ..,_,hv,hu=>exact⟨hv,hu⟩
      | .irp ..,_,hv,hu=>exact⟨hv,hu⟩
      | .bp ..,hc,_,_=>simp [cell1] at hc
      | .sub ..,_,hv,hu=>exact⟨hv,hu⟩
      | .fn _ [],_,hv,hu=>exact⟨hv,hu⟩
      | .fn _ (_::_),_,hv,hu=>exact⟨hv,hu⟩
     exact main g _ st (S.hp.more hpq) (Agree.refl p g) rfl rfl (typedNil_VA hVA.1) (typedNil_uses (hVA.2.mono hpq)) (typedNil_cell1 hc1) rfl rfl rfl h
  ·cases h
 ·rename_i no sz i off he
  rw [he] at hvx
  obtain⟨hi,b,hbk,hvx⟩:=hvx
  split at h
  ·rename_i e sz' xs hrow
   replace h:=bif_some h
   obtain⟨hsz0,h⟩:=h
   have hsz0:sz=sz':=Nat.eq_of_beq_eq_true hsz0
   subst hsz0
   rw [hdr_len_row (S.hp.ob _ _ hrow)] at hi
   split at h
   ·rename_i d' fz hd'
    obtain⟨hc,h⟩:=bif_none_some h
    rw [Bool.not_eq_false'] at hc
    simp only [Bool.and_eq_true,Bool.not_eq_true'] at hc
    obtain⟨⟨hok,hdl⟩,hfz⟩:=hc
    have hdl:d'.cells.length=szT P t:=Nat.eq_of_beq_eq_true hdl
    have hnot:no∉fz:=by
     intro hm
     have:fz.any (Nat.beq no)=true:=List.any_eq_true.2 ⟨no,hm,Nat.beq_refl no⟩
     rw [hfz] at this;cases this
    obtain⟨g1,a1,b1,c1,s1,i1,j1⟩:=S.hp.freeze fz
    have hrow1:freezeH st.h fz no=some (.row e sz xs false):=by rw [freezeH_not _ _ _ hnot];exact hrow
    have hv:=toN_sound hvy huy hd' (fun o ho=>ho) a1 s1 i1
    obtain⟨d1,d2⟩:=okD_one hok hv
    rw [← c1] at hbk
    obtain⟨cap,cur,hsz0,k1,k2,k3,k4,k5,k6⟩:=row_form s1 hrow1 hbk
    obtain⟨pre,v,post,e1,e2,e3,e4,e5,e6⟩:=VDf_split k6 hi
    have hle:i*sz+sz≤xs.length*sz:=by rw [← Nat.succ_mul];exact Nat.mul_le_mul_right _ hi
    have hle2:xs.length*sz≤cap*sz:=Nat.mul_le_mul_right _ k3
    have main:∀ (x':D),off+szT P t≤sz→VDf g1.h sz (xs.set i x') (pre++(setAt v.cells.toList off (a.eval y).cells.toList++post))→
      K .top ((st.freeze fz).setH no (some (.row e sz (xs.set i x') false)))=some r→Goal u p q g st a w P o K r:=by
     intro x' hoff hf h
     have hrun:=run_storeVar (P:=P) (v:=a.eval y) hinfo k2 (by omega) (off:=i*sz+off) (by omega) d1
     have hsim:=row_update (h':=((st.freeze fz).setH no (some (.row e sz (xs.set i x') false))).h) (xs':=xs.set i x') (c':=(setAt cur.toList (i*sz+off) (a.eval y).cells.toList).toArray) s1 hrow1 hbk k2 (by simp [setAt_length]) (by simp) (by
       simp only []
       rw [setAt_take,e1,← e2,setAt_pre,setAt_post _ _ _ _ (by simp;omega)]
       exact hf) (fun x=>setH_eq _ _ _ _)
     exact Goal.skip h (exec _ _ hvx hrun) (hsim.more hpq) a1 (ext_setRow a1 _ _) rfl rfl
    cases hwhole:(Nat.beq off 0&&Nat.beq (szT P t) sz) with
    |true=>
     rw [hwhole] at h
     simp only [cond_true] at h
     simp only [Bool.and_eq_true] at hwhole
     have h0:off=0:=Nat.eq_of_beq_eq_true hwhole.1
     have hsz1:szT P t=sz:=Nat.eq_of_beq_eq_true hwhole.2
     refine main d' (by omega) ?_ h
     rw [h0,setAt_all _ _ (by simp;omega)]
     exact e6 d' (a.eval y) (by omega) d1 hv
    |false=>
     rw [hwhole] at h
     simp only [cond_false] at h
     obtain⟨hoff,h⟩:=bif_some h
     have hoff:off+szT P t≤sz:=Nat.le_of_ble_eq_true hoff
     obtain⟨hty,h⟩:=bif_some h
     simp only [Bool.and_eq_true] at hty
     obtain⟨⟨hty,hage⟩,_⟩:=hty
     rw [tyT_agg hage] at hty
     refine main (updD (xs[i]?.getD .top) off d') hoff ?_ h
     generalize hx:xs[i]?.getD D.top=xi at *
     match xi,hty,e5 with
     | .agg cs,_,e5=>
      obtain⟨us,rfl,hcs⟩:=e5
      have hyd:VDs g1.h d'.cells (a.eval y).cells.toList:=by
       have hok':okCells (.d d')=true:=by
        unfold okCells okD at *
        cases d'<;>first|(simpa [V.cells,D.cells,List.all_map] using hok)
       obtain⟨q1,_,_⟩:=cells_of (p:=fun _=>True) hok' (show VV g1 (.d d') _ from hv) trivial
       have q2:(V.d d').cells=d'.cells.map V.d:=by cases d'<;>rfl
       rw [q2] at q1
       exact (VDs_F2 _ _ _).2 ((F2.of_map_left q1).mono fun _ _ _ h=>h)
      have hF:VDs g1.h (setAt cs off d'.cells) (setAt us.toList off (a.eval y).cells.toList):=(VDs_F2 _ _ _).2 (((VDs_F2 _ _ _).1 hyd).setAt off ((VDs_F2 _ _ _).1 hcs))
      have:=e6 (updD (.agg cs) off d') (.agg (setAt us.toList off (a.eval y).cells.toList).toArray) (by simpa [Value.cells,setAt_length] using e3)
       (by intro z hz;rcases mem_setAt _ _ _ _ (by simpa [Value.cells] using hz) with hz|hz;exact e4 z hz;exact d1 z hz) ⟨_,rfl,by simpa [D.cells] using hF⟩
      simpa [Value.cells] using this
   ·cases h
  ·rename_i e ie sz' xs hrow
   replace h:=bif_some h
   obtain⟨hc,h⟩:=h
   simp only [Bool.and_eq_true] at hc
   obtain⟨⟨⟨⟨c1,c2⟩,c3⟩,c4⟩,c5⟩:=hc
   obtain rfl:sz=1:=Nat.eq_of_beq_eq_true c1
   obtain rfl:off=0:=Nat.eq_of_beq_eq_true c2
   have c3:szT P t=1:=Nat.eq_of_beq_eq_true c3
   have c4:i<xs.length:=by have h1:Nat.ble (i+1) xs.length=true:=c4;exact Nat.le_of_ble_eq_true h1
   have hx:∃ m1 m2,xs[i]? = some (.nils m1 m2):=by
    rw [List.getElem?_eq_getElem c4] at c5 ⊢
    match xs[i],c5 with
    | .nils m1 m2,_=>exact⟨m1,m2,rfl⟩
   obtain⟨m1,m2,hx⟩:=hx
   rw [Nat.mul_one,Nat.add_zero] at hvx
   obtain⟨_,⟨us,k1,_⟩,_⟩:=S.hp.ob _ _ hrow
   obtain⟨cur,k2,k3,_⟩:=own_set k1 hbk
   rw [Nat.mul_one] at k3
   split at h
   ·rename_i o' hy
    rw [hy] at hvy
    split at h
    ·rename_i e' sz'' ys hro
     replace h:=bif_some h
     obtain⟨hc,h⟩:=h
     simp only [Bool.and_eq_true,Bool.not_eq_true'] at hc
     obtain⟨⟨⟨c6,c7⟩,c8⟩,c9⟩:=hc
     obtain rfl:e'=ie:=Nat.eq_of_beq_eq_true c7
     obtain rfl:sz''=sz':=Nat.eq_of_beq_eq_true c8
     have hoo:no≠o':=fun e=>by rw [e,Nat.beq_refl] at c6;cases c6
     have hne:ys≠[]:=fun e=>by rw [e] at c9;cases c9
     have hone:(a.eval y).oneCell'=true:=hvy.2
     have hve:a.eval y=g.hdr o':=hvy.1
     have hcy:=cells_one hone
     have hrun:=run_storeVar (P:=P) (v:=a.eval y) hinfo k2 (by rw [hcy];simp;omega) (off:=i) (by rw [hcy];simp;omega) (by rw [hcy];simpa using hone)
     rw [hcy] at hrun
     obtain⟨g',a1,s1,n1⟩:=nst_put (h':=((st.setH o' none).setH no (some (.nst e e' sz'' (xs.set i (.lst sz'' ys))))).h) S.hp hrow hbk hx k2 hro hne hoo (by rw [← hve];exact hone) (fun x=>by rw [setH_eq,setH_eq])
     rw [← hve] at s1
     exact Goal.skipW h (exec _ _ hvx hrun) (s1.more hpq) a1 (ext_setRowW a1 _ _) rfl rfl fun x _ hx=>n1 x fun e=>by rw [e,hrow] at hx;cases hx
    ·cases h
   ·rename_i hy
    rw [hy] at hvy
    have hve:a.eval y = .slice none 0 0:=hvy
    have hrun:=run_storeVar (P:=P) (v:=a.eval y) hinfo k2 (by rw [hve];simp [Value.cells];omega) (off:=i) (by rw [hve];simp [Value.cells];omega) (by rw [hve];simp [Value.cells,Value.oneCell'])
    rw [hve] at hrun
    exact Goal.skip h (exec _ _ hvx (by rw [hve];exact hrun)) ((nst_nil S.hp hrow hbk hx k2).more hpq) (Agree.refl p g) (ext_setRow (Agree.refl p g) _ _) rfl rfl
   ·cases h
  ·cases h
 ·rename_i no i sz j he
  rw [he] at hvx
  obtain⟨hi0,hd',b,hih,hj,hbk,hvx⟩:=hvx
  split at h
  ·rename_i e ie sz' xs hrow
   split at h
   ·rename_i z ys x hin hd
    replace h:=bif_some h
    obtain⟨hc,h⟩:=h
    simp only [Bool.and_eq_true] at hc
    obtain⟨⟨⟨⟨c1,c2⟩,c3⟩,c4⟩,c5⟩:=hc
    obtain rfl:sz=sz':=Nat.eq_of_beq_eq_true c1
    have c3:x.cells.length=szT P t:=Nat.eq_of_beq_eq_true c3
    have c4:szT P t=sz:=Nat.eq_of_beq_eq_true c4
    have c5:j<ys.length:=by have h1:Nat.ble (j+1) ys.length=true:=c5;exact Nat.le_of_ble_eq_true h1
    obtain⟨f,ie',xs',vs,q1,q2,q3,q4,q5,q6,q7⟩:=inner_row S.hp hin hi0 hih
    rw [hrow] at q1
    cases q1
    have hv:=toN_sound (os:=[]) (w:=w) hvy huy hd (fun o ho=>nomatch ho) (Agree.refl p g) S.hp (fun _ k=>nomatch k)
    obtain⟨d1,d2⟩:=okD_one c2 hv
    obtain⟨cur,k2,k3,_⟩:=own_set q6 hbk
    have hle:j*sz+sz≤ys.length*sz:=by rw [← Nat.succ_mul];exact Nat.mul_le_mul_right _ c5
    have hrun:=run_storeVar (P:=P) (v:=a.eval y) hinfo k2 (by omega) (off:=j*sz) (by omega) d1
    exact Goal.skip h (exec _ _ hvx hrun) ((nst_set S.hp hrow q2 hih hbk c5 q6 q7 q5 k2 d1 (by omega) hv (fun x'=>setH_eq _ _ _ _)).more hpq) (Agree.refl p g) (ext_setRow (Agree.refl p g) _ _) rfl rfl
   ·cases h
  ·cases h
 ·cases h
theorem bytesOk_spec {e:TypeId}(h:bytesOk P e=true):∃ i z,P.info? e=some i∧i.bytes≤2048∧0<i.size∧i.zero=some z∧z.cells.size=i.size:=by
 unfold bytesOk at h
 split at h
 ·rename_i i hi
  simp only [Bool.and_eq_true] at h
  obtain⟨⟨h1,h2⟩,h3⟩:=h
  split at h3
  ·rename_i z hz
   refine⟨i,z,hi,Nat.le_of_ble_eq_true h1,?_,hz,Nat.eq_of_beq_eq_true h3⟩
   have h2:Nat.ble 1 i.size=true:=h2
   exact Nat.le_of_ble_eq_true h2
  ·cases h3
 ·cases h
theorem run_append_none {t ty e:TypeId}{i:TypeInfo}{sz:Nat}(ht:P.underlying t=some (.slice e))(hi:P.info? e=some i){v:Value}{n c:Nat}{xs:List Value}(hown:w.ownsRow 0 e sz v n xs) :
  (Builtin.append_ #[t,t] ty #[v,.slice none 0 c]).run P w = .ok v w:=by
 rcases hown.2 with ⟨rfl,rfl⟩|⟨b,cap,cur,rfl,_,_,hnc,_⟩
 ·simp [Builtin.append_,run_underlying ht,sizeOf,typeInfo,hi,Builtin.lenOf,Builtin.firstCells]
 ·simp [Builtin.append_,run_underlying ht,sizeOf,typeInfo,hi,Builtin.lenOf,Builtin.firstCells,hnc,storeCells]
theorem append_block {t ty e:TypeId}{i:TypeInfo}{z:Value}(ht:P.underlying t=some (.slice e))(hi:P.info? e=some i)(hz:i.zero=some z){v v':Value}{n m c:Nat}{xs news:List Value}{ad:Addr}
  (hown:w.ownsRow 0 e i.size v n xs) (hl:news.length=m*i.size) (hnews:∀ j u,news[j]? = some u→w.cell? (ad.add j)=some u) (h1:∀ y∈news,y.oneCell'=true) (h63:n+m≤maxLen) (hbytes:(n+m)*i.bytes≤140737488355328)
  (hr:(Builtin.append_ #[t,t] ty #[v,.slice (some ad) m c]).run P w = .ok v' w'):∀ b,v'.ownBlock=some b→some b=v.ownBlock∨w.heap.size≤b:=by
 have hsmall:n+m≤9223372036854775807:=by simp only [maxLen] at h63;omega
 intro b hb
 rcases hown.2 with ⟨rfl,rfl⟩|⟨b0,cap,cur,rfl,_,hg,hnc,hcm,hcs,_⟩
 ·by_cases hm:m=0
  ·subst hm
   have hn:news=[]:=List.eq_nil_of_length_eq_zero (by simpa using hl)
   subst hn
   have:(Builtin.append_ #[t,t] ty #[.slice none 0 0,.slice (some ad) 0 c]).run P w = .ok (.slice none 0 0) w:=by
    simp [Builtin.append_,run_underlying ht,sizeOf,typeInfo,hi,Builtin.lenOf,Builtin.firstCells,loadCells,loadCellsFrom]
   rw [this] at hr
   cases hr
   cases hb
  ·rw [run_append_nil (P:=P) w t ty e i z ht hi hz ad m c news hl hnews (by omega) (by omega) (by have hb:=hbytes;simp only [Nat.zero_add] at hb;omega)] at hr
   cases hr
   simp only [Value.ownBlock,Option.some.injEq] at hb
   exact .inr (by omega)
 ·by_cases hroom:n+m≤cap
  ·have hfit:n*i.size+news.length≤cur.size:=by rw [hl,hcs,← Nat.add_mul];exact Nat.mul_le_mul_right _ hroom
   rw [run_append_room (P:=P) w t ty e i ht hi b0 n cap cur hg ad m c news hl hnews h1 hroom hfit] at hr
   cases hr
   exact .inl hb.symm
  ·have holds:∀ j u,xs[j]? = some u→w.cell? ((⟨b0,0,none⟩:Addr).add j)=some u:=hown.cells (g:=b0) rfl
   rw [run_append_grow (P:=P) w t ty e i z ht hi hz ⟨b0,0,none⟩ n cap xs hown.1 holds ad m c news hl hnews (by omega) (by omega) (growslice_fits (by omega) hbytes)] at hr
   cases hr
   simp only [Value.ownBlock,Option.some.injEq] at hb
   exact .inr (by omega)
theorem append_ok {t ty e:TypeId}{i:TypeInfo}{z:Value}(ht:P.underlying t=some (.slice e))(hi:P.info? e=some i)(hz:i.zero=some z)(hzs:z.cells.size=i.size)(hpos:0<i.size)(hby:i.bytes≤2048)
  {v x:Value} {xs ys:List D} {us:List Value} {sz':Nat} (hown:w.ownsRow 0 e i.size v xs.length us) (hf:VDf g.h i.size xs us) (hx:Lies w g.h sz' ys x) (hs:sz'=i.size∨ys=[]) (hm:xs.length+ys.length≤maxLst) :
  ∃ v' w' us',(Builtin.append_ #[t,t] ty #[v,x]).run P w = .ok v' w'∧w'.ownsRow 0 e i.size v' (xs++ys).length us'∧VDf g.h i.size (xs++ys) us'∧w.grownBy w' v.ownBlock∧∀ b,v'.ownBlock=some b→some b=v.ownBlock∨w.heap.size≤b:=by
 obtain⟨A,cap,us2,rfl,h2,h3,h4,h5⟩:=hx
 have h4:VDf g.h i.size ys us2:=by
  rcases hs with rfl|rfl
  ·exact h4
  ·exact h4
 have h63:xs.length+ys.length≤maxLen:=by simp only [maxLst] at hm;simp only [maxLen];omega
 have hbytes:(xs.length+ys.length)*i.bytes≤140737488355328:=by
  have:=Nat.mul_le_mul hm hby
  simp only [maxLst] at this
  omega
 have h5':(A=none∧ys=[])∨∃ ad,A=some ad∧∀ j y,us2[j]? = some y→w.cell? (ad.add j)=some y:=by
  rcases h5 with rfl|h5
  ·cases A with
   |none=>exact .inl ⟨rfl,rfl⟩
   |some ad=>exact .inr ⟨ad,rfl,fun j y hj=>by have h4:us2=[]:=h4;subst h4;simp at hj⟩
  ·exact .inr h5
 clear h5
 rcases h5' with ⟨rfl,rfl⟩|⟨ad,rfl,h5⟩
 ·refine⟨v,w,us,run_append_none ht hi hown,by simpa using hown,by simpa using hf,grown_refl _ _,fun b hb=> .inl hb.symm⟩
 ·have hl:=VDf_length h4
  obtain⟨v',w',k1,k2,k3,_⟩:=run_append_own (P:=P) w 0 t ty e i z i.size i.bytes ht hi hz rfl rfl hzs hpos v xs.length us hown ad ys.length cap us2 hl h5 (VDf_one h4) h63 hbytes (Nat.zero_le _)
  exact⟨v',w',us++us2,k1,by rw [List.length_append];exact k2,VDf_append hf h4,k3,append_block ht hi hz hown hl h5 (VDf_one h4) h63 hbytes k1⟩
theorem op_append (S:At u p g st a w)(hpq:∀ x,p x→q x){nid:Nat}(hfr:Fresh p q nid){x y:Operand}{t:TypeId}{c:Call}(hop:o.op = .call c)(hcal:c.callee = .builtin .append)(hargs:c.args=#[x,y])(hts:c.argTypes=#[t,t])
  (h:appendK P t (evalV st x) (evalV st y) nid st K=some r):Goal u p q g st a w P o K r:=by
 have hvx:=S.ev x
 have hvy:=S.ev y
 have hux:=S.ev_uses x
 have exec:∀ v w',(Builtin.append_ #[t,t] o.type #[a.eval x,a.eval y]).run P w = .ok v w'→(execOp a.eval o).run P w = .ok (.value v) w':=by
  intro v w' e
  simp only [execOp,hop,resolve,hcal,hargs,hts]
  simp [invoke,builtin,e]
 unfold appendK at h
 split at h
 ·cases h
 ·rename_i e he
  have ht:=elemT_spec he
  simp only [] at h
  split at h
  ·cases h
  ·rename_i sz' ys hl
   obtain⟨hc,h⟩:=bif_some h
   simp only [Bool.and_eq_true,Bool.or_eq_true,List.isEmpty_iff] at hc
   obtain⟨hby,hsz⟩:=hc
   obtain⟨i,z,hi,hb1,hb2,hb3,hb4⟩:=bytesOk_spec hby
   have hsi:szT P e=i.size:=by simp [szT,hi]
   have hsz:sz'=i.size∨ys=[]:=by
    rcases hsz with hsz|hsz
    ·exact .inl (by rw [← hsi];exact (Nat.eq_of_beq_eq_true hsz).symm)
    ·exact .inr hsz
   have hlies:=lview_lies S.hp hvy hl
   split at h
   ·rename_i he2
    obtain⟨hm,h⟩:=bif_some h
    have hm:ys.length≤maxLst:=Nat.le_of_ble_eq_true hm
    rw [he2] at hvx
    have hvx:a.eval x = .slice none 0 0:=hvx
    obtain⟨v',w',us',k1,k2,k3,k4,k5⟩:=append_ok (ty:=o.type) (xs:=[]) ht hi hb3 hb4 hb2 hb1 (World.ownsRow_nil w 0 e i.size) rfl hlies hsz (by simpa using hm)
    obtain⟨g',m1,m2,m3,m4,m5⟩:=newRow_sim (e:=e) (sz:=szT P e) (xs:=ys) (v:=v') (us:=us') (h':=(newRow st nid e (szT P e) ys).h) S.hp hpq hfr.zero.1 hfr.zero.2 k4 (by rw [hsi];exact k2) (by rw [hsi];exact hb2) (by rw [hsi];exact k3)
     (fun b hb=>by cases hb) k5 (fun o' x hx hne=>by rw [newRow,setH_eq,if_neg hne] at hx;exact⟨hx,fun _ _ e=>by cases e⟩) (by rw [newRow,setH_eq];simp)
    refine Goal.res h (exec v' w' (by rw [hvx];exact k1)) m5 m1 (ext_grown k4 m1) ⟨m4.symm,?_⟩ hfr.zero.2 rfl rfl
    rcases ownsRow_form k2 with ⟨rfl,_⟩|⟨_,_,_,rfl,_⟩<;>rfl
   ·rename_i ro he2
    split at h
    ·rename_i e' sz'' xs hrow
     replace h:=bif_some h
     obtain⟨hc,h⟩:=h
     simp only [Bool.and_eq_true] at hc
     have hee:e=e':=Nat.eq_of_beq_eq_true hc.1
     have hss:szT P e=sz'':=Nat.eq_of_beq_eq_true hc.2
     replace h:=bif_some h
     obtain⟨hmb,h⟩:=h
     have hm:xs.length+ys.length≤maxLst:=Nat.le_of_ble_eq_true hmb
     subst hee;subst hss
     rw [he2] at hvx
     have hvx:a.eval x=g.hdr ro:=hvx.1
     obtain⟨us,hpos,hown,hf⟩:=S.hp.ob _ _ hrow
     rw [hsi] at hown hf
     obtain⟨v',w',us',k1,k2,k3,k4,k5⟩:=append_ok (ty:=o.type) ht hi hb3 hb4 hb2 hb1 hown hf hlies hsz hm
     have hpro:p ro:=(S.hp.use _ _ hrow).1
     have hne0:ro≠nid:=fun e=>hfr.zero.1 (e▸hpro)
     obtain⟨g',m1,m2,m3,m4,m5⟩:=newRow_sim (e:=e) (sz:=szT P e) (xs:=xs++ys) (v:=v') (us:=us') (h':=(newRow (st.setH ro none) nid e (szT P e) (xs++ys)).h) S.hp hpq hfr.zero.1 hfr.zero.2 k4 (by rw [hsi];exact k2) (by rw [hsi];exact hb2) (by rw [hsi];exact k3)
      (fun b hb=>S.hp.sep ro _ b hrow hb) k5 (fun o' x hx hne=>by
       rw [newRow,setH_eq,if_neg hne,setH_eq] at hx
       split at hx
       ·cases hx
       ·rename_i hne2
        exact⟨hx,fun b hb e=>hne2 (S.hp.inj o' ro _ _ b hx hrow hb e.symm)⟩) (by rw [newRow,setH_eq];simp)
     refine Goal.res h (exec v' w' (by rw [hvx];exact k1)) m5 m1 (ext_grown k4 m1) ⟨m4.symm,?_⟩ hfr.zero.2 rfl rfl
     rcases ownsRow_form k2 with ⟨rfl,_⟩|⟨_,_,_,rfl,_⟩<;>rfl
    ·cases h
   ·cases h
theorem VDf_bytes (h:Nat→Option Obj):∀ s:List UInt8,VDf h 1 (s.map fun b=>D.int .u8 (b.toNat:Int)) (s.map fun b=>Value.int .u8 b.toNat)
 |[]=>rfl
 |b::s=>⟨.int .u8 b.toNat,_,rfl,rfl,by intro y hy;simp [Value.cells] at hy;subst hy;rfl,rfl,VDf_bytes h s⟩
theorem VDf_app {h:Nat→Option Obj}{sz:Nat}:∀ {xs ys:List D} {us vs:List Value},VDf h sz xs us→VDf h sz ys vs→VDf h sz (xs++ys) (us++vs)
 |[],ys,us,vs,h1,h2=>by cases h1;exact h2
 |x::xs,ys,us,vs,h1,h2=>by
  obtain⟨v,r,rfl,a1,a2,a3,a4⟩:=h1
  exact⟨v,r++vs,by rw [List.append_assoc],a1,a2,a3,VDf_app a4 h2⟩
theorem append_str_block {t tu ty e:TypeId}{i:TypeInfo}(ht:P.underlying t=some (.slice e))(hu:P.underlying tu=some .string)(hi:P.info? e=some i){z:Value}(hz:i.zero=some z)(hs1:i.size=1)(hb1:i.bytes≤2048){v v':Value}{n:Nat}{xs:List Value}{s:ByteArray}
  (hown:w.ownsRow 0 e 1 v n xs) (h63:n+s.size≤maxLst) (hr:(Builtin.append_ #[t,tu] ty #[v,.string s]).run P w = .ok v' w'):∀ b,v'.ownBlock=some b→some b=v.ownBlock∨w.heap.size≤b:=by
 have hsm:n+s.size≤68719476736:=h63
 have hbb:(n+s.size)*i.bytes≤140737488355328:=by
  have h1:(n+s.size)*i.bytes≤(n+s.size)*2048:=Nat.mul_le_mul_left _ hb1
  omega
 intro b hb
 rcases hown.2 with ⟨rfl,rfl⟩|⟨b0,cap,cur,rfl,_,hg,hnc,hcm,hcs,_⟩
 ·by_cases hm:s.size=0
  ·have:(Builtin.append_ #[t,tu] ty #[.slice none 0 0,.string s]).run P w = .ok (.slice none 0 0) w:=by
    simp [Builtin.append_,run_underlying ht,run_underlying hu,sizeOf,typeInfo,hi,Builtin.lenOf,hm,Builtin.firstCells]
   rw [this] at hr
   cases hr
   cases hb
  ·rw [run_append_nil_string (P:=P) w t tu ty e i z ht hu hi hz s (by omega) (by omega) (by have hb:=hbb;simp only [Nat.zero_add] at hb;omega)] at hr
   cases hr
   simp only [Value.ownBlock,Option.some.injEq] at hb
   exact .inr (by omega)
 ·by_cases hroom:n+s.size≤cap
  ·rw [Lib.run_append_room_string (P:=P) w t tu ty e i ht hu hi hs1 b0 n cap cur hg s hroom (by omega)] at hr
   cases hr
   exact .inl hb.symm
  ·have holds:∀ j u,xs[j]? = some u→w.cell? ((⟨b0,0,none⟩:Addr).add j)=some u:=hown.cells (g:=b0) rfl
   rw [Lib.run_append_grow_string (P:=P) w t tu ty e i z ht hu hi hz ⟨b0,0,none⟩ n cap xs (by have:=hown.1;rw [hs1];exact this) holds s (by omega) (by omega) (growslice_fits (by omega) hbb)] at hr
   cases hr
   simp only [Value.ownBlock,Option.some.injEq] at hb
   exact .inr (by omega)
theorem byteInfo_spec {e:TypeId}(h:byteInfo P e=true):∃ i,P.info? e=some i∧i.size=1∧i.bytes=1∧i.zero=some (.int .u8 0):=by
 unfold byteInfo at h
 split at h
 ·rename_i i hi
  simp only [Bool.and_eq_true] at h
  obtain⟨⟨h1,h2⟩,h3⟩:=h
  split at h3
  ·rename_i n hz
   have:n=0:=by simpa using h3
   subst this
   exact⟨i,hi,Nat.eq_of_beq_eq_true h1,Nat.eq_of_beq_eq_true h2,hz⟩
  ·cases h3
 ·cases h
theorem op_appendS (S:At u p g st a w)(hpq:∀ x,p x→q x){nid:Nat}(hfr:Fresh p q nid){x y:Operand}{t tu:TypeId}{s:List UInt8}{c:Call}(hop:o.op = .call c)(hcal:c.callee = .builtin .append)(hargs:c.args=#[x,y])(hts:c.argTypes=#[t,tu])
  (hu:P.underlying tu=some .string) (hy:evalV st y = .d (.str s)) (h:appendSK P t (evalV st x) s nid st K=some r):Goal u p q g st a w P o K r:=by
 have hvx:=S.ev x
 have hvy:=S.ev y
 rw [hy] at hvy
 obtain⟨sb,hsb,hsl⟩:=hvy
 have exec:∀ v w',(Builtin.append_ #[t,tu] o.type #[a.eval x,a.eval y]).run P w = .ok v w'→(execOp a.eval o).run P w = .ok (.value v) w':=by
  intro v w' e
  simp only [execOp,hop,resolve,hcal,hargs,hts]
  simp [invoke,builtin,e]
 unfold appendSK at h
 split at h
 ·rename_i e ro he he2
  have ht:=elemT_spec he
  split at h
  ·rename_i e' sz xs hrow
   replace h:=bif_some h
   obtain⟨hc,h⟩:=h
   simp only [Bool.and_eq_true] at hc
   obtain⟨⟨⟨⟨c1,c2⟩,c3⟩,c4⟩,hby⟩:=hc
   have hee:e=e':=Nat.eq_of_beq_eq_true c1
   have hss:sz=1:=Nat.eq_of_beq_eq_true c2
   have hse:szT P e=1:=Nat.eq_of_beq_eq_true c3
   have hm:xs.length+s.length≤maxLst:=Nat.le_of_ble_eq_true c4
   have hm':xs.length+s.length≤68719476736:=hm
   subst hee;subst hss
   obtain⟨i,hi,hsi,hb1,hb3⟩:=byteInfo_spec hby
   rw [he2] at hvx
   have hvx:a.eval x=g.hdr ro:=hvx.1
   obtain⟨us,hpos,hown,hf⟩:=S.hp.ob _ _ hrow
   have hsz:sb.size=s.length:=by rw [← hsl,Array.length_toList];rfl
   have hsc:Lib.strCells sb=s.map fun b=>Value.int .u8 b.toNat:=by rw [Lib.strCells,hsl]
   obtain⟨v',w',k1,k2,k4⟩:∃ v' w',(Builtin.append_ #[t,tu] o.type #[g.hdr ro,.string sb]).run P w = .ok v' w'∧w'.ownsRow 0 e 1 v' (xs.length+sb.size) (us++Lib.strCells sb)∧w.grownBy w' (g.hdr ro).ownBlock:=by
    obtain⟨v',w',k1,k2,k3,_⟩:=Lib.run_append_own_string (P:=P) w 0 t tu o.type e i ht hu hi hb3 hsi hb1 (g.hdr ro) xs.length us hown sb (by simp only [maxLen];omega) (by omega) (Nat.zero_le _)
    exact⟨v',w',k1,k2,k3⟩
   have k5:=append_str_block ht hu hi hb3 hsi (by omega) hown (by simp only [maxLst];omega) k1
   have hpro:p ro:=(S.hp.use _ _ hrow).1
   have hne0:ro≠nid:=fun e=>hfr.zero.1 (e▸hpro)
   obtain⟨g',m1,m2,m3,m4,m5⟩:=newRow_sim (e:=e) (sz:=1) (xs:=xs++s.map fun b=>D.int .u8 (b.toNat:Int)) (v:=v') (us:=us++Lib.strCells sb) (h':=(newRow (st.setH ro none) nid e 1 (xs++s.map fun b=>D.int .u8 (b.toNat:Int))).h) S.hp hpq hfr.zero.1 hfr.zero.2 k4
    (by rw [List.length_append,List.length_map,← hsz];exact k2) (by omega) (by rw [hsc];exact VDf_app hf (VDf_bytes _ s))
    (fun b hb=>S.hp.sep ro _ b hrow hb) k5 (fun o' x hx hne=>by
     rw [newRow,setH_eq,if_neg hne,setH_eq] at hx
     split at hx
     ·cases hx
     ·rename_i hne2
      exact⟨hx,fun b hb e=>hne2 (S.hp.inj o' ro _ _ b hx hrow hb e.symm)⟩) (by rw [newRow,setH_eq];simp)
   refine Goal.res h (exec v' w' (by rw [hvx,hsb];exact k1)) m5 m1 (ext_grown k4 m1) ⟨m4.symm,?_⟩ hfr.zero.2 rfl rfl
   rcases ownsRow_form k2 with ⟨rfl,_⟩|⟨_,_,_,rfl,_⟩<;>rfl
  ·cases h
 ·cases h
theorem op_make (S:At u p g st a w)(hpq:∀ x,p x→q x){nid:Nat}(hfr:Fresh p q nid){t:TypeId}{x y:Operand}(ho:o.op = .makeSlice t x y)
  (h:makeK P t (evalV st x) (evalV st y) nid st K=some r):Goal u p q g st a w P o K r:=by
 have hvx:=S.ev x
 have hvy:=S.ev y
 unfold makeK at h
 split at h
 ·rename_i e n m he hx hy
  have ht:=elemT_spec he
  rw [hx] at hvx
  rw [hy] at hvy
  have hvx:=VV_int hvx
  have hvy:=VV_int hvy
  split at h
  ·rename_i z hz
   obtain⟨i,z',hi',hzv,hV⟩:=zeroN_spec hz
   obtain⟨hc,h⟩:=bif_some h
   simp only [Bool.and_eq_true] at hc
   obtain⟨i2,z2,hi,hb1,hb2,hb3,hb4⟩:=bytesOk_spec hc.1
   rw [hi] at hi'
   cases hi'
   rw [hb3] at hzv
   cases hzv
   obtain⟨hc2,h⟩:=bif_some h
   simp only [Bool.and_eq_true,decide_eq_true_eq] at hc2
   obtain⟨⟨h0,h1⟩,h2⟩:=hc2
   have hsi:szT P e=i.size:=by simp [szT,hi]
   have hmn:m.toNat≤maxLst:=by omega
   have hbytes:(i.bytes:Int)*m≤281474976710656:=by
    have:i.bytes*m.toNat≤2048*maxLst:=Nat.mul_le_mul hb1 hmn
    have h3:((i.bytes*m.toNat:Nat):Int)≤281474976710656:=by simp only [maxLst] at this;omega
    rw [Int.natCast_mul] at h3
    rwa [Int.toNat_of_nonneg (by omega)] at h3
   have hrun:=run_make (P:=P) w t e i z' ht hi hb3 .i64 .i64 n m h0 h1 hbytes (by simp only [maxLst] at h2;omega)
   obtain⟨d1,d2⟩:=okD_one hc.2 (hV g.h)
   have hmade:(madeCells z'.cells (m.toNat*i.size)).toList=(List.replicate m.toNat z'.cells.toList).flatten:=by
    have:=madeCells_flat z'.cells (by rw [hb4];exact hb2) m.toNat
    rwa [hb4] at this
   have hf:=VDf_replicate hb4 d1 (hV g.h) n.toNat
   have hown:(w.alloc (.cells (madeCells z'.cells (m.toNat*i.size)) e)).ownsRow 0 e i.size (.slice (some ⟨w.heap.size,0,none⟩) n.toNat m.toNat) n.toNat (List.replicate n.toNat z'.cells.toList).flatten:=by
    refine⟨by simp [hb4],.inr ⟨_,_,_,rfl,Nat.zero_le _,heap_alloc_new w _,by omega,by simp only [maxLst] at hmn;simp only [maxLen];omega,size_madeCells _ _,?_⟩⟩
    rw [hmade]
    have e1:List.replicate m.toNat z'.cells.toList=List.replicate n.toNat z'.cells.toList++List.replicate (m.toNat-n.toNat) z'.cells.toList:=by
     rw [List.replicate_append_replicate];congr 1;omega
    rw [e1,List.flatten_append]
    have e2:(List.replicate n.toNat z'.cells.toList).flatten.length=n.toNat*i.size:=by simp [hb4]
    rw [← e2]
    exact List.take_left
   obtain⟨g',m1,m2,m3,m4,m5⟩:=newRow_sim (e:=e) (sz:=szT P e) (xs:=List.replicate n.toNat z) (v:= .slice (some ⟨w.heap.size,0,none⟩) n.toNat m.toNat) (us:=(List.replicate n.toNat z'.cells.toList).flatten)
    (h':=(newRow st nid e (szT P e) (List.replicate n.toNat z)).h) S.hp hpq hfr.zero.1 hfr.zero.2 (World.grownBy_alloc w _ none) (by rw [hsi,List.length_replicate];exact hown) (by rw [hsi];exact hb2) (by rw [hsi];exact hf)
    (fun b hb=>by cases hb) (fun b hb=>by simp only [Value.ownBlock,Option.some.injEq] at hb;exact .inr (by omega)) (fun o' x hx hne=>by rw [newRow,setH_eq,if_neg hne] at hx;exact⟨hx,fun _ _ e=>by cases e⟩) (by rw [newRow,setH_eq];simp)
   refine Goal.res h (v:= .slice (some ⟨w.heap.size,0,none⟩) n.toNat m.toNat) ?_ m5 m1 (ext_alloc m1) ⟨m4.symm,rfl⟩ hfr.zero.2 rfl rfl
   simp only [execOp,ho,hvx,hvy]
   simp [hrun]
  ·cases h
 ·cases h
theorem op_makeN (S:At u p g st a w)(hpq:∀ x,p x→q x){nid:Nat}(hfr:Fresh p q nid){t:TypeId}{x y:Operand}(ho:o.op = .makeSlice t x y)
  (h:makeNK P t (evalV st x) (evalV st y) nid st K=some r):Goal u p q g st a w P o K r:=by
 have hvx:=S.ev x
 have hvy:=S.ev y
 unfold makeNK at h
 split at h
 ·rename_i e ie n m he hx hy
  have he:elemT P t=some e:=by
   unfold nstT at he
   split at he
   ·rename_i e' he'
    split at he
    ·cases he;exact he'
    ·cases he
   ·cases he
  have ht:=elemT_spec he
  rw [hx] at hvx
  rw [hy] at hvy
  have hvx:=VV_int hvx
  have hvy:=VV_int hvy
  obtain⟨hc,h⟩:=bif_some h
  simp only [Bool.and_eq_true] at hc
  obtain⟨⟨⟨⟨c1,c2⟩,c3⟩,c4⟩,c5⟩:=hc
  obtain⟨i,z',hi,hb1,hb2,hb3,hb4⟩:=bytesOk_spec c1
  have hz:z' = .slice none 0 0:=by
   unfold isNilZ at c2
   rw [hi] at c2
   simp only [hb3] at c2
   split at c2
   ·rename_i k;cases k;rfl
   ·cases c2
  subst hz
  have c3:szT P e=1:=Nat.eq_of_beq_eq_true c3
  have c5:0<szT P ie:=by have h1:Nat.ble 1 (szT P ie)=true:=c5;exact Nat.le_of_ble_eq_true h1
  obtain⟨hc2,h⟩:=bif_some h
  simp only [Bool.and_eq_true,decide_eq_true_eq] at hc2
  obtain⟨⟨h0,h1⟩,h2⟩:=hc2
  have hsi:i.size=1:=by rw [← c3];simp [szT,hi]
  have hmn:m.toNat≤maxLst:=by omega
  have hbytes:(i.bytes:Int)*m≤281474976710656:=by
   have:i.bytes*m.toNat≤2048*maxLst:=Nat.mul_le_mul hb1 hmn
   have h3:((i.bytes*m.toNat:Nat):Int)≤281474976710656:=by simp only [maxLst] at this;omega
   rw [Int.natCast_mul] at h3
   rwa [Int.toNat_of_nonneg (by omega)] at h3
  have hrun:=run_make (P:=P) w t e i (.slice none 0 0) ht hi hb3 .i64 .i64 n m h0 h1 hbytes (by simp only [maxLst] at h2;omega)
  have hmade:(madeCells (Value.slice none 0 0).cells (m.toNat*i.size)).toList=List.replicate m.toNat (Value.slice none 0 0):=by
   have:=madeCells_flat (Value.slice none 0 0).cells (by rw [hb4];exact hb2) m.toNat
   rw [hb4] at this
   rw [this]
   simp [Value.cells]
  have hown:(w.alloc (.cells (madeCells (Value.slice none 0 0).cells (m.toNat*i.size)) e)).ownsRow 0 e 1 (.slice (some ⟨w.heap.size,0,none⟩) n.toNat m.toNat) n.toNat (List.replicate n.toNat (Value.slice none 0 0)):=by
   refine⟨by simp,.inr ⟨_,_,_,rfl,Nat.zero_le _,heap_alloc_new w _,by omega,by simp only [maxLst] at hmn;simp only [maxLen];omega,by rw [size_madeCells,hsi],?_⟩⟩
   rw [hmade,Nat.mul_one,List.take_replicate]
   congr 1
   omega
  let g':G:=⟨g.h,g.blk,fun x=>if x=nid then .slice (some ⟨w.heap.size,0,none⟩) n.toNat m.toNat else g.hdr x,fun x i=>if x=nid then none else g.ihdr x i⟩
  have hd:g'.hdr nid = .slice (some ⟨w.heap.size,0,none⟩) n.toNat m.toNat:=if_pos rfl
  have hin:∀ i,g'.ihdr nid i=none:=fun i=>if_pos rfl
  have ne:∀ x,p x→x≠nid:=fun x hx e=>hfr.zero.1 (e▸hx)
  have ha:Agree p g g':=⟨fun _ _ k=>k,fun _ _=>rfl,fun x hx=>if_neg (ne x hx),fun x hx=>funext fun i=>(if_neg (ne x hx):(if x=nid then none else g.ihdr x i)=_)⟩
  have S2:SimH u q g' (st.setH nid (some (.nst e ie (szT P ie) (List.replicate n.toNat (.nils ie (szT P ie)))))).h (w.alloc (.cells (madeCells (Value.slice none 0 0).cells (m.toNat*i.size)) e)):=by
   refine S.hp.update ha rfl none (fun k hk _=>heap_alloc_old w _ hk) (fun b hb=>by cases hb) hpq nid ?_ ?_ fun x hx i=>if_neg hx
   ·intro o' x hx hne
    rw [setH_eq,if_neg hne] at hx
    exact⟨hx,fun b _ e=>by cases e⟩
   ·intro x hx
    rw [setH_eq,if_pos rfl] at hx
    cases hx
    refine⟨⟨c5,⟨_,by rw [hd,List.length_replicate];exact hown,fun j x hx=>?_⟩,fun i v b _ hv=>by rw [hin] at hv;cases hv⟩,fun b hb=>?_,hfr.zero.2,trivial⟩
    ·obtain⟨hj,hx⟩:=List.getElem?_eq_some_iff.1 hx
     rw [List.length_replicate] at hj
     rw [List.getElem_replicate] at hx
     exact⟨.slice none 0 0,by simp [hj],.inl ⟨_,_,hx.symm,rfl,hin j⟩⟩
    ·rcases hb with hb|⟨i,v,_,hv,_⟩
     ·rw [hd] at hb
      simp only [Value.ownBlock,Option.some.injEq] at hb
      exact .inr (by omega)
     ·rw [hin] at hv;cases hv
  refine Goal.res h (v:= .slice (some ⟨w.heap.size,0,none⟩) n.toNat m.toNat) ?_ S2 ha (ext_alloc ha) ⟨hd.symm,rfl⟩ hfr.zero.2 rfl rfl
  simp only [execOp,ho,hvx,hvy]
  simp [hrun]
 ·cases h
theorem op_copy (S:At u p g st a w)(hpq:∀ x,p x→q x){x y:Operand}{ts:Array TypeId}{c:Call}(hop:o.op = .call c)(hcal:c.callee = .builtin .copy)(hargs:c.args=#[x,y])(hts:c.argTypes=ts)
  {t t':TypeId} {e:TypeId} (ht:ts=#[t,t']) (he:elemT P t=some e) (hok:tOk P e=true)
  (h:copyK P (evalV st x) (evalV st y) st K=some r) (hsz:szT P e=1):Goal u p q g st a w P o K r:=by
 have hvx:=S.ev x
 have hvy:=S.ev y
 have hux:=S.ev_uses x
 have ht':=elemT_spec he
 obtain⟨_,info,_,hinfo,_,hsi⟩:=tOk_spec hok
 have exec:∀ v w',(Builtin.copy_ #[t,t'] o.type #[a.eval x,a.eval y]).run P w = .ok v w'→(execOp a.eval o).run P w = .ok (.value v) w':=by
  intro v w' e
  simp only [execOp,hop,resolve,hcal,hargs,hts,ht]
  simp [invoke,builtin,e]
 unfold copyK at h
 split at h
 ·rename_i ro hx
  rw [hx] at hvx hux
  split at h
  ·rename_i e' sz xs sz' ys hrow hl
   obtain⟨hc,h⟩:=bif_some h
   simp only [Bool.and_eq_true,Bool.or_eq_true,List.isEmpty_iff] at hc
   obtain⟨⟨hc1,hc2⟩,_⟩:=hc
   have hsz1:sz=1:=Nat.eq_of_beq_eq_true hc1
   have hvx:a.eval x=g.hdr ro:=hvx.1
   obtain⟨A,cap,us2,hvy',h2,h3,h4,h5⟩:=lview_lies S.hp hvy hl
   have h4:VDf g.h 1 ys us2:=by
    rcases hc2 with k|rfl
    ·have:sz=sz':=Nat.eq_of_beq_eq_true k
     rw [hsz1] at this;subst this;exact h4
    ·exact h4
   have hl2:=VDf_length h4
   have hlx:us2.length=ys.length:=by omega
   have hsize:(P.info? e).map (·.size)=some 1:=by simp [hinfo];omega
   have hzero:min ys.length xs.length=0→(Builtin.copy_ #[t,t'] o.type #[a.eval x,a.eval y]).run P w = .ok (goInt (min ys.length xs.length:Nat)) w→Goal u p q g st a w P o K r:=by
    intro hm hr
    have hst:st.setH ro (some (.row e' sz (ys.take xs.length++xs.drop ys.length) false))=st:=by
     have hxy:ys.take xs.length++xs.drop ys.length=xs:=by
      rcases Nat.eq_zero_or_pos ys.length with h0|h0
      ·have:ys=[]:=List.eq_nil_of_length_eq_zero h0
       subst this;simp
      ·have:xs=[]:=List.eq_nil_of_length_eq_zero (by omega)
       subst this;simp
     rw [hxy]
     have:(st.setH ro (some (.row e' sz xs false))).h=st.h:=by
      funext z
      rw [setH_eq]
      split
      ·rename_i k;subst k;exact hrow.symm
      ·rfl
     show (⟨st.t,(st.setH ro (some (.row e' sz xs false))).h,st.m⟩:St)=st
     rw [this]
    rw [hst] at h
    exact Goal.val S hpq h (exec _ _ hr) rfl trivial
   by_cases hm:min ys.length xs.length=0
   ·refine hzero hm ?_
    rw [hvx,hvy',hm]
    rcases hdr_form S.hp hrow with ⟨k1,k2⟩|⟨b,cap',k1,_⟩
    ·rw [k1]
     exact run_copy_none (P:=P) w t t' o.type e none A 0 0 ys.length cap ht' hsize (by simp [Nat.min_def] )
    ·rw [k1]
     exact run_copy_none (P:=P) w t t' o.type e _ A xs.length cap' ys.length cap ht' hsize hm
   ·rcases h5 with rfl|⟨ad,rfl,h5⟩
    ·simp at hm
    ·rcases hdr_form S.hp hrow with ⟨k1,k2⟩|⟨b,cap',k1,k2,k3⟩
     ·rw [k2] at hm;simp at hm
     ·have hbk:(g.hdr ro).ownBlock=some b:=by rw [k1];rfl
      obtain⟨cap2,cur,q1,q2,q3,q4,q5,q6,q7⟩:=row_form S.hp hrow hbk
      have hcl:(us2.take xs.length).length=Nat.min ys.length xs.length:=by
       simp only [List.length_take,hlx,Nat.min_def];split<;>split<;>omega
      have hcur:cur.size=cap2:=by rw [q6,hsz1];omega
      have hle:(us2.take xs.length).length≤xs.length:=by simp only [List.length_take];omega
      have hrun:=run_copy_row (P:=P) w t t' o.type e b 0 xs.length cap' ad ys.length cap cur e' (us2.take xs.length) ht' hsize q3 hcl (fun j v hj=>by
       rw [List.getElem?_take] at hj
       split at hj
       ·exact h5 j v hj
       ·cases hj) (by omega) (fun v hv=>VDf_one h4 v (List.mem_of_mem_take hv))
      rw [← hvy',← k1,← hvx] at hrun
      have hset:(cur.toList.take 0++us2.take xs.length++cur.toList.drop (0+(us2.take xs.length).length))=setAt cur.toList 0 (us2.take xs.length):=by
       rw [setAt_eq _ _ _ (by simp only [Array.length_toList];omega)]
      rw [hset] at hrun
      have hf':VDf g.h sz (ys.take xs.length++xs.drop ys.length) ((setAt cur.toList 0 (us2.take xs.length)).take (xs.length*sz)):=by
       rw [setAt_take,hsz1,Nat.mul_one]
       rw [hsz1,Nat.mul_one] at q7
       have hlq:=VDf_length q7
       rw [setAt_eq _ _ _ (by omega)]
       simp only [List.take_zero,List.nil_append,Nat.zero_add]
       have e1:=VDf_take xs.length h4
       rw [Nat.mul_one] at e1
       refine VDf_append e1 ?_
       have e2:=VDf_drop ys.length q7
       rw [Nat.mul_one] at e2
       rcases Nat.le_total ys.length xs.length with hle'|hle'
       ·have:(us2.take xs.length).length=ys.length:=by simp only [List.length_take];omega
        rw [this];exact e2
       ·have:xs.drop ys.length=[]:=List.drop_eq_nil_of_le hle'
        rw [this]
        have:(us2.take xs.length).length=xs.length:=by simp only [List.length_take];omega
        rw [this]
        show _=[]
        exact List.drop_eq_nil_of_le (by omega)
      have hsim:=row_update (h':=(st.setH ro (some (.row e' sz (ys.take xs.length++xs.drop ys.length) false))).h) (c':=(setAt cur.toList 0 (us2.take xs.length)).toArray) S.hp hrow hbk q3 (by simp [setAt_length])
       (by simp;omega) (by simpa using hf') (fun x=>setH_eq _ _ _ _)
      refine Goal.res h (v:=goInt (min ys.length xs.length:Nat)) (exec _ _ ?_) (hsim.more hpq) (Agree.refl p g) (ext_setRow (Agree.refl p g) _ _) rfl trivial rfl rfl
      rw [hrun,hcl]
  ·cases h
 ·cases h
end
end Go.AE
namespace Go.AE
open Go.RowKit
theorem F2.modify {α β:Type}{r:α→β→Prop}{x:α}{f:β→β}:∀ {zs:List α} {bs:List β} {j:Nat},F2 r zs bs→(∀ b,bs[j]? = some b→r x (f b))→F2 r (zs.set j x) (bs.modify j f)
 |[],_,j,h,_=>by cases h;cases j<;>exact .nil
 |a::zs,_,0,h,hf=>by
  cases h with
  |cons h1 h2=>exact .cons (hf _ rfl) h2
 |a::zs,_,j+1,h,hf=>by
  cases h with
  |cons h1 h2=>exact .cons h1 (F2.modify h2 fun b hb=>hf b (by simpa using hb))
section
variable {hh:Nat→Option Obj} {P:Program} {w:World}
theorem key_eq {kt:LTy}(hk:keyOk kt=true){a b:D}(ha:okLeaf kt a=true)(hb:okLeaf kt b=true){x y:Value}(hx:VD hh a x)(hy:VD hh b y):eqLeaf a b=true↔x=y:=by
 cases kt<;>simp only [keyOk,Bool.false_eq_true] at hk
 ·cases a<;>simp only [okLeaf,Bool.false_eq_true] at ha
  cases b<;>simp only [okLeaf,Bool.false_eq_true] at hb
  have hx:x=_:=hx
  have hy:y=_:=hy
  subst hx hy
  simp [eqLeaf]
 ·cases a<;>simp only [okLeaf,Bool.false_eq_true] at ha
  cases b<;>simp only [okLeaf,Bool.false_eq_true] at hb
  have hx:x=_:=hx
  have hy:y=_:=hy
  subst hx hy
  have ha:=of_decide_eq_true ha
  have hb:=of_decide_eq_true hb
  subst ha hb
  simp [eqLeaf]
 ·cases a<;>simp only [okLeaf,Bool.false_eq_true] at ha
  cases b<;>simp only [okLeaf,Bool.false_eq_true] at hb
  obtain⟨s,rfl,rfl⟩:=hx
  obtain⟨s',rfl,rfl⟩:=hy
  simp only [eqLeaf,beq_iff_eq,Value.string.injEq]
  constructor
  ·intro e
   cases s;cases s'
   congr 1
   exact Array.ext' e
  ·intro e;subst e;rfl
theorem key_is {k:TypeId}(hk:keyOk (leafT P k)=true):∃ d,P.underlying k=some d∧∀ (a:D) (x:Value),okLeaf (leafT P k) a=true→VD hh a x→MapKept.IsKey d x:=by
 unfold leafT at hk ⊢
 split at hk<;>simp only [keyOk,Bool.false_eq_true] at hk
 ·rename_i h
  refine⟨_,h,fun a x ha hx=>?_⟩
  try simp only [h] at ha
  cases a<;>simp only [okLeaf,Bool.false_eq_true] at ha
  have hx:x=_:=hx
  subst hx;trivial
 ·rename_i k' h
  refine⟨_,h,fun a x ha hx=>?_⟩
  try simp only [h] at ha
  cases a<;>simp only [okLeaf,Bool.false_eq_true] at ha
  have hx:x=_:=hx
  subst hx
  exact (of_decide_eq_true ha).symm
 ·rename_i h
  refine⟨_,h,fun a x ha hx=>?_⟩
  try simp only [h] at ha
  cases a<;>simp only [okLeaf,Bool.false_eq_true] at ha
  obtain⟨s,rfl,_⟩:=hx
  trivial
def Ent (hh:Nat→Option Obj)(kt:LTy)(x:D)(m:MapEntry):Prop:=VD hh (x.at_ 0) m.key∧VD hh (x.at_ 1) m.val∧okLeaf kt (x.at_ 0)=true
theorem findM_spec {k:TypeId}{d:TypeDesc}(hk:keyOk (leafT P k)=true)(hd:∀ (a:D) (x:Value),okLeaf (leafT P k) a=true→VD hh a x→MapKept.IsKey d x){kd:D}{key:Value}(hkd:okLeaf (leafT P k) kd=true)(hkey:VD hh kd key) :
  ∀ (xs:List D) (es:List MapEntry) (i:Nat),F2 (Ent hh (leafT P k)) xs es→
   (findM kd xs=none∧Instr.findNow d key es i=some none)∨∃ j x e,findM kd xs=some j∧Instr.findNow d key es i=some (some (i+j,e.val))∧xs[j]? = some x∧es[j]? = some e∧e.key=key∧Ent hh (leafT P k) x e
 |[],_,i,h=>by cases h;exact .inl ⟨rfl,rfl⟩
 |x::xs,_,i,h=>by
  cases h with
  |@cons _ e _ es h1 h2=>
   obtain⟨r,hr,hiff⟩:=MapKept.sameNow_of_keys (hd kd key hkd hkey) (hd _ _ h1.2.2 h1.1)
   have he:=key_eq hk hkd h1.2.2 hkey h1.1
   cases r with
   |true=>
    have e1:=hiff.1 rfl
    exact .inr ⟨0,x,e,by simp only [findM,he.2 e1,cond_true],by simp [Instr.findNow,hr],rfl,rfl,e1.symm,h1⟩
   |false=>
    have hne:key≠e.key:=fun q=>by have:=hiff.2 q;cases this
    have hb:eqLeaf kd (x.at_ 0)=false:=by
     cases hb:eqLeaf kd (x.at_ 0) with
     |false=>rfl
     |true=>exact absurd (he.1 hb) hne
    rcases findM_spec hk hd hkd hkey xs es (i+1) h2 with ⟨k1,k2⟩|⟨j,x',e',k1,k2,k3,k4,k5,k6⟩
    ·exact .inl ⟨by simp only [findM,hb,k1,cond_false],by simp [Instr.findNow,hr,k2]⟩
    ·exact .inr ⟨j+1,x',e',by simp only [findM,hb,k1,cond_false],by simp [Instr.findNow,hr,k2];omega,by simpa using k3,by simpa using k4,k5,k6⟩
theorem run_zero' {e:TypeId}{i:TypeInfo}{z:Value}(hi:P.info? e=some i)(hz:i.zero=some z):(zeroValue e).run P w = .ok z w:=by
 simp [zeroValue,typeInfo,hi,hz]
def found (z:Value):Option (Nat×Value)→Value
 |some (_,v)=>v
 |none=>z
theorem run_lookup {t k e:TypeId}{d:TypeDesc}(ht:P.underlying t=some (.map k e))(hd:P.underlying k=some d){key m z:Value}(hkey:MapKept.IsKey d key){es:Array MapEntry}(hm:(m = .map none∧es=#[])∨∃ r clock,m = .map (some r)∧w.heap[r]? = some (.map es clock))
  {f:Option (Nat×Value)} (hf:Instr.findNow d key es.toList 0=some f) (hz:(zeroValue e).run P w = .ok z w) (ok:Bool) :
  (Instr.lookup t m key ok).run P w = .ok (if ok then .tuple #[found z f,.bool f.isSome] else found z f) w:=by
 have hc:=MapKept.run_checkKey (w:=w) hd hkey es.isEmpty 9999
 have hk:=MapKept.run_findKey (w:=w) hd hf
 rcases hm with ⟨rfl,rfl⟩|⟨r,clock,rfl,hb⟩
 ·simp [Instr.lookup,run_underlying ht] at hc hk ⊢
  simp only [hc,hk,Result.andThen_ok]
  cases f with
  |none=>simp [hz,found]
  |some f=>simp [found]
 ·simp only [Instr.lookup,Sem.run_bind,run_underlying ht,Result.andThen_ok,MapKept.run_getObj_map hb,Sem.run_pure,hc,hk]
  cases f with
  |none=>simp [hz,found]
  |some f=>simp [found]
theorem stays {d:TypeDesc}{key:Value}(hk:MapKept.IsKey d key):(Instr.keyThatStays key key).run P w = .ok key w:=by
 have:Instr.sameBits 10000 key key=true:=by
  cases d<;>cases key<;>simp_all [MapKept.IsKey,Instr.sameBits,MapKept.bytes_beq]
 simp [Instr.keyThatStays,this]
def stored (es:List MapEntry)(clock:Nat)(key val:Value):Option (Nat×Value)→List MapEntry
 |some (i,_)=>es.modify i fun e=>{ e with key,val }
 |none=>es++[{ key,val,born:=clock }]
def Born (es:Array MapEntry)(clock:Nat):Prop:=clock=es.size∧∀ j (m:MapEntry),es[j]? = some m→m.born=j
theorem Born.push {es:Array MapEntry}{clock:Nat}(h:Born es clock)(key val:Value):Born (es.push { key,val,born:=clock }) (clock+1):=by
 obtain⟨h1,h2⟩:=h
 refine⟨by simp [h1],fun j m hm=>?_⟩
 rw [Array.getElem?_push] at hm
 split at hm
 ·rename_i e;cases hm;rw [e,h1]
 ·exact h2 j m hm
theorem Born.modify {es:Array MapEntry}{clock:Nat}(h:Born es clock)(i:Nat){f:MapEntry→MapEntry}(hf:∀ e,(f e).born=e.born):Born (es.modify i f) clock:=by
 obtain⟨h1,h2⟩:=h
 refine⟨by simp [h1],fun j m hm=>?_⟩
 rw [Array.getElem?_modify] at hm
 split at hm
 ·rename_i e;subst e
  obtain⟨e',he,rfl⟩:=Option.map_eq_some_iff.1 hm
  rw [hf,h2 _ _ he]
 ·exact h2 j m hm
theorem run_mapUpdate {t k e:TypeId}{d:TypeDesc}(ht:P.underlying t=some (.map k e))(hd:P.underlying k=some d){key val:Value}(hkey:MapKept.IsKey d key){r clock:Nat}{es:Array MapEntry}(hb:w.heap[r]? = some (.map es clock))
  {f:Option (Nat×Value)} (hf:Instr.findNow d key es.toList 0=some f) (hfk:∀ i v,f=some (i,v)→∃ x,es[i]? = some x∧x.key=key) :
  ∃ es' clock',(Instr.mapUpdate t (.map (some r)) key val).run P w = .ok () { w with heap:=w.heap.setIfInBounds r (.map es' clock') }∧
   es'.toList=stored es.toList clock key val f∧(Born es clock→Born es' clock'):=by
 have hc:=MapKept.run_checkKey (w:=w) hd hkey false 9999
 have hk:=MapKept.run_findKey (w:=w) hd hf
 cases f with
 |none=>
  refine⟨es.push { key,val,born:=clock },clock+1,?_,by simp [stored],fun h=>h.push _ _⟩
  simp [Instr.mapUpdate,run_underlying ht,MapKept.run_getObj_map hb,hc,hk,MapKept.run_setObj_map _ hb]
 |some f=>
  obtain⟨i,v⟩:=f
  obtain⟨x,hx,hxk⟩:=hfk i v rfl
  refine⟨es.modify i fun e=>{ e with key,val },clock,?_,by simp [stored],fun h=>h.modify _ fun _=>rfl⟩
  have e1:((es[i]?).map (·.key)).getD key=key:=by rw [hx];simpa using hxk
  simp only [Instr.mapUpdate,Sem.run_bind,run_underlying ht,Result.andThen_ok,MapKept.run_getObj_map hb,hc,hk,e1,stays hkey,MapKept.run_setObj_map _ hb]
end
section
variable {u:Nat→Option Obj} {p q:Nat→Prop} {g:G} {st:St} {a:Act} {w:World} {P:Program} {o:Oper} {R:Type} {K:V→St→Option R} {r:R}
theorem mapT_spec {t k e:TypeId}(h:mapT P t=some (k,e)):P.underlying t=some (.map k e):=by
 unfold mapT at h
 split at h
 ·rename_i k' e' he;cases h;exact he
 ·cases h
theorem op_makeMap (S:At u p g st a w)(hpq:∀ x,p x→q x){nid:Nat}(hfr:Fresh p q nid){t:TypeId}(ho:o.op = .makeMap t none)
  (h:newMapK P t nid st K=some r):Goal u p q g st a w P o K r:=by
 unfold newMapK at h
 split at h
 ·rename_i k e ht
  obtain⟨hk,h⟩:=bif_some h
  have hnp:=hfr.zero.1
  have hqo:=hfr.zero.2
  have ha:Agree p g ⟨g.h,fun x=>if x=nid then w.heap.size else g.blk x,g.hdr,g.ihdr⟩:=⟨fun _ _ h=>h,fun x hx=>by
   have:x≠nid:=fun e=>hnp (e▸hx)
   simp [this],fun _ _=>rfl,fun _ _=>rfl⟩
  refine Goal.res h (v:= .map (some w.heap.size)) (w':=w.alloc (.map #[] 0)) (by simp [execOp,ho,Instr.makeMap]) ?_ ha (ext_alloc ha) ?_ hqo rfl rfl
  ·refine S.hp.update ha rfl none (fun k hk _=>heap_alloc_old w _ hk) (fun b hb=>by cases hb) hpq nid ?_ ?_
   ·intro o' x hx hne
    rw [setH_eq,if_neg hne] at hx
    exact⟨hx,fun b _ e=>by cases e⟩
   ·intro x hx
    rw [setH_eq,if_pos rfl] at hx
    simp only [Option.some.injEq] at hx
    subst hx
    refine⟨⟨#[],0,?_,.nil,rfl,fun j m hm=>by simp at hm⟩,?_,hqo,trivial⟩
    ·simp only [if_true];exact heap_alloc_new w _
    ·intro b hb
     simp only [obk,if_true] at hb
     exact .inr (by omega)
  ·show Value.map _ = .map (some (if nid=nid then w.heap.size else g.blk nid))
   rw [if_pos rfl]
 ·cases h
theorem op_lookup (S:At u p g st a w)(hpq:∀ x,p x→q x){t:TypeId}{x i:Operand}{ok:Bool}(ho:o.op = .lookup t x i ok)
  (h:lookupK P t (evalV st x) (evalV st i) ok st K=some r):Goal u p q g st a w P o K r:=by
 have hvx:=S.ev x
 have hvi:=S.ev i
 unfold lookupK at h
 split at h
 ·rename_i k e kd ht hi
  rw [hi] at hvi
  have hvi:VD g.h kd (a.eval i):=hvi
  split at h
  ·rename_i z xs hz hx
   obtain⟨hb,h⟩:=bif_some h
   simp only [Bool.and_eq_true] at hb
   obtain⟨d,hd,hik⟩:=key_is (hh:=g.h) hb.1
   have hkey:=hik _ _ hb.2 hvi
   obtain⟨inf,zv,hinf,hzv,hZ⟩:=zeroN_spec hz
   have hzr:=run_zero' (w:=w) hinf hzv
   have hm:∃ es:Array MapEntry,F2 (Ent g.h (leafT P k)) xs es.toList∧((a.eval x = .map none∧es=#[])∨∃ r clock,a.eval x = .map (some r)∧w.heap[r]? = some (.map es clock)):=by
    split at hx
    ·rename_i no hxo
     rw [hxo] at hvx
     split at hx
     ·rename_i kt xs' hno
      obtain⟨hs,hx⟩:=bif_some hx
      cases hx
      have hs:=LTy.same_eq hs
      subst hs
      obtain⟨es,clock,k1,k2,_⟩:=S.hp.ob _ _ hno
      exact⟨es,k2,.inr ⟨_,clock,hvx,k1⟩⟩
     ·cases hx
    ·rename_i hxo
     cases hx
     rw [hxo] at hvx
     exact⟨#[],.nil,.inl ⟨hvx,rfl⟩⟩
    ·cases hx
   obtain⟨es,hF,hm⟩:=hm
   unfold typed at h
   obtain⟨hty,h⟩:=bif_some h
   simp only [Bool.and_eq_true] at hty
   have main:∀ (f:Option (Nat×Value)) (y:Value),Instr.findNow d (a.eval i) es.toList 0=some f→found zv f=y→VD g.h (getM z kd xs) y→f.isSome=hasM kd xs→Goal u p q g st a w P o K r:=by
    intro f y hf hy hv hs
    have hrun:=run_lookup (w:=w) (mapT_spec ht) hd hkey hm hf hzr ok
    rw [hy,hs] at hrun
    have hv:=okTy_exp hty.2 hv
    cases ok with
    |true=>
     simp only [cond_true,if_true] at h hrun
     refine Goal.val S hpq h (v:= .tuple #[y,.bool (hasM kd xs)]) (by simp only [execOp,ho];simp [hrun]) ⟨_,rfl,.cons hv (.cons rfl .nil)⟩ (fun v hv=>?_)
     simp only [List.mem_cons,List.not_mem_nil,or_false] at hv
     rcases hv with rfl|rfl<;>trivial
    |false=>
     simp only [cond_false,Bool.false_eq_true,if_false] at h hrun
     exact Goal.val S hpq h (v:=y) (by simp only [execOp,ho];simp [hrun]) hv trivial
   rcases findM_spec hb.1 hik hb.2 hvi xs es.toList 0 hF with ⟨k1,k2⟩|⟨j,x',e',k1,k2,k3,k4,k5,k6⟩
   ·refine main none zv k2 rfl ?_ ?_
    ·simp only [getM,k1];exact hZ _
    ·simp only [hasM,k1];rfl
   ·refine main _ e'.val k2 rfl ?_ ?_
    ·simp only [getM,k1,k3,Option.getD_some];exact k6.2.1
    ·simp only [hasM,k1];rfl
  ·cases h
 ·cases h
theorem op_mapUpdate (S:At u p g st a w)(hpq:∀ x,p x→q x){t:TypeId}{x i y:Operand}(ho:o.op = .mapUpdate t x i y)
  (h:mapSetK P t (evalV st x) (evalV st i) (evalV st y) st K=some r):Goal u p q g st a w P o K r:=by
 have hvx:=S.ev x
 have hvi:=S.ev i
 have hvy:=S.ev y
 have huy:=S.ev_uses y
 unfold mapSetK at h
 split at h
 ·rename_i k e kd no ht hi hx
  rw [hi] at hvi
  rw [hx] at hvx
  have hvi:VD g.h kd (a.eval i):=hvi
  have hvx:a.eval x = .map (some (g.blk no)):=hvx
  split at h
  ·rename_i kt xs dd fz hno hdd
   obtain⟨hb,h⟩:=bif_some h
   simp only [Bool.and_eq_true] at hb
   obtain⟨⟨⟨hs,hko⟩,hkd⟩,_⟩:=hb
   have hs:=LTy.same_eq hs
   subst hs
   obtain⟨d,hd,hik⟩:=key_is (hh:=g.h) hko
   have hkey:=hik _ _ hkd hvi
   obtain⟨g1,f1,f2,f3,f4,i1,j1⟩:=S.hp.freeze fz
   have hno1:freezeH st.h fz no=some (.mp (leafT P k) xs):=by
    rcases freezeH_or fz st.h no with k|k
    ·rw [k,hno]
    ·rw [k,hno];rfl
   obtain⟨es,clock,k1,k2,kb⟩:=f4.ob _ _ hno1
   have hvd:=toN_sound hvy huy hdd (fun o ho=>ho) f1 f4 i1
   have hvi1:=VD_mono f1.h _ _ hvi
   have hik1:∀ (a:D) (x:Value),okLeaf (leafT P k) a=true→VD g1.h a x→MapKept.IsKey d x:=by
    obtain⟨d',hd',hik'⟩:=key_is (hh:=g1.h) hko
    rw [hd] at hd'
    cases hd'
    exact hik'
   have hbo:g1.blk no=g.blk no:=by rw [f2]
   have main:∀ f,Instr.findNow d (a.eval i) es.toList 0=some f→(∀ i' v,f=some (i',v)→∃ x,es[i']? = some x∧x.key=a.eval i)→
     F2 (Ent g1.h (leafT P k)) (putM kd dd xs) (stored es.toList clock (a.eval i) (a.eval y) f)→Goal u p q g st a w P o K r:=by
    intro f hf hfk hF
    obtain⟨es',clock',hrun,hes,hbn⟩:=run_mapUpdate (w:=w) (val:=a.eval y) (mapT_spec ht) hd hkey k1 hf hfk
    obtain⟨m1,m2⟩:=MapKept.heap_set (o':=Obj.map es' clock') k1
    refine Goal.skip (w':={ w with heap:=w.heap.setIfInBounds (g1.blk no) (.map es' clock') }) (g':=g1) h (by simp only [execOp,ho,hvx];rw [← hbo];simp [hrun]) ?_ f1 ⟨f1.h,rfl,rfl,rfl,by simp⟩ rfl rfl
    refine (f4.update (w':={ w with heap:=w.heap.setIfInBounds (g1.blk no) (.map es' clock') }) (h':=((st.freeze fz).setH no (some (.mp (leafT P k) (putM kd dd xs)))).h) (Agree.refl p g1) rfl (some (g1.blk no)) (fun b _ hb=>m2 b (fun e=>hb (by rw [e]))) (fun b hb=>?_) hpq no ?_ ?_)
    ·cases hb
     exact f4.sep no _ _ hno1 rfl
    ·intro o' x hx hne
     rw [setH_eq,if_neg hne] at hx
     refine⟨hx,fun b hb e=>?_⟩
     cases e
     exact hne (f4.inj o' no _ _ _ hx hno1 hb rfl)
    ·intro x hx
     rw [setH_eq,if_pos rfl] at hx
     simp only [Option.some.injEq] at hx
     subst hx
     refine⟨⟨es',clock',m1,?_,hbn kb⟩,fun b hb=>?_,hpq _ (f4.use _ _ hno1).1,trivial⟩
     ·rw [hes];exact hF
     ·simp only [obk] at hb
      exact .inl (by rw [hb])
   have hent:Ent g1.h (leafT P k) (.agg [kd,dd]) { key:=a.eval i,val:=a.eval y,born:=clock }:=⟨hvi1,hvd,hkd⟩
   rcases findM_spec hko hik1 hkd hvi1 xs es.toList 0 k2 with ⟨k1,k2'⟩|⟨j,x',e',k1,k2',k3,k4,k5,k6⟩
   ·refine main none k2' (fun _ _ h=>by cases h) ?_
    simp only [putM,k1]
    exact F2.append k2 (.cons hent .nil)
   ·refine main _ k2' (fun i' v h=>?_) ?_
    ·simp only [Option.some.injEq,Prod.mk.injEq] at h
     obtain⟨h,_⟩:=h
     rw [← h,Nat.zero_add]
     exact⟨e',by simpa using k4,k5⟩
    ·simp only [putM,k1,Nat.zero_add]
     exact F2.modify k2 fun b _=>⟨hvi1,hvd,hkd⟩
  ·cases h
 ·cases h
end
end Go.AE
namespace Go.AE
open Go.RowKit
section
variable {hh:Nat→Option Obj} {P:Program} {w:World}
def held (es:List MapEntry)(clock:Nat)(key z:Value):Option (Nat×Value)→List MapEntry
 |some (i,_)=>es.modify i fun e=>{ e with key }
 |none=>es++[{ key,val:=z,born:=clock }]
def heldAt (n:Nat):Option (Nat×Value)→Nat
 |some (i,_)=>i
 |none=>n
theorem run_mapEntry {t k e:TypeId}{d:TypeDesc}(ht:P.underlying t=some (.map k e))(hd:P.underlying k=some d){key z:Value}(hkey:MapKept.IsKey d key){r clock:Nat}{es:Array MapEntry}(hb:w.heap[r]? = some (.map es clock))
  {f:Option (Nat×Value)} (hf:Instr.findNow d key es.toList 0=some f) (hfk:∀ i v,f=some (i,v)→∃ x,es[i]? = some x∧x.key=key) (hz:(zeroValue e).run P w = .ok z w) (hB:Born es clock) :
  ∃ es' clock',(Instr.mapEntry t (.map (some r)) key).run P w = .ok (.tuple #[found z f,.int .i64 (heldAt es.size f:Nat)]) { w with heap:=w.heap.setIfInBounds r (.map es' clock') }∧
   es'.toList=held es.toList clock key z f∧Born es' clock':=by
 have hc:=MapKept.run_checkKey (w:=w) hd hkey false 9999
 have hk:=MapKept.run_findKey (w:=w) hd hf
 cases f with
 |none=>
  refine⟨es.push { key,val:=z,born:=clock },clock+1,?_,by simp [held],hB.push _ _⟩
  simp [Instr.mapEntry,run_underlying ht,MapKept.run_getObj_map hb,hc,hk,hz,MapKept.run_setObj_map _ hb,found,heldAt,goInt,hB.1]
 |some f=>
  obtain⟨i,v⟩:=f
  obtain⟨x,hx,hxk⟩:=hfk i v rfl
  refine⟨es.modify i fun e=>{ e with key },clock,?_,by simp [held],hB.modify _ fun _=>rfl⟩
  have e1:((es[i]?).map (·.key)).getD key=key:=by rw [hx];simpa using hxk
  have e2:((es[i]?).map fun x=>(x.born:Int)).getD 0=(i:Int):=by rw [hx,Option.map_some,Option.getD_some,hB.2 _ _ hx]
  simp only [Instr.mapEntry,Sem.run_bind,run_underlying ht,Result.andThen_ok,MapKept.run_getObj_map hb,hc,hk,e1,stays hkey,MapKept.run_setObj_map _ hb,e2]
  rfl
theorem born_at {es:Array MapEntry}{clock j:Nat}(hB:Born es clock)(hj:j<es.size):es.findIdx? (fun e=>(e.born:Int)==(j:Int))=some j:=by
 rw [Array.findIdx?_eq_some_iff_getElem]
 refine⟨hj,?_,fun i hi=>?_⟩
 ·rw [hB.2 j _ (Array.getElem?_eq_getElem hj)];simp
 ·rw [hB.2 i _ (Array.getElem?_eq_getElem (by omega))]
  simp;omega
theorem run_entryStore {t:TypeId}{r clock j:Nat}{es:Array MapEntry}(hb:w.heap[r]? = some (.map es clock))(hB:Born es clock)(hj:j<es.size)(ik:IntKind)(v:Value) :
  (Instr.entryStore t (.map (some r)) (.int ik j) v).run P w = .ok () { w with heap:=w.heap.setIfInBounds r (.map (es.modify j fun e=>{ e with val:=v }) clock) }:=by
 simp only [Instr.entryStore,Sem.run_bind,MapKept.run_getObj_map hb,Result.andThen_ok]
 have:(asInt (.int ik (j:Int))).run P w = .ok (j:Int) w:=rfl
 simp only [this,Result.andThen_ok,born_at hB hj,MapKept.run_setObj_map _ hb]
theorem find_at {es:Array MapEntry}{clock j:Nat}{e:MapEntry}(hB:Born es clock)(hj:es[j]? = some e):es.find? (fun e=>e.born==j)=some e:=by
 obtain⟨hlt,he⟩:=Array.getElem?_eq_some_iff.1 hj
 rw [Array.find?_eq_some_iff_getElem]
 refine⟨by rw [hB.2 j _ hj];simp,j,hlt,he,fun i hi=>?_⟩
 rw [hB.2 i _ (Array.getElem?_eq_getElem (by omega))]
 simp;omega
theorem run_entry {r m n j:Nat}{ns:List Nat}{es:Array MapEntry}{e:MapEntry}(hr:w.heap[r]? = some (.mapIter (some m) n ns.toArray n))(hm:w.heap[m]? = some (.map es n))(hB:Born es n)(hl:ns.getLast? = some j)(hj:es[j]? = some e) :
  (Instr.entry (.pointer (some ⟨r,0,none⟩))).run P w = .ok (.tuple #[e.key,e.val]) w:=by
 have hb:ns.toArray.back? = some j:=by simpa using hl
 have g1:(getObj r).run P w = .ok (.mapIter (some m) n ns.toArray n) w:=by simp only [getObj,Sem.run,hr]
 simp only [Instr.entry,Sem.run_bind,g1,Result.andThen_ok,hb,MapKept.run_getObj_map hm,bne_self_eq_false,Bool.false_eq_true,if_false,find_at hB hj]
 rfl
theorem run_range {t k e:TypeId}{m clock:Nat}{es:Array MapEntry}(ht:P.underlying t=some (.map k e))(hb:w.heap[m]? = some (.map es clock)) :
  (Instr.range t (.map (some m))).run P w = .ok (.pointer (some ⟨w.heap.size,0,none⟩)) (w.alloc (.mapIter (some m) clock #[] clock)):=run_range_map w t k e m es clock ht hb
end
section
variable {u:Nat→Option Obj} {p q:Nat→Prop} {g:G} {st:St} {a:Act} {w:World} {P:Program} {o:Oper} {R:Type} {K:V→St→Option R} {r:R}
theorem SimH.setMap {h:Nat→Option Ob}(S:SimH u p g h w)(hpq:∀ x,p x→q x){no:Nat}{kt:LTy}{xs ys:List D}(hno:h no=some (.mp kt xs)){es':Array MapEntry}{clock':Nat}(hF:F2 (Ent g.h kt) ys es'.toList)(hB:Born es' clock'){es:Array MapEntry}{clock:Nat}(k1:w.heap[g.blk no]? = some (.map es clock)) :
  SimH u q g (fun x=>bif Nat.beq x no then some (.mp kt ys) else h x) { w with heap:=w.heap.setIfInBounds (g.blk no) (.map es' clock') }:=by
 obtain⟨m1,m2⟩:=MapKept.heap_set (o':=Obj.map es' clock') k1
 refine (S.update (Agree.refl p g) rfl (some (g.blk no)) (fun b _ hb=>m2 b (fun e=>hb (by rw [e]))) (fun b hb=>?_) hpq no ?_ ?_)
 ·cases hb
  exact S.sep no _ _ hno rfl
 ·intro o' x hx hne
  have:Nat.beq o' no=false:=by
   cases k:Nat.beq o' no with
   |false=>rfl
   |true=>exact absurd (Nat.eq_of_beq_eq_true k) hne
  rw [this] at hx
  refine⟨hx,fun b hb e=>?_⟩
  cases e
  exact hne (S.inj o' no _ _ _ hx hno hb rfl)
 ·intro x hx
  rw [show Nat.beq no no=true from Nat.beq_refl no] at hx
  simp only [cond_true,Option.some.injEq] at hx
  subst hx
  refine⟨⟨es',clock',m1,hF,hB⟩,fun b hb=>?_,hpq _ (S.use _ _ hno).1,trivial⟩
  simp only [obk] at hb
  exact .inl (by rw [hb])
theorem op_mapEntry (S:At u p g st a w)(hpq:∀ x,p x→q x){t:TypeId}{x i:Operand}(ho:o.op = .mapEntry t x i)
  (h:mapEntK P t (evalV st x) (evalV st i) st K=some r):Goal u p q g st a w P o K r:=by
 have hvx:=S.ev x
 have hvi:=S.ev i
 unfold mapEntK at h
 split at h
 ·rename_i k e kd no ht hi hx
  rw [hi] at hvi
  rw [hx] at hvx
  have hvi:VD g.h kd (a.eval i):=hvi
  have hvx:a.eval x = .map (some (g.blk no)):=hvx
  split at h
  ·rename_i kt xs z hno hz
   obtain⟨hb,h⟩:=bif_some h
   simp only [Bool.and_eq_true] at hb
   obtain⟨⟨⟨hs,hko⟩,hkd⟩,_⟩:=hb
   have hs:=LTy.same_eq hs
   subst hs
   obtain⟨d,hd,hik⟩:=key_is (hh:=g.h) hko
   have hkey:=hik _ _ hkd hvi
   obtain⟨inf,zv,hinf,hzv,hZ⟩:=zeroN_spec hz
   have hzr:=run_zero' (w:=w) hinf hzv
   obtain⟨es,clock,k1,k2,kb⟩:=S.hp.ob _ _ hno
   have hlen:xs.length=es.size:=by rw [k2.length];simp
   unfold typed at h
   obtain⟨hty,h⟩:=bif_some h
   simp only [Bool.and_eq_true] at hty
   have main:∀ f,Instr.findNow d (a.eval i) es.toList 0=some f→(∀ i' v,f=some (i',v)→∃ x,es[i']? = some x∧x.key=a.eval i)→
     F2 (Ent g.h (leafT P k)) (putM kd (getM z kd xs) xs) (held es.toList clock (a.eval i) zv f)→VD g.h (getM z kd xs) (found zv f)→stampM kd xs=heldAt es.size f→Goal u p q g st a w P o K r:=by
    intro f hf hfk hF hv hst
    obtain⟨es',clock',hrun,hes,hbn⟩:=run_mapEntry (w:=w) (mapT_spec ht) hd hkey k1 hf hfk hzr kb
    refine Goal.res (v:= .tuple #[found zv f,.int .i64 (heldAt es.size f:Nat)]) (w':={ w with heap:=w.heap.setIfInBounds (g.blk no) (.map es' clock') }) (g':=g) h (by simp only [execOp,ho,hvx];simp [hrun]) (S.hp.setMap hpq hno (hes▸hF) hbn k1) (Agree.refl p g) ⟨fun _ _ h=>h,rfl,rfl,rfl,by simp⟩ ?_ ?_ rfl rfl
    ·rw [hst]
     exact⟨_,rfl,.cons (okTy_exp hty.2 hv) (.cons rfl .nil)⟩
    ·intro v hv
     simp only [List.mem_cons,List.not_mem_nil,or_false] at hv
     rcases hv with rfl|rfl<;>trivial
   rcases findM_spec hko hik hkd hvi xs es.toList 0 k2 with ⟨j1,j2⟩|⟨j,x',e',j1,j2,j3,j4,j5,j6⟩
   ·refine main none j2 (fun _ _ h=>by cases h) ?_ ?_ ?_
    ·simp only [putM,getM,j1]
     exact F2.append k2 (.cons ⟨hvi,hZ _,hkd⟩ .nil)
    ·simp only [getM,j1];exact hZ _
    ·simp only [stampM,j1,heldAt];exact hlen
   ·refine main _ j2 (fun i' v h=>?_) ?_ ?_ ?_
    ·simp only [Option.some.injEq,Prod.mk.injEq] at h
     obtain⟨h,_⟩:=h
     rw [← h,Nat.zero_add]
     exact⟨e',by simpa using j4,j5⟩
    ·simp only [putM,getM,j1,held,Nat.zero_add]
     refine F2.modify k2 fun b hb=>⟨hvi,?_,hkd⟩
     rw [j4] at hb
     cases hb
     simp only [j3,Option.getD_some]
     exact j6.2.1
    ·simp only [getM,j1,j3,Option.getD_some];exact j6.2.1
    ·simp only [stampM,j1,heldAt,Nat.zero_add]
  ·cases h
 ·cases h
theorem op_entryStore (S:At u p g st a w)(hpq:∀ x,p x→q x){t:TypeId}{x s y:Operand}(ho:o.op = .entryStore t x s y)
  (h:entSetK P t (evalV st x) (evalV st s) (evalV st y) st K=some r):Goal u p q g st a w P o K r:=by
 have hvx:=S.ev x
 have hvs:=S.ev s
 have hvy:=S.ev y
 have huy:=S.ev_uses y
 unfold entSetK at h
 split at h
 ·rename_i k e no ik n ht hx hs
  rw [hs] at hvs
  rw [hx] at hvx
  have hvs:a.eval s = .int ik n:=hvs
  have hvx:a.eval x = .map (some (g.blk no)):=hvx
  split at h
  ·rename_i kt xs dd fz hno hdd
   obtain⟨hb,h⟩:=bif_some h
   simp only [Bool.and_eq_true,decide_eq_true_eq] at hb
   obtain⟨g1,f1,f2,f3,f4,i1,j1⟩:=S.hp.freeze fz
   have hno1:freezeH st.h fz no=some (.mp kt xs):=by
    rcases freezeH_or fz st.h no with k|k
    ·rw [k,hno]
    ·rw [k,hno];rfl
   obtain⟨es,clock,k1,k2,kb⟩:=f4.ob _ _ hno1
   have hvd:=toN_sound hvy huy hdd (fun o ho=>ho) f1 f4 i1
   have hbo:g1.blk no=g.blk no:=by rw [f2]
   have hlen:xs.length=es.size:=by rw [k2.length];simp
   have hj:n.toNat<es.size:=by omega
   have hn:(n.toNat:Int)=n:=Int.toNat_of_nonneg hb.1
   have hrun:=run_entryStore (P:=P) (t:=t) k1 kb hj ik (a.eval y)
   rw [hn] at hrun
   refine Goal.skip (w':={ w with heap:=w.heap.setIfInBounds (g1.blk no) (.map (es.modify n.toNat fun e=>{ e with val:=a.eval y }) clock) }) (g':=g1) h (by simp only [execOp,ho,hvx,hvs];rw [← hbo];simp [hrun]) (f4.setMap hpq hno1 ?_ (Born.modify kb _ fun _=>rfl) k1) f1 ⟨f1.h,rfl,rfl,rfl,by simp⟩ rfl rfl
   rw [Array.toList_modify]
   refine F2.modify k2 fun b hb'=>?_
   have hx2:n.toNat<xs.length:=by omega
   obtain⟨b',hb2,hE⟩:=F2.get k2 n.toNat _ (List.getElem?_eq_getElem hx2)
   rw [hb2] at hb'
   cases hb'
   rw [List.getElem?_eq_getElem hx2,Option.getD_some]
   exact⟨hE.1,hvd,hE.2.2⟩
  ·cases h
 ·cases h
theorem op_range (S:At u p g st a w)(hpq:∀ x,p x→q x){nid:Nat}(hfr:Fresh p q nid){t:TypeId}{x:Operand}(ho:o.op = .range t x)
  (h:rangeK P t (evalV st x) nid st K=some r):Goal u p q g st a w P o K r:=by
 have hvx:=S.ev x
 have hux:=S.ev_uses x
 unfold rangeK at h
 split at h
 ·rename_i k e no ht hx
  rw [hx] at hvx hux
  have hvx:a.eval x = .map (some (g.blk no)):=hvx
  split at h
  ·rename_i kt xs hno
   obtain⟨es,clock,k1,k2,kb⟩:=S.hp.ob _ _ hno
   have hlen:xs.length=es.size:=by rw [k2.length];simp
   have hnp:=hfr.zero.1
   have hqo:=hfr.zero.2
   have hno':=(S.hp.use _ _ hno).1
   have hne:no≠nid:=fun e=>hnp (e▸hno')
   have ha:Agree p g ⟨g.h,fun x=>if x=nid then w.heap.size else g.blk x,g.hdr,g.ihdr⟩:=⟨fun _ _ h=>h,fun x hx=>by
    have:x≠nid:=fun e=>hnp (e▸hx)
    simp [this],fun _ _=>rfl,fun _ _=>rfl⟩
   refine Goal.res h (v:= .pointer (some ⟨w.heap.size,0,none⟩)) (w':=w.alloc (.mapIter (some (g.blk no)) clock #[] clock)) (by simp only [execOp,ho,hvx];simp [run_range (mapT_spec ht) k1]) ?_ ha (ext_alloc ha) ?_ hqo rfl rfl
   ·refine S.hp.update ha rfl none (fun k hk _=>heap_alloc_old w _ hk) (fun b hb=>by cases hb) hpq nid ?_ ?_
    ·intro o' x hx hne
     rw [setH_eq,if_neg hne] at hx
     exact⟨hx,fun b _ e=>by cases e⟩
    ·intro x hx
     rw [setH_eq,if_pos rfl] at hx
     simp only [Option.some.injEq] at hx
     subst hx
     refine⟨⟨xs.length,[],⟨.top,[],rfl,fun _=>Iff.rfl,fun k hk=>(by cases hk),fun _ _ h=>(by cases h)⟩,?_⟩,?_,hqo,hpq _ hno'⟩
     ·simp only [if_true,if_neg hne]
      rw [heap_alloc_new,hlen,kb.1]
     ·intro b hb
      simp only [obk,if_true] at hb
      exact .inr (by omega)
   ·show Value.pointer _ = .pointer (some ⟨if nid=nid then w.heap.size else g.blk nid,0,none⟩)
    rw [if_pos rfl]
  ·cases h
 ·cases h
theorem op_entry (S:At u p g st a w)(hpq:∀ x,p x→q x){x:Operand}(ho:o.op = .entry x)
  (h:entryK P (evalV st x) st K=some r):Goal u p q g st a w P o K r:=by
 have hvx:=S.ev x
 unfold entryK at h
 split at h
 ·rename_i no hx
  rw [hx] at hvx
  have hvx:a.eval x = .pointer (some ⟨g.blk no,0,none⟩):=hvx
  split at h
  ·rename_i t mo xs0 hno
   split at h
   ·rename_i k e kt xs ht hmo
    split at h
    ·rename_i ik jj hlast
     have hb:=eq_of_beq (bif_some h).1
     replace h:=(bif_some h).2
     obtain⟨n,ns,⟨last,ks,rfl,i1,i2,i3⟩,k1⟩:=S.hp.ob _ _ hno
     obtain⟨es,clock,m1,m2,kb⟩:=S.hp.ob _ _ hmo
     have hlen:xs.length=es.size:=by rw [m2.length];simp
     have hn:n=es.size:=by
      simp only [nth,D.i] at hb
      omega
     have hc:clock=n:=by rw [kb.1,hn]
     subst hc
     obtain⟨j,rfl,j1⟩:=i3 _ _ hlast
     have hj:=i2 j ((i1 j).1 (List.mem_of_getLast? j1))
     simp only [Int.toNat_natCast] at h
     obtain⟨e',he,hE⟩:=F2.get m2 j _ (List.getElem?_eq_getElem (show j<xs.length by omega))
     have he:es[j]? = some e':=by simpa using he
     rw [List.getElem?_eq_getElem (show j<xs.length by omega),Option.getD_some] at h
     unfold typed at h
     have t1:=(bif_some h).1
     replace h:=(bif_some h).2
     replace h:=(show (bif notAny (tyT P e)&&okTy (tyT P e) (xs[j].at_ 1) then K (.tup [.d (expTy (.leaf (leafT P k)) (xs[j].at_ 0)),.d (expTy (tyT P e) (xs[j].at_ 1))]) st else none)=some r from h)
     have t2:=(bif_some h).1
     replace h:=(bif_some h).2
     simp only [Bool.and_eq_true] at t1 t2
     refine Goal.val S hpq h (v:= .tuple #[e'.key,e'.val]) (by simp only [execOp,ho,hvx];simp [run_entry k1 m1 kb j1 he]) ⟨_,rfl,.cons (okTy_exp t1.2 hE.1) (.cons (okTy_exp t2.2 hE.2.1) .nil)⟩ (fun v hv=>?_)
     simp only [List.mem_cons,List.not_mem_nil,or_false] at hv
     rcases hv with rfl|rfl<;>trivial
    ·cases h
   ·cases h
  ·cases h
 ·cases h
end
end Go.AE
namespace Go.AE
open Go.RowKit
section
variable {u:Nat→Option Obj} {p q:Nat→Prop} {g:G} {st:St} {h h':Nat→Option Ob} {a:Act} {w w':World} {P:Program} {o:Oper} {R:Type} {K:V→St→Option R} {r:R}
theorem ownsRow_cut {e sz n m:Nat}{v:Value}{us:List Value}(hown:w.ownsRow 0 e sz v n us)(hm:m≤n)(hok:tOk P e=true){t:TypeId}(ht:P.underlying t=some (.slice e)){hi:Option Operand}{hh:Int}(S:At u p g st a w)(hhi:optInt n (hi.map (evalV st))=some hh)(hhm:hh.toNat=m)(h0:0≤hh) :
  ∃ v',(Instr.sliceAt t v ((none:Option Operand).map a.eval) (hi.map a.eval) none).run P w = .ok v' w∧w.ownsRow 0 e sz v' m (us.take (m*sz))∧∀ b,v'.ownBlock=some b→some b=v.ownBlock:=by
 have hl:optInt 0 ((none:Option Operand).map (evalV st))=some 0:=rfl
 have h3:hh≤(n:Int):=by omega
 have hlen:(us.take (m*sz)).length=m*sz:=by
  rw [List.length_take,hown.1]
  exact Nat.min_eq_left (Nat.mul_le_mul_right _ hm)
 rcases ownsRow_form hown with ⟨k1,k2,k3⟩|⟨b,cap,cur,k1,k2,k3,k4,k5,k6,k7⟩
 ·subst k1;subst k2
  have hbd:=bounds_ok (P:=P) (b:=true) S hl hhi (Int.le_refl _) h0 h3 (Nat.le_refl _)
  have hm0:m=0:=by omega
  refine⟨_,run_slice_ok (A:=none) ht hok hbd,⟨hlen,.inl ⟨?_,hm0⟩⟩,fun b hb=>?_⟩
  ·simp [hhm,hm0]
  ·simp [Value.ownBlock] at hb
 ·subst k1
  have hbd:=bounds_ok (P:=P) (b:=true) S hl hhi (Int.le_refl _) h0 h3 k3
  have hA:(if cap=Int.toNat 0 then some (⟨b,0,none⟩:Addr) else (some (⟨b,0,none⟩:Addr)).map (·.add (Int.toNat 0*szT P e)))=some ⟨b,0,none⟩:=by
   split
   ·rfl
   ·simp [addr_add_plain]
  have hrun:=run_slice_ok (A:=some ⟨b,0,none⟩) ht hok hbd
  rw [hA] at hrun
  simp only [Int.toNat_zero,Nat.sub_zero,hhm] at hrun
  refine⟨_,hrun,⟨hlen,.inr ⟨b,cap,cur,rfl,Nat.zero_le _,k2,by omega,k4,k5,?_⟩⟩,fun b' hb'=>?_⟩
  ·rw [← k6,List.take_take,Nat.min_eq_left (Nat.mul_le_mul_right _ hm)]
  ·simp only [Value.ownBlock,Option.some.injEq] at hb'
   simp [Value.ownBlock,hb']
theorem op_trunc (S:At u p g st a w)(hpq:∀ x,p x→q x){nid:Nat}(hfr:Fresh p q nid){x:Operand}{hi:Option Operand}{t:TypeId}(ho:o.op = .slice t x none hi none)
  (h:truncK P t (evalV st x) (hi.map (evalV st)) nid st K=some r):Goal u p q g st a w P o K r:=by
 have hv:=S.ev x
 have run:∀ v,(Instr.sliceAt t (a.eval x) ((none:Option Operand).map a.eval) (hi.map a.eval) none).run P w = .ok v w→(execOp a.eval o).run P w = .ok (.value v) w:=by
  intro v e
  simp only [execOp,ho]
  simp only [Option.map_none] at e ⊢
  simp [e]
 unfold truncK at h
 split at h
 ·rename_i e ro k hh he hx hhi
  have ht:=elemT_spec he
  rw [hx] at hv
  have hv:a.eval x=g.hdr ro:=hv.1
  split at h
  ·rename_i e' sz xs hrow
   obtain⟨hc,h⟩:=bif_some h
   simp only [Bool.and_eq_true,decide_eq_true_eq] at hc
   obtain⟨⟨⟨⟨c1,c2⟩,c3⟩,h1⟩,h2⟩:=hc
   have hee:e=e':=Nat.eq_of_beq_eq_true c2
   subst hee
   obtain⟨us,hpos,hown,hf⟩:=S.hp.ob _ _ hrow
   have hpro:p ro:=(S.hp.use _ _ hrow).1
   have hne0:ro≠nid:=fun e=>hfr.zero.1 (e▸hpro)
   have hmn:hh.toNat≤xs.length:=by omega
   have hlt:(xs.take hh.toNat).length=hh.toNat:=by rw [List.length_take];omega
   obtain⟨v',k1,k2,k5⟩:=ownsRow_cut (m:=hh.toNat) hown hmn c1 ht S (by rw [hhi];rfl) rfl h1
   obtain⟨g',m1,m2,m3,m4,m5⟩:=newRow_sim (e:=e) (sz:=sz) (xs:=xs.take hh.toNat) (v:=v') (us:=us.take (hh.toNat*sz)) (h':=(newRow (st.setH ro none) nid e sz (xs.take hh.toNat)).h) S.hp hpq hfr.zero.1 hfr.zero.2 (World.grownBy.refl w (g.hdr ro).ownBlock) (by rw [hlt];exact k2) hpos (VDf_take hh.toNat hf)
    (fun b hb=>S.hp.sep ro _ b hrow hb) (fun b hb=> .inl (k5 b hb)) (fun o' x hx hne=>by
     rw [newRow,setH_eq,if_neg hne,setH_eq] at hx
     split at hx
     ·cases hx
     ·rename_i hne2
      exact⟨hx,fun b hb e=>hne2 (S.hp.inj o' ro _ _ b hx hrow hb e.symm)⟩) (by rw [newRow,setH_eq];simp)
   refine Goal.res h (run v' (by rw [hv];exact k1)) m5 m1 (ext_grown (World.grownBy.refl w (g.hdr ro).ownBlock) m1) ⟨m4.symm,?_⟩ hfr.zero.2 rfl rfl
   rcases ownsRow_form k2 with ⟨rfl,_⟩|⟨_,_,_,rfl,_⟩<;>rfl
  ·cases h
 ·cases h
theorem op_clear (S:At u p g st a w)(hpq:∀ x,p x→q x){x:Operand}{t:TypeId}{c:Call}(hop:o.op = .call c)(hcal:c.callee = .builtin .clear)(hargs:c.args=#[x])(hts:c.argTypes=#[t])
  (h:clearK P t (evalV st x) st K=some r):Goal u p q g st a w P o K r:=by
 have hv:=S.ev x
 have exec:∀ v w',(Builtin.clear_ #[t] o.type #[a.eval x]).run P w = .ok v w'→(execOp a.eval o).run P w = .ok (.value v) w':=by
  intro v w' e
  simp only [execOp,hop,resolve,hcal,hargs,hts]
  simp [invoke,builtin,e]
 unfold clearK at h
 split at h
 ·rename_i e ro z lo n he hx
  have ht:=elemT_spec he
  rw [hx] at hv
  obtain⟨hln,A,cap,hA,hn,hcm,hr⟩:=hv
  split at h
  ·rename_i e' sz xs d hrow hz
   obtain⟨hc,h⟩:=bif_some h
   simp only [Bool.and_eq_true] at hc
   obtain⟨⟨⟨⟨c1,c2⟩,c3⟩,c4⟩,c5⟩:=hc
   have hs:sz=szT P e:=Nat.eq_of_beq_eq_true c3
   have hzs:z=sz:=Nat.eq_of_beq_eq_true c4
   subst hzs
   have hle:lo+n≤xs.length:=Nat.le_of_ble_eq_true c5
   obtain⟨i,z',hi',hzv,hV⟩:=zeroN_spec hz
   obtain⟨i2,z2,hi,hb1,hb2,hb3,hb4⟩:=bytesOk_spec c1
   rw [hi] at hi'
   cases hi'
   rw [hb3] at hzv
   cases hzv
   have hsi:szT P e=i.size:=by simp [szT,hi]
   rw [hsi] at hs
   obtain⟨d1,d2⟩:=okD_one c2 (hV g.h)
   by_cases hn0:n=0
   ·subst hn0
    have hxy:xs.take lo++List.replicate 0 d++xs.drop (lo+0)=xs:=by simp
    rw [hxy] at h
    have hst:st.setH ro (some (.row e' z xs false))=st:=by
     have:(st.setH ro (some (.row e' z xs false))).h=st.h:=by
      funext y
      rw [setH_eq]
      split
      ·rename_i k;subst k;exact hrow.symm
      ·rfl
     show (⟨st.t,(st.setH ro (some (.row e' z xs false))).h,st.m⟩:St)=st
     rw [this]
    rw [hst] at h
    refine Goal.val S hpq h (exec (.tuple #[]) w ?_) trivial trivial
    rw [hA]
    cases A<;>simp [Builtin.clear_,run_underlying ht]
   ·rcases hr with hr|⟨b,hb,hA2⟩
    ·exact absurd hr hn0
    ·obtain⟨cap2,cur,q1,q2,q3,q4,q5,q6,q7⟩:=row_form S.hp hrow hb
     have hzc:(Builtin.zeroCells z'.cells n).toList=(List.replicate n z'.cells.toList).flatten:=by
      have:=madeCells_flat z'.cells (by rw [hb4];exact hb2) n
      exact this
     have hzl:((List.replicate n z'.cells.toList).flatten).length=n*z:=by simp [hb4,hs]
     have hf1:VDf g.h z (List.replicate n d) (List.replicate n z'.cells.toList).flatten:=by
      rw [hs];exact VDf_replicate hb4 d1 (hV g.h) n
     have hmul:(lo+n)*z≤cap2*z:=Nat.mul_le_mul_right _ (by omega)
     have hmul2:(lo+n)*z≤xs.length*z:=Nat.mul_le_mul_right _ hle
     have hadd:(lo+n)*z=lo*z+n*z:=Nat.add_mul _ _ _
     have hfit:lo*z+0+((List.replicate n z'.cells.toList).flatten).length≤cur.size:=by rw [hzl];omega
     have hst:=run_storeCells_at P b (lo*z) e' (List.replicate n z'.cells.toList).flatten 0 cur w q3 hfit (fun v hv=>VDf_one hf1 v hv)
     rw [Nat.add_zero,hzl] at hst
     have hrun:(Builtin.clear_ #[t] o.type #[a.eval x]).run P w = .ok (.tuple #[]) (w.setRow b (cur.toList.take (lo*z)++(List.replicate n z'.cells.toList).flatten++cur.toList.drop (lo*z+n*z)).toArray):=by
      rw [hA,hA2]
      obtain⟨m,rfl⟩:∃ m,n=m+1:=⟨n-1,by omega⟩
      simp [Builtin.clear_,run_underlying ht,run_zero' hi hb3,hzc,hst]
     have hl:((List.replicate n d)).length=n:=by simp
     have hcl:cur.toList.length=cur.size:=Array.length_toList
     have hf':VDf g.h z (xs.take lo++List.replicate n d++xs.drop (lo+n)) ((cur.toList.take (lo*z)++(List.replicate n z'.cells.toList).flatten++cur.toList.drop (lo*z+n*z)).take (xs.length*z)):=by
      have t1:(cur.toList.take (lo*z)).length=lo*z:=by rw [List.length_take];omega
      have e1:(cur.toList.take (lo*z)++(List.replicate n z'.cells.toList).flatten++cur.toList.drop (lo*z+n*z)).take (xs.length*z)=(cur.toList.take (xs.length*z)).take (lo*z)++(List.replicate n z'.cells.toList).flatten++(cur.toList.take (xs.length*z)).drop ((lo+n)*z):=by
       rw [List.take_append,List.take_append,List.take_of_length_le (l:=cur.toList.take (lo*z)) (by omega),List.take_of_length_le (l:=(List.replicate n z'.cells.toList).flatten) (by omega)]
       rw [List.take_take,Nat.min_eq_left (by omega),hadd,List.drop_take]
       congr 2
       simp only [List.length_append,t1,hzl]
      rw [e1]
      exact VDf_append (VDf_append (VDf_take lo q7) hf1) (VDf_drop (lo+n) q7)
     have hsim:=row_update (h':=(st.setH ro (some (.row e' z (xs.take lo++List.replicate n d++xs.drop (lo+n)) false))).h) (c':=(cur.toList.take (lo*z)++(List.replicate n z'.cells.toList).flatten++cur.toList.drop (lo*z+n*z)).toArray) S.hp hrow hb q3
      (by simp only [List.size_toArray,List.length_append,List.length_take,List.length_drop,hzl,hcl];omega)
      (by simp;omega) (by simpa using hf') (fun x=>setH_eq _ _ _ _)
     refine Goal.res h (v:= .tuple #[]) (exec _ _ hrun) (hsim.more hpq) (Agree.refl p g) (ext_setRow (Agree.refl p g) _ _) trivial trivial rfl rfl
  ·cases h
 ·cases h
end
end Go.AE
namespace Go.AE
open Go.RowKit
theorem hasR_of_look:∀ {ren:List (Nat×Nat)} {l o:Nat},lookN ren l=some o→hasR ren o=true
 |[],_,_,h=>by cases h
 |(a,b)::r,l,o,h=>by
  simp only [lookN] at h
  simp only [hasR,Bool.or_eq_true]
  cases e:Nat.beq l a with
  |true=>rw [e] at h;simp only [cond_true,Option.some.injEq] at h;subst h;exact .inl (Nat.beq_refl b)
  |false=>rw [e] at h;exact .inr (hasR_of_look h)
def OneR (ren:List (Nat×Nat)):Prop:=∀ l l' o,lookN ren l=some o→lookN ren l'=some o→l=l'
theorem lookN_cons {ren:List (Nat×Nat)}{l o x:Nat}:lookN ((l,o)::ren) x=if x=l then some o else lookN ren x:=by
 simp only [lookN]
 by_cases e:x=l
 ·rw [if_pos e,beq_iff.2 e];rfl
 ·rw [if_neg e]
  cases k:Nat.beq x l with
  |true=>exact absurd (beq_iff.1 k) e
  |false=>rfl
theorem addR_ok {ren ren':List (Nat×Nat)}{l o:Nat}(h:addR ren l o=some ren'):lookN ren' l=some o∧(∀ l' o',lookN ren l'=some o'→lookN ren' l'=some o')∧(OneR ren→OneR ren'):=by
 unfold addR at h
 split at h
 ·rename_i o' e
  obtain⟨hb,h⟩:=bif_some h
  cases h
  have:o=o':=beq_iff.1 hb
  subst this
  exact⟨e,fun _ _ h=>h,id⟩
 ·rename_i e
  obtain⟨hb,h⟩:=bif_none_some h
  cases h
  refine⟨by rw [lookN_cons,if_pos rfl],fun l' o' hl'=>?_,fun h1=>?_⟩
  ·rw [lookN_cons,if_neg]
   ·exact hl'
   ·intro e';rw [e',e] at hl';cases hl'
  ·intro a b x ha hb'
   rw [lookN_cons] at ha hb'
   split at ha<;>split at hb'
   ·rename_i k1 k2;rw [k1,k2]
   ·rename_i k1 k2
    cases ha
    have:=hasR_of_look hb'
    rw [hb] at this;cases this
   ·rename_i k1 k2
    cases hb'
    have:=hasR_of_look ha
    rw [hb] at this;cases this
   ·exact h1 a b x ha hb'
theorem lessR_ok {n:Nat}:∀ {ren:List (Nat×Nat)},lessR n ren=true→∀ l o,lookN ren l=some o→l<n
 |[],_,_,_,h=>by cases h
 |(a,b)::r,h,l,o,hl=>by
  simp only [lessR,Bool.and_eq_true] at h
  rw [lookN_cons] at hl
  split at hl
  ·rename_i e;subst e
   have h1:Nat.ble (l+1) n=true:=h.1
   exact Nat.le_of_ble_eq_true h1
  ·exact lessR_ok h.2 l o hl
theorem apartR_ok {ren:List (Nat×Nat)}:∀ {os:List Nat},apartR ren os=true→∀ l o,lookN ren l=some o→o∉os
 |[],_,_,_,_=>by simp
 |o'::os,h,l,o,hl=>by
  simp only [apartR,Bool.and_eq_true,Bool.not_eq_true'] at h
  intro hm
  rcases List.mem_cons.1 hm with rfl|hm
  ·rw [hasR_of_look hl] at h;simp at h
  ·exact apartR_ok h.2 l o hl hm
structure Le (c F:Cf):Prop where
 ds:∃ t,F.ds=c.ds++t
 fz:∀ o∈c.fz,o∈F.fz
 ren:∀ l o,lookN c.ren l=some o→lookN F.ren l=some o
theorem Le.refl (c:Cf):Le c c:=⟨⟨[],by simp⟩,fun _ h=>h,fun _ _ h=>h⟩
theorem Le.trans {a b c:Cf}(h:Le a b)(h':Le b c):Le a c:=by
 obtain⟨⟨t,ht⟩,h2,h3⟩:=h
 obtain⟨⟨t',ht'⟩,h2',h3'⟩:=h'
 exact⟨⟨t++t',by rw [ht',ht];simp⟩,fun o k=>h2' o (h2 o k),fun l o k=>h3' l o (h3 l o k)⟩
theorem nth_at:∀ (a:List D) (x:D) (t:List D),nth (a++x::t) a.length=x
 |[],_,_=>rfl
 |_::a,x,t=>by simpa [nth] using nth_at a x t
theorem Le.nth {c F:Cf}{x:D}(h:Le ⟨c.ds++[x],c.fz,c.ren⟩ F):AE.nth F.ds c.ds.length=x:=by
 obtain⟨t,ht⟩:=h.ds
 rw [ht]
 simp only [List.append_assoc,List.singleton_append]
 exact nth_at _ _ _
def E0:Ty→D→D:=fun _ x=>x
def gOf (g gF:G)(ren:List (Nat×Nat)):G:=⟨gF.h,fun l=>g.blk ((lookN ren l).getD 0),fun l=>g.hdr ((lookN ren l).getD 0),fun l=>g.ihdr ((lookN ren l).getD 0)⟩
section
variable {u:Nat→Option Obj} {p q:Nat→Prop} {g gF:G} {h:Nat→Option Ob} {w:World} {F:Cf}
theorem mkAgg_bp {cs:List V}{t o f:Nat}:mkAgg cs≠ .bp t o f:=by
 unfold mkAgg
 split<;>exact fun h=>by cases h
theorem injV_bp {E:Ty→D→D}{ds:List D}{s:SV}{j t o f:Nat}(h:(injV E ds s j).1 = .bp t o f):s = .bp t o f:=by
 match s,h with
 | .bp ..,h=>cases h;rfl
 | .agg ss,h=>exact absurd h mkAgg_bp
 | .fn _ [],h=>cases h
 | .fn _ (_::_),h=>cases h
 | .d _,h=>cases h
 | .ptr ..,h=>cases h
 | .row ..,h=>cases h
 | .mp ..,h=>cases h
 | .x,h=>cases h
theorem injCells_bp {E:Ty→D→D}{ds:List D}{t o f:Nat}:∀ {ss:List SV} {j:Nat},V.bp t o f∈(injCells E ds ss j).1→SV.bp t o f∈ss
 |[],j,h=>by cases h
 |s::ss,j,h=>by
  simp only [injCells] at h
  rcases List.mem_cons.1 h with h|h
  ·rw [injV_bp h.symm];exact List.mem_cons_self ..
  ·exact List.mem_cons_of_mem _ (injCells_bp h)
theorem injCells_mem {E:Ty→D→D}{ds:List D}{t o f:Nat}:∀ {ss:List SV} {j:Nat},SV.bp t o f∈ss→V.bp t o f∈(injCells E ds ss j).1
 |[],j,h=>by cases h
 |s::ss,j,h=>by
  simp only [injCells]
  rcases List.mem_cons.1 h with h|h
  ·subst h;exact List.mem_cons_self ..
  ·exact List.mem_cons_of_mem _ (injCells_mem h)
theorem confCells_bp {h:Nat→Option Ob}{t l f:Nat}:∀ {ss:List SV} {cs:List V} {c c':Cf},confCells h c ss cs=some c'→SV.bp t l f∈ss→∃ o f',V.bp t o f'∈cs
 |[],[],c,c',_,hm=>by cases hm
 |[],_::_,c,c',hc,hm=>by cases hm
 |_::_,[],c,c',hc,hm=>by cases hc
 |s::ss,v::vs,c,c',hc,hm=>by
  simp only [confCells] at hc
  split at hc
  ·rename_i c1 h1
   rcases List.mem_cons.1 hm with hm|hm
   ·subst hm
    match v,h1 with
    | .bp t' o f',h1=>
     simp only [confV] at h1
     obtain⟨hb,_⟩:=bif_some h1
     simp only [Bool.and_eq_true] at hb
     rw [beq_iff.1 hb.1]
     exact⟨o,f',List.mem_cons_self ..⟩
    | .d (.agg _),h1=>simp [confV,confLeaf] at h1
    | .d .top,h1 | .d (.bool _),h1 | .d (.int _ _),h1 | .d (.str _),h1 | .d (.lst _ _),h1 | .d (.nils _ _),h1 | .d .und,h1 | .d (.fn _),h1 | .d .nilp,h1 | .d .nilf,h1 | .d .nilm,h1 | .d .nili,h1 | .d .ub,h1 | .d (.iface _ _),h1 | .d (.meth ..),h1=>simp [confV,confLeaf] at h1
    | .ptr ..,h1 | .el ..,h1 | .rp ..,h1 | .row _,h1 | .sub ..,h1 | .agg _,h1 | .fn _ _,h1 | .tup _,h1 | .mp _,h1 | .ir ..,h1 | .irp ..,h1=>simp [confV,confLeaf] at h1
   ·obtain⟨o,f',h⟩:=confCells_bp hc hm
    exact⟨o,f',List.mem_cons_of_mem _ h⟩
  ·cases hc
structure CX (u:Nat→Option Obj) (p q:Nat→Prop) (g gF:G) (h:Nat→Option Ob) (w:World) (F:Cf):Prop where
 S:SimH u p gF (freezeH h F.fz) w
 a:Agree p g gF
 q:∀ l o,lookN F.ren l=some o→q l
 ir:IrOk h F.fz g gF
theorem confLeaf_ok (X:CX u p q g gF h w F){c c':Cf}{s:SV}{v:V}(hc:confLeaf h c s v=some c')(hF:Le c' F) :
  Le c c'∧c'.ds.length=(injLeaf E0 F.ds s c.ds.length).2∧(OneR c.ren→OneR c'.ren)∧∀ val,VV g v val→v.uses p→VL (gOf g gF F.ren) (injLeaf E0 F.ds s c.ds.length).1 val∧(injLeaf E0 F.ds s c.ds.length).1.usesL q:=by
 unfold confLeaf at hc
 split at hc
 ·split at hc
  ·rename_i x fz hd
   cases hc
   rename_i t _
   refine⟨⟨⟨[normTy t x],rfl⟩,fun o h=>by simp [h],fun _ _ h=>h⟩,by simp [injLeaf],id,fun val hv hu=>?_⟩
   have hn:nth F.ds c.ds.length=normTy t x:=by
    obtain⟨t,ht⟩:=hF.ds
    rw [ht]
    simp only [List.append_assoc,List.singleton_append]
    exact nth_at _ _ _
   simp only [injLeaf,E0,hn]
   have hv':VD gF.h (normTy t x) val:=normTy_VD (toD_sound' hv hu hd (fun o ho=>hF.fz o (by simp [ho])) X.a X.S X.ir)
   exact⟨hv',trivial⟩
  ·cases hc
 ·obtain⟨hb,hc⟩:=bif_some hc
  simp only [Bool.and_eq_true] at hb
  split at hc
  ·rename_i l f o f' _ _ r hr
   cases hc
   obtain⟨k1,k2,k3⟩:=addR_ok hr
   refine⟨⟨⟨[],by simp⟩,fun _ h=>h,k2⟩,rfl,k3,fun val hv _=>?_⟩
   have hl:=hF.ren _ _ k1
   have hff:f=f':=beq_iff.1 hb.1
   subst hff
   refine⟨?_,X.q _ _ hl⟩
   show val=_
   simp only [gOf,hl,Option.getD_some]
   exact hv
  ·cases hc
 ·obtain⟨hb,hc⟩:=bif_some hc
  split at hc
  ·rename_i l o _ _ r hr
   cases hc
   obtain⟨k1,k2,k3⟩:=addR_ok hr
   refine⟨⟨⟨[],by simp⟩,fun _ h=>h,k2⟩,rfl,k3,fun val hv _=>?_⟩
   have hl:=hF.ren _ _ k1
   refine⟨?_,X.q _ _ hl⟩
   show val=_∧_
   simp only [gOf,hl,Option.getD_some]
   exact hv
  ·cases hc
 ·cases hc
  exact⟨Le.refl c,rfl,id,fun val _ _=>⟨(trivial:VD _ .top _),trivial⟩⟩
 ·obtain⟨hb,hc⟩:=bif_some hc
  split at hc
  ·rename_i l o _ _ r hr
   cases hc
   obtain⟨k1,k2,k3⟩:=addR_ok hr
   refine⟨⟨⟨[],by simp⟩,fun _ h=>h,k2⟩,rfl,k3,fun val hv _=>?_⟩
   have hl:=hF.ren _ _ k1
   refine⟨?_,X.q _ _ hl⟩
   show val=_
   simp only [gOf,hl,Option.getD_some]
   exact hv
  ·cases hc
 ·obtain⟨hb,hc⟩:=bif_some hc
  cases hc
  refine⟨Le.refl c,rfl,id,fun val hv _=>⟨?_,trivial⟩⟩
  rw [beq_iff.1 hb];exact hv
 ·obtain⟨hb,hc⟩:=bif_some hc
  cases hc
  refine⟨Le.refl c,rfl,id,fun val hv _=>⟨?_,trivial⟩⟩
  rw [beq_iff.1 hb];exact hv
 ·cases hc
theorem confList_ok (X:CX u p q g gF h w F):∀ {ss:List SV} {vs:List V} {c c':Cf},confList h c ss vs=some c'→Le c' F→
  Le c c'∧c'.ds.length=(injList E0 F.ds ss c.ds.length).2∧(OneR c.ren→OneR c'.ren)∧∀ vals,F2 (VV g) vs vals→(∀ v∈vs,v.uses p)→F2 (VL (gOf g gF F.ren)) (injList E0 F.ds ss c.ds.length).1 vals∧∀ v∈(injList E0 F.ds ss c.ds.length).1,v.usesL q
 |[],[],c,c',hc,hF=>by
  simp only [confList,Option.some.injEq] at hc
  subst hc
  exact⟨Le.refl c,rfl,id,fun vals hv _=>by cases hv;exact⟨.nil,fun v hv=>by cases hv⟩⟩
 |s::ss,v::vs,c,c',hc,hF=>by
  simp only [confList] at hc
  split at hc
  ·rename_i c1 h1
   obtain⟨a1,a2,a3,a4⟩:=confList_ok X hc hF
   obtain⟨b1,b2,b3,b4⟩:=confLeaf_ok X h1 (a1.trans hF)
   have e1:injList E0 F.ds (s::ss) c.ds.length=((injLeaf E0 F.ds s c.ds.length).1::(injList E0 F.ds ss c1.ds.length).1,(injList E0 F.ds ss c1.ds.length).2):=by
    simp only [injList];rw [b2]
   refine⟨b1.trans a1,by rw [e1];exact a2,fun k=>a3 (b3 k),fun vals hv hu=>?_⟩
   rw [e1]
   cases hv with
   |cons hv1 hv2=>
    obtain⟨x1,x2⟩:=b4 _ hv1 (hu v (by simp))
    obtain⟨y1,y2⟩:=a4 _ hv2 (fun v' hv'=>hu v' (by simp [hv']))
    exact⟨.cons x1 y1,fun v' hv'=>by rcases List.mem_cons.1 hv' with rfl|hv';exact x2;exact y2 v' hv'⟩
  ·cases hc
 |[],_::_,_,_,hc,_=>by simp [confList] at hc
 |_::_,[],_,_,hc,_=>by simp [confList] at hc
theorem injList_length {E:Ty→D→D}{ds:List D}:∀ (ss:List SV) (j:Nat),(injList E ds ss j).1.length=ss.length
 |[],_=>rfl
 |s::ss,j=>by simp only [injList,List.length_cons];rw [injList_length ss]
theorem confV_ok (X:CX u p q g gF h w F){c c':Cf}{s:SV}{v:V}(hc:confV h c s v=some c')(hF:Le c' F) :
  Le c c'∧c'.ds.length=(injV E0 F.ds s c.ds.length).2∧(OneR c.ren→OneR c'.ren)∧∀ val,VV g v val→v.uses p→VA (gOf g gF F.ren) (injV E0 F.ds s c.ds.length).1 val∧(injV E0 F.ds s c.ds.length).1.usesA q:=by
 have leaf:injV E0 F.ds s c.ds.length=injLeaf E0 F.ds s c.ds.length→confLeaf h c s v=some c'→Le c c'∧c'.ds.length=(injV E0 F.ds s c.ds.length).2∧(OneR c.ren→OneR c'.ren)∧
   ∀ val,VV g v val→v.uses p→VA (gOf g gF F.ren) (injV E0 F.ds s c.ds.length).1 val∧(injV E0 F.ds s c.ds.length).1.usesA q:=by
  intro e hc
  obtain⟨a1,a2,a3,a4⟩:=confLeaf_ok X hc hF
  rw [e]
  refine⟨a1,a2,a3,fun val hv hu=>?_⟩
  obtain⟨x1,x2⟩:=a4 val hv hu
  exact⟨VA_of_VL x1,VL_usesA x1 x2⟩
 have aggs:∀ ss cs,s = .agg ss→confList h c ss cs=some c'→(∀ val,VV g v val→v.uses p→∃ us:Array Value,val = .agg us∧F2 (VV g) cs us.toList∧∀ x∈cs,x.uses p)→
   Le c c'∧c'.ds.length=(injV E0 F.ds s c.ds.length).2∧(OneR c.ren→OneR c'.ren)∧∀ val,VV g v val→v.uses p→VA (gOf g gF F.ren) (injV E0 F.ds s c.ds.length).1 val∧(injV E0 F.ds s c.ds.length).1.usesA q:=by
  intro ss cs hs hcc hval
  subst hs
  obtain⟨a1,a2,a3,a4⟩:=confList_ok X hcc hF
  have e:injV E0 F.ds (.agg ss) c.ds.length=(mkAgg (injList E0 F.ds ss c.ds.length).1,(injList E0 F.ds ss c.ds.length).2):=rfl
  rw [e]
  refine⟨a1,a2,a3,fun val hv hu=>?_⟩
  obtain⟨us,rfl,hF2,huse⟩:=hval val hv hu
  obtain⟨x1,x2⟩:=a4 us.toList hF2 huse
  have:=mkAgg_VA (x1.mono fun _ _ _ h=>VA_of_VL h)
  rw [Array.toArray_toList] at this
  refine⟨this,mkAgg_uses fun y hy=>?_⟩
  obtain⟨b,_,hb⟩:=x1.mem y hy
  exact VL_usesA hb (x2 y hy)
 unfold confV at hc
 split at hc
 ·rename_i f caps f' caps'
  obtain⟨hb,hcc⟩:=bif_some hc
  have hff:f=f':=beq_iff.1 hb
  subst hff
  clear hc
  obtain⟨a1,a2,a3,a4⟩:=confList_ok X hcc hF
  cases caps with
  |nil=>
   have hnil:caps'=[]:=by cases caps' with|nil=>rfl|cons=>simp [confList] at hcc
   subst hnil
   refine⟨a1,a2,a3,fun val hv _=>⟨hv,trivial⟩⟩
  |cons s0 caps=>
   cases caps' with
   |nil=>simp [confList] at hcc
   |cons v0 caps'=>
    have e:injV E0 F.ds (.fn f (s0::caps)) c.ds.length=(.fn f (injList E0 F.ds (s0::caps) c.ds.length).1,(injList E0 F.ds (s0::caps) c.ds.length).2):=rfl
    rw [e]
    refine⟨a1,a2,a3,fun val hv hu=>?_⟩
    obtain⟨us,rfl,hF2⟩:=hv
    have hu':∀ x∈v0::caps',x.uses p:=fun x hx=>by
     obtain⟨b,_,hb⟩:=hF2.mem x hx
     exact uses_of_A (VL_usesA hb (hu x hx))
    obtain⟨x1,x2⟩:=a4 us.toList (hF2.mono fun _ _ _ h=>VV_of_VA (VA_of_VL h)) hu'
    have hlen:=injList_length (E:=E0) (ds:=F.ds) (s0::caps) c.ds.length
    refine⟨?_,x2⟩
    generalize (injList E0 F.ds (s0::caps) c.ds.length).1=vs at *
    cases vs with
    |nil=>simp at hlen
    |cons y ys=>exact⟨us,rfl,x1⟩
 ·rename_i t l f t' o f'
  obtain⟨hb,hc⟩:=bif_some hc
  simp only [Bool.and_eq_true] at hb
  split at hc
  ·rename_i r hr
   cases hc
   obtain⟨k1,k2,k3⟩:=addR_ok hr
   refine⟨⟨⟨[],by simp⟩,fun _ h=>h,k2⟩,rfl,k3,fun val hv _=>?_⟩
   have hl:=hF.ren _ _ k1
   have hff:f=f':=beq_iff.1 hb.2
   subst hff
   refine⟨?_,X.q _ _ hl⟩
   show val=_∨val=_
   simp only [gOf,hl,Option.getD_some]
   exact hv
  ·cases hc
 ·rename_i ss cs
  refine aggs ss cs rfl hc (fun val hv hu=>?_)
  obtain⟨us,h1,h2⟩:=VV_agg hv
  refine⟨us,h1,h2.mono fun _ _ _ h=>VV_of_VA (VA_of_VL h),fun x hx=>?_⟩
  obtain⟨b,_,hb⟩:=h2.mem x hx
  exact uses_of_A (VL_usesA hb (hu x hx))
 ·rename_i ss cs
  refine aggs ss _ rfl hc (fun val hv hu=>?_)
  obtain⟨us,h1,h2⟩:=hv
  refine⟨us,h1,F2.map_left (((VDs_F2 _ _ _).1 h2).mono fun _ _ _ h=>h),fun x hx=>?_⟩
  obtain⟨d,_,rfl⟩:=List.mem_map.1 hx;trivial
 ·rename_i h1 h2 h3
  refine leaf ?_ hc
  unfold injV
  split
  ·rename_i f s0 caps
   exfalso
   simp only [confLeaf] at hc
   cases hc
  ·rename_i ss
   simp only [confLeaf] at hc
   cases hc
  ·simp only [confLeaf] at hc
   cases hc
  ·rfl
theorem confCells_ok (X:CX u p q g gF h w F):∀ {ss:List SV} {vs:List V} {c c':Cf},confCells h c ss vs=some c'→Le c' F→
  Le c c'∧c'.ds.length=(injCells E0 F.ds ss c.ds.length).2∧(OneR c.ren→OneR c'.ren)∧∀ vals,F2 (VA g) vs vals→(∀ v∈vs,v.usesA p)→F2 (VA (gOf g gF F.ren)) (injCells E0 F.ds ss c.ds.length).1 vals∧∀ v∈(injCells E0 F.ds ss c.ds.length).1,v.usesA q
 |[],[],c,c',hc,hF=>by
  simp only [confCells,Option.some.injEq] at hc
  subst hc
  exact⟨Le.refl c,rfl,id,fun vals hv _=>by cases hv;exact⟨.nil,fun v hv=>by cases hv⟩⟩
 |s::ss,v::vs,c,c',hc,hF=>by
  simp only [confCells] at hc
  split at hc
  ·rename_i c1 h1
   obtain⟨a1,a2,a3,a4⟩:=confCells_ok X hc hF
   obtain⟨b1,b2,b3,b4⟩:=confV_ok X h1 (a1.trans hF)
   have e1:injCells E0 F.ds (s::ss) c.ds.length=((injV E0 F.ds s c.ds.length).1::(injCells E0 F.ds ss c1.ds.length).1,(injCells E0 F.ds ss c1.ds.length).2):=by
    simp only [injCells];rw [b2]
   refine⟨b1.trans a1,by rw [e1];exact a2,fun k=>a3 (b3 k),fun vals hv hu=>?_⟩
   rw [e1]
   cases hv with
   |cons hv1 hv2=>
    obtain⟨x1,x2⟩:=b4 _ (VV_of_VA hv1) (uses_of_A (hu v (by simp)))
    obtain⟨y1,y2⟩:=a4 _ hv2 (fun v' hv'=>hu v' (by simp [hv']))
    exact⟨.cons x1 y1,fun v' hv'=>by rcases List.mem_cons.1 hv' with rfl|hv';exact x2;exact y2 v' hv'⟩
  ·cases hc
 |[],_::_,_,_,hc,_=>by simp [confCells] at hc
 |_::_,[],_,_,hc,_=>by simp [confCells] at hc
theorem confSlots_ok {st:St}(X:CX u p q g gF st.h w F){tm:Nat→Value}(ht:∀ t,VV g (st.t t) (tm t))(hu:∀ t,(st.t t).uses p):∀ {sl:List (Nat×SV)} {c c':Cf},confSlots st c sl=some c'→Le c' F→
  Le c c'∧c'.ds.length=(injSlots E0 F.ds sl c.ds.length).2∧(OneR c.ren→OneR c'.ren)∧∀ t,VV (gOf g gF F.ren) ((injSlots E0 F.ds sl c.ds.length).1 t) (tm t)∧((injSlots E0 F.ds sl c.ds.length).1 t).uses q
 |[],c,c',hc,hF=>by
  simp only [confSlots,Option.some.injEq] at hc
  subst hc
  exact⟨Le.refl c,rfl,id,fun t=>⟨(trivial:VD _ .top _),trivial⟩⟩
 |(t0,s)::sl,c,c',hc,hF=>by
  simp only [confSlots] at hc
  split at hc
  ·rename_i c1 h1
   obtain⟨a1,a2,a3,a4⟩:=confSlots_ok X ht hu hc hF
   obtain⟨b1,b2,b3,b4⟩:=confV_ok X h1 (a1.trans hF)
   obtain⟨x1,x2⟩:=b4 _ (ht t0) (hu t0)
   refine⟨b1.trans a1,?_,fun k=>a3 (b3 k),fun t=>?_⟩
   ·simp only [injSlots];rw [← b2];exact a2
   ·simp only [injSlots]
    rw [← b2]
    by_cases e:t=t0
    ·subst e
     rw [beq_iff.2 rfl]
     exact⟨VV_of_VA x1,uses_of_A x2⟩
    ·have:Nat.beq t t0=false:=by
      cases k:Nat.beq t t0 with
      |true=>exact absurd (beq_iff.1 k) e
      |false=>rfl
     rw [this]
     exact a4 t
  ·cases hc
def Stands (g g0:G)(p q:Nat→Prop)(h:Nat→Option Ob)(w:World)(ren:List (Nat×Nat))(l:Nat)(x0:Ob):Prop:=
 OB g0 l x0 w∧x0.uses q∧∃ o x,lookN ren l=some o∧h o=some x∧(∀ b,obk g0 l x0 b→obk g o x b)
theorem confObs_ok (X:CX u p q g gF h w F)(S:SimH u p g h w):∀ {obs:List SOb} {l:Nat} {c c':Cf},confObs h c l obs=some c'→Le c' F→(c'.fz=c.fz∨True)→
  Le c c'∧(OneR c.ren→OneR c'.ren)∧∀ l0 x0,injObs E0 F.ds obs l c.ds.length l0=some x0→Stands g (gOf g gF F.ren) p q h w F.ren l0 x0
 |[],l,c,c',hc,hF,_=>by
  simp only [confObs,Option.some.injEq] at hc
  subst hc
  exact⟨Le.refl c,id,fun l0 x0 h0=>by simp [injObs] at h0⟩
 | .gone::r,l,c,c',hc,hF,hz=>confObs_ok X S (obs:=r) (l:=l+1) hc hF hz
 | .var ss::r,l,c,c',hc,hF,_=>by
  simp only [confObs] at hc
  split at hc
  ·rename_i o hl
   split at hc
   ·rename_i cs ho
    split at hc
    ·rename_i c1 h1
     obtain⟨a1,a3,a4⟩:=confObs_ok X S hc hF (.inr trivial)
     obtain⟨b1,b2,b3,b4⟩:=confCells_ok X h1 (a1.trans hF)
     refine⟨b1.trans a1,fun k=>a3 (b3 k),fun l0 x0 h0=>?_⟩
     have e1:injObs E0 F.ds (.var ss::r) l c.ds.length l0=bif Nat.beq l0 l then some (.var (injCells E0 F.ds ss c.ds.length).1) else injObs E0 F.ds r (l+1) c1.ds.length l0:=by
      simp only [injObs];rw [← b2]
     rw [e1] at h0
     cases e:Nat.beq l0 l with
     |false=>rw [e] at h0;exact a4 l0 x0 h0
     |true=>
      rw [e] at h0
      have e:l0=l:=beq_iff.1 e
      subst e
      simp only [cond_true,Option.some.injEq] at h0
      subst h0
      have hlF:=((b1.trans a1).trans hF).ren _ _ hl
      obtain⟨cc,ee,k1,k2,k3⟩:=S.ob _ _ ho
      obtain⟨x1,x2⟩:=b4 _ k2 (S.use _ _ ho).2
      have hblk:(gOf g gF F.ren).blk l0=g.blk o:=by simp [gOf,hlF]
      refine⟨⟨cc,ee,by rw [hblk];exact k1,x1,k3.1,fun t o' f hm=>by obtain⟨o'',f',hm'⟩:=confCells_bp h1 (injCells_bp hm);exact k3.2 _ _ _ hm'⟩,x2,o,_,hlF,ho,fun b hb=>?_⟩
      simp only [obk,hblk] at hb
      exact hb
    ·cases hc
   ·cases hc
  ·cases hc
 | .row e sz m::r,l,c,c',hc,hF,_=>by
  simp only [confObs] at hc
  split at hc
  ·rename_i o hl
   split at hc
   ·rename_i e' sz' xs ho
    obtain⟨hb,hc⟩:=bif_some hc
    simp only [Bool.and_eq_true] at hb
    have he:e=e':=beq_iff.1 hb.1
    have hsz:sz=sz':=beq_iff.1 hb.2
    obtain⟨a1,a3,a4⟩:=confObs_ok X S hc hF (.inr trivial)
    have b1:Le c ⟨c.ds++[.lst sz xs],c.fz,c.ren⟩:=⟨⟨_,rfl⟩,fun _ h=>h,fun _ _ h=>h⟩
    refine⟨b1.trans a1,a3,fun l0 x0 h0=>?_⟩
    have hn:nth F.ds c.ds.length = .lst sz xs:=Le.nth (a1.trans hF)
    have e1:injObs E0 F.ds (.row e sz m::r) l c.ds.length l0=bif Nat.beq l0 l then some (.row e sz xs false) else injObs E0 F.ds r (l+1) (c.ds.length+1) l0:=by
     simp only [injObs,hn,D.l]
    rw [e1] at h0
    cases e2:Nat.beq l0 l with
    |false=>rw [e2] at h0;exact a4 l0 x0 (by simpa using h0)
    |true=>
     rw [e2] at h0
     have e2:l0=l:=beq_iff.1 e2
     subst e2
     simp only [cond_true,Option.some.injEq] at h0
     subst h0
     have hlF:=((b1.trans a1).trans hF).ren _ _ hl
     obtain⟨us,k1,k2,k3⟩:=S.ob _ _ ho
     have hhdr:(gOf g gF F.ren).hdr l0=g.hdr o:=by simp [gOf,hlF]
     refine⟨⟨us,by rw [hsz];exact k1,?_,?_⟩,trivial,o,_,hlF,ho,fun b hb'=>?_⟩
     ·rw [hhdr,he,hsz];exact k2
     ·rw [hsz];exact VDf_mono X.a.h _ _ _ k3
     ·simp only [obk,hhdr] at hb'
      exact hb'
   ·cases hc
  ·cases hc
 | .mp kt::r,l,c,c',hc,hF,_=>by
  simp only [confObs] at hc
  split at hc
  ·rename_i o hl
   split at hc
   ·rename_i kt' xs ho
    obtain⟨hb,hc⟩:=bif_some hc
    have hk:kt=kt':=LTy.same_eq hb
    obtain⟨a1,a3,a4⟩:=confObs_ok X S hc hF (.inr trivial)
    have b1:Le c ⟨c.ds++[.lst 2 xs],c.fz,c.ren⟩:=⟨⟨_,rfl⟩,fun _ h=>h,fun _ _ h=>h⟩
    refine⟨b1.trans a1,a3,fun l0 x0 h0=>?_⟩
    have hn:nth F.ds c.ds.length = .lst 2 xs:=Le.nth (a1.trans hF)
    have e1:injObs E0 F.ds (.mp kt::r) l c.ds.length l0=bif Nat.beq l0 l then some (.mp kt xs) else injObs E0 F.ds r (l+1) (c.ds.length+1) l0:=by
     simp only [injObs,hn,D.l]
    rw [e1] at h0
    cases e2:Nat.beq l0 l with
    |false=>rw [e2] at h0;exact a4 l0 x0 (by simpa using h0)
    |true=>
     rw [e2] at h0
     have e2:l0=l:=beq_iff.1 e2
     subst e2
     simp only [cond_true,Option.some.injEq] at h0
     subst h0
     have hlF:=((b1.trans a1).trans hF).ren _ _ hl
     obtain⟨es,clock,k1,k2,kb⟩:=S.ob _ _ ho
     have hblk:(gOf g gF F.ren).blk l0=g.blk o:=by simp [gOf,hlF]
     refine⟨⟨es,clock,by rw [hblk];exact k1,?_,kb⟩,trivial,o,_,hlF,ho,fun b hb'=>?_⟩
     ·rw [hk];exact k2.mono fun _ _ _ k=>⟨VD_mono X.a.h _ _ k.1,VD_mono X.a.h _ _ k.2.1,k.2.2⟩
     ·simp only [obk,hblk] at hb'
      exact hb'
   ·cases hc
  ·cases hc
 | .nst e ie sz m::r,l,c,c',hc,hF,_=>by
  simp only [confObs] at hc
  split at hc
  ·rename_i o hl
   split at hc
   ·rename_i e' ie' sz' xs ho
    replace hc:=bif_some hc
    obtain⟨hb,hc⟩:=hc
    simp only [Bool.and_eq_true] at hb
    obtain rfl:e=e':=beq_iff.1 hb.1.1
    obtain rfl:ie=ie':=beq_iff.1 hb.1.2
    obtain rfl:sz=sz':=beq_iff.1 hb.2
    obtain⟨a1,a3,a4⟩:=confObs_ok X S hc hF (.inr trivial)
    have b1:Le c ⟨c.ds++[.lst 1 xs],c.fz,c.ren⟩:=⟨⟨_,rfl⟩,fun _ h=>h,fun _ _ h=>h⟩
    refine⟨b1.trans a1,a3,fun l0 x0 h0=>?_⟩
    have hn:nth F.ds c.ds.length = .lst 1 xs:=Le.nth (a1.trans hF)
    have e1:injObs E0 F.ds (.nst e ie sz m::r) l c.ds.length l0=bif Nat.beq l0 l then some (.nst e ie sz xs) else injObs E0 F.ds r (l+1) (c.ds.length+1) l0:=by
     simp only [injObs,hn,D.l]
    rw [e1] at h0
    cases e2:Nat.beq l0 l with
    |false=>rw [e2] at h0;exact a4 l0 x0 (by simpa using h0)
    |true=>
     rw [e2] at h0
     have e2:l0=l:=beq_iff.1 e2
     subst e2
     simp only [cond_true,Option.some.injEq] at h0
     subst h0
     have hlF:=((b1.trans a1).trans hF).ren _ _ hl
     obtain⟨k0,⟨us,k1,k2⟩,k3⟩:=S.ob _ _ ho
     have hhdr:(gOf g gF F.ren).hdr l0=g.hdr o:=by simp [gOf,hlF]
     have hih:(gOf g gF F.ren).ihdr l0=g.ihdr o:=by simp [gOf,hlF]
     refine⟨⟨k0,⟨us,by rw [hhdr];exact k1,fun j x hx=>?_⟩,by simpa only [hhdr,hih] using k3⟩,trivial,o,_,hlF,ho,fun b hb'=>by simpa only [obk,hhdr,hih] using hb'⟩
     obtain⟨v,hv,k⟩:=k2 j x hx
     refine⟨v,hv,?_⟩
     rcases k with ⟨m1,m2,m3,m4,m5⟩|⟨ys,vs,m1,m2,m3,m4,m5,m6⟩
     ·exact .inl ⟨m1,m2,m3,m4,by rw [hih];exact m5⟩
     ·exact .inr ⟨ys,vs,m1,m2,by rw [hih];exact m3,m4,m5,VDf_mono X.a.h _ _ _ m6⟩
   ·cases hc
  ·cases hc
 | .it t l'::r,l,c,c',hc,hF,_=>by
  simp only [confObs] at hc
  split at hc
  ·rename_i o hl
   split at hc
   ·rename_i t' mo xs ho
    have hk:t=t':=beq_iff.1 (bif_some hc).1
    replace hc:=(bif_some hc).2
    subst hk
    split at hc
    ·rename_i ren hr
     obtain⟨r1,r2,r3⟩:=addR_ok hr
     obtain⟨a1,a3,a4⟩:=confObs_ok X S hc hF (.inr trivial)
     have b1:Le c ⟨c.ds++[.lst 0 xs],c.fz,ren⟩:=⟨⟨_,rfl⟩,fun _ h=>h,r2⟩
     refine⟨b1.trans a1,fun k=>a3 (r3 k),fun l0 x0 h0=>?_⟩
     have hn:nth F.ds c.ds.length = .lst 0 xs:=Le.nth (c:=⟨c.ds,c.fz,ren⟩) (a1.trans hF)
     have e1:injObs E0 F.ds (.it t l'::r) l c.ds.length l0=bif Nat.beq l0 l then some (.it t l' xs) else injObs E0 F.ds r (l+1) (c.ds.length+1) l0:=by
      simp only [injObs,hn,D.l]
     rw [e1] at h0
     cases e2:Nat.beq l0 l with
     |false=>rw [e2] at h0;exact a4 l0 x0 (by simpa using h0)
     |true=>
      rw [e2] at h0
      have e2:l0=l:=beq_iff.1 e2
      subst e2
      simp only [cond_true,Option.some.injEq] at h0
      subst h0
      have hlF:=((b1.trans a1).trans hF).ren _ _ hl
      have hmF:=(a1.trans hF).ren _ _ r1
      obtain⟨n,ns,k0,k1⟩:=S.ob _ _ ho
      have hblk:(gOf g gF F.ren).blk l0=g.blk o:=by simp [gOf,hlF]
      have hblm:(gOf g gF F.ren).blk l'=g.blk mo:=by simp [gOf,hmF]
      refine⟨⟨n,ns,k0,by rw [hblk,hblm];exact k1⟩,X.q _ _ hmF,o,_,hlF,ho,fun b hb'=>?_⟩
      simp only [obk,hblk] at hb'
      exact hb'
    ·cases hc
   ·cases hc
  ·cases hc
theorem injectE_h (E:Ty→D→D)(sk:Sk)(ds:List D):(injectE E sk ds).h=injObs E ds sk.objs 0 (injSlots E ds sk.slots 0).2:=rfl
structure Meets (u:Nat→Option Obj) (p:Nat→Prop) (g gF:G) (st:St) (tm:Nat→Value) (w:World) (sk:Sk) (pre:List (Nat×Nat)) (cf:Cf):Prop where
 a:Agree p g gF
 blk:gF.blk=g.blk
 hdr:gF.hdr=g.hdr
 ihdr:gF.ihdr=g.ihdr
 S:SimH u p gF (freezeH st.h cf.fz) w
 tm:∀ t,VV (gOf g gF cf.ren) ((injectE E0 sk cf.ds).t t) (tm t)
 nm:∀ t,((injectE E0 sk cf.ds).t t).uses (·<sk.objs.length)
 ob:∀ l x0,(injectE E0 sk cf.ds).h l=some x0→Stands g (gOf g gF cf.ren) p (·<sk.objs.length) st.h w cf.ren l x0
 one:OneR cf.ren
 pre:∀ l o,lookN pre l=some o→lookN cf.ren l=some o
 lt:∀ l o,lookN cf.ren l=some o→o∉cf.fz∧l<sk.objs.length
theorem conf_sound {sk:Sk}{pre:List (Nat×Nat)}{st:St}{tm:Nat→Value}{cf:Cf}(hc:conf sk pre st=some cf)(S:SimH u p g st.h w)(ht:∀ t,VV g (st.t t) (tm t))(hu:∀ t,(st.t t).uses p)(hpre:OneR pre) :
  ∃ gF,Meets u p g gF st tm w sk pre cf:=by
 unfold conf at hc
 split at hc
 ·rename_i c1 h1
  split at hc
  ·rename_i c2 h2
   obtain⟨hb,hc⟩:=bif_some hc
   cases hc
   simp only [Bool.and_eq_true] at hb
   obtain⟨gF,f1,f2,f3,f4,f5,f6⟩:=S.freeze cf.fz
   have X:CX u p (·<sk.objs.length) g gF st.h w cf:=⟨f4,f1,fun l o h=>lessR_ok hb.2 l o h,f5⟩
   obtain⟨a1,a2,a3⟩:=confObs_ok X S h2 (Le.refl cf) (.inr trivial)
   obtain⟨b1,b2,b3,b4⟩:=confSlots_ok X ht hu h1 a1
   have e:(injSlots E0 cf.ds sk.slots 0).2=c1.ds.length:=b2.symm
   refine⟨gF,f1,f2,f3,f6,f4,fun t=>(b4 t).1,fun t=>(b4 t).2,fun l x0 h0=>?_,a2 (b3 hpre),fun l o h=>a1.ren l o (b1.ren l o h),fun l o h=>⟨apartR_ok hb.1 l o h,lessR_ok hb.2 l o h⟩⟩
   rw [injectE_h,e] at h0
   exact a3 l x0 h0
  ·cases hc
 ·cases hc
theorem Meets.sim {sk:Sk}{pre:List (Nat×Nat)}{st:St}{tm:Nat→Value}{cf:Cf}(M:Meets u p g gF st tm w sk pre cf)(S0:SimH u p g st.h w) :
  SimH u (·<sk.objs.length) (gOf g gF cf.ren) (injectE E0 sk cf.ds).h w:=by
 have blkn:∀ l x0 b,(injectE E0 sk cf.ds).h l=some x0→obk (gOf g gF cf.ren) l x0 b→∃ o x,lookN cf.ren l=some o∧freezeH st.h cf.fz o=some x∧obk gF o x b:=by
  intro l x0 b h0 hb
  obtain⟨_,_,o,x,h1,h2,h3⟩:=M.ob l x0 h0
  refine⟨o,x,h1,by rw [freezeH_not _ _ _ (M.lt l o h1).1];exact h2,?_⟩
  rw [obk_agree M.a.w (S0.use _ _ h2).1 fun i=>by rw [M.ihdr]]
  exact h3 b hb
 refine⟨M.S.frz,M.S.unt,fun l x0 h0=>(M.ob l x0 h0).1,fun l x0 b h0 hb=>?_,fun l l' x0 x0' b h0 h0' hb hb'=>?_,fun l x0 h0=>?_,M.S.dj⟩
 ·obtain⟨o,x,_,h2,h3⟩:=blkn l x0 b h0 hb
  exact M.S.sep o x b h2 h3
 ·obtain⟨o,x,h1,h2,h3⟩:=blkn l x0 b h0 hb
  obtain⟨o',x',h1',h2',h3'⟩:=blkn l' x0' b h0' hb'
  have:=M.S.inj o o' x x' b h2 h2' h3 h3'
  subst this
  exact M.one l l' o h1 h1'
 ·obtain⟨_,h1,o,x,h2,_⟩:=M.ob l x0 h0
  exact⟨(M.lt l o h2).2,h1⟩
def Pos (ds:List D)(j:Nat)(rest:List D):Prop:=∃ pre,pre.length=j∧ds=pre++rest
def LV (g:G)(q:Nat→Prop)(x:V)(v:Value):Prop:=VL g x v∧x.usesL q
def AV (g:G)(q:Nat→Prop)(x:V)(v:Value):Prop:=VA g x v∧x.usesA q
theorem exp_leaf {ds:List D}{s:SV}{v:Value}{j:Nat}{rest:List D}(hp:Pos ds j rest)(hc:(chkLeaf s rest).1=true)(h:LV g q (injLeaf E0 ds s j).1 v) :
  LV g q (injLeaf expTy ds s j).1 v∧Pos ds (injLeaf E0 ds s j).2 (chkLeaf s rest).2∧(injLeaf expTy ds s j).2=(injLeaf E0 ds s j).2:=by
 match s,hc,h with
 | .d t,hc,h=>
  obtain⟨pre,hp1,hp2⟩:=hp
  cases rest with
  |nil=>simp [chkLeaf] at hc
  |cons x rest=>
   have hn:nth ds j=x:=by rw [hp2,← hp1];exact nth_at _ _ _
   simp only [injLeaf,hn,E0] at h ⊢
   exact⟨⟨okTy_exp hc h.1,trivial⟩,⟨pre++[x],by simp [hp1],by rw [hp2];simp [chkLeaf]⟩,trivial⟩
 | .ptr ..,_,h=>exact⟨h,hp,rfl⟩
 | .row ..,_,h=>exact⟨h,hp,rfl⟩
 | .mp ..,_,h=>exact⟨h,hp,rfl⟩
 | .bp ..,_,h=>exact⟨h,hp,rfl⟩
 | .fn ..,_,h=>exact⟨h,hp,rfl⟩
 | .agg ..,_,h=>exact⟨h,hp,rfl⟩
 | .x,_,h=>exact⟨h,hp,rfl⟩
theorem exp_list {ds:List D}:∀ {ss:List SV} {vs:List Value} {j:Nat} {rest:List D},Pos ds j rest→(chkList ss rest).1=true→F2 (LV g q) (injList E0 ds ss j).1 vs→
  F2 (LV g q) (injList expTy ds ss j).1 vs∧Pos ds (injList E0 ds ss j).2 (chkList ss rest).2∧(injList expTy ds ss j).2=(injList E0 ds ss j).2
 |[],vs,j,rest,hp,_,h=>⟨h,hp,rfl⟩
 |s::ss,vs,j,rest,hp,hc,h=>by
  simp only [chkList,Bool.and_eq_true] at hc
  simp only [injList] at h ⊢
  cases h with
  |cons h1 h2=>
   obtain⟨a1,a2,a3⟩:=exp_leaf hp hc.1 h1
   rw [a3]
   obtain⟨b1,b2,b3⟩:=exp_list a2 hc.2 h2
   exact⟨.cons a1 b1,b2,b3⟩
def Leafy (x:V):Prop:=leafize x=x
theorem injLeaf_leafy {E:Ty→D→D}{ds:List D}(s:SV)(j:Nat):Leafy (injLeaf E ds s j).1:=by cases s<;>rfl
theorem injList_leafy {E:Ty→D→D}{ds:List D}:∀ (ss:List SV) (j:Nat),∀ x∈(injList E ds ss j).1,Leafy x
 |[],_,x,h=>by cases h
 |s::ss,j,x,h=>by
  simp only [injList] at h
  rcases List.mem_cons.1 h with rfl|h
  ·exact injLeaf_leafy s j
  ·exact injList_leafy ss _ x h
theorem allD_map:∀ {cs:List V} {xs:List D},allD cs=some xs→cs=xs.map V.d
 |[],xs,h=>by simp only [allD,Option.some.injEq] at h;subst h;rfl
 |c::cs,xs,h=>by
  simp only [allD] at h
  split at h
  ·rename_i x xs' e
   simp only [Option.some.injEq] at h
   subst h
   rw [allD_map e];rfl
  ·cases h
theorem F2.both {α β:Type}{R:α→β→Prop}{S:α→Prop}{zs:List α}{bs:List β}(h:F2 R zs bs)(hs:∀ a∈zs,S a):F2 (fun a b=>R a b∧S a) zs bs:=by
 induction h with
 |nil=>exact .nil
 |cons h1 _ ih=>exact .cons ⟨h1,hs _ (by simp)⟩ (ih fun a ha=>hs a (by simp [ha]))
theorem mkAgg_inv {cs:List V}{v:Value}(hl:∀ c∈cs,Leafy c)(h:AV g q (mkAgg cs) v):∃ us:Array Value,v = .agg us∧F2 (LV g q) cs us.toList:=by
 obtain⟨h1,h2⟩:=h
 unfold mkAgg at h1 h2
 split at h1
 ·rename_i xs e
  obtain⟨us,rfl,h3⟩:=h1
  refine⟨us,rfl,?_⟩
  rw [allD_map e]
  exact F2.map_left (((VDs_F2 _ _ _).1 h3).mono fun _ _ _ h=>⟨h,trivial⟩)
 ·rename_i e
  rw [e] at h2
  have e2:cs.map leafize=cs:=by
   conv=>rhs;rw [← List.map_id cs]
   exact List.map_congr_left fun c hc=>hl c hc
  simp only [e2] at h1 h2
  obtain⟨us,rfl,h3⟩:=h1
  exact⟨us,rfl,F2.both h3 h2⟩
theorem mkAgg_intro {cs:List V}{us:Array Value}(h:F2 (LV g q) cs us.toList):AV g q (mkAgg cs) (.agg us):=by
 have:=mkAgg_VA (h.mono fun _ _ _ h=>VA_of_VL h.1)
 rw [Array.toArray_toList] at this
 refine⟨this,mkAgg_uses fun y hy=>?_⟩
 obtain⟨b,_,hb⟩:=h.mem y hy
 exact VL_usesA hb.1 hb.2
theorem exp_V {ds:List D}{s:SV}{v:Value}{j:Nat}{rest:List D}(hp:Pos ds j rest)(hc:(chkV s rest).1=true)(h:AV g q (injV E0 ds s j).1 v) :
  AV g q (injV expTy ds s j).1 v∧Pos ds (injV E0 ds s j).2 (chkV s rest).2∧(injV expTy ds s j).2=(injV E0 ds s j).2:=by
 have leaf:∀ s,(∀ E,injV E ds s j=injLeaf E ds s j)→chkV s rest=chkLeaf s rest→(chkV s rest).1=true→AV g q (injV E0 ds s j).1 v→
   AV g q (injV expTy ds s j).1 v∧Pos ds (injV E0 ds s j).2 (chkV s rest).2∧(injV expTy ds s j).2=(injV E0 ds s j).2:=by
  intro s e1 e2 hc h
  rw [e1,e1,e2] at *
  have hl:LV g q (injLeaf E0 ds s j).1 v:=by
   match s,h with
   | .d _,h=>exact h
   | .ptr ..,h=>exact h
   | .row ..,h=>exact h
   | .mp ..,h=>exact h
   | .bp ..,h=>exact h
   | .fn ..,h=>exact h
   | .agg ..,h=>exact h
   | .x,h=>exact h
  obtain⟨a1,a2,a3⟩:=exp_leaf hp hc hl
  exact⟨⟨VA_of_VL a1.1,VL_usesA a1.1 a1.2⟩,a2,a3⟩
 match s,hc,h with
 | .fn f [],hc,h=>
  refine leaf (.fn f []) (fun E=>rfl) ?_ hc h
  simp [chkV,chkLeaf,chkList]
 | .fn f (c::caps),hc,h=>
  have hc:(chkList (c::caps) rest).1=true:=hc
  have e:∀ E,injV E ds (.fn f (c::caps)) j=(.fn f (injList E ds (c::caps) j).1,(injList E ds (c::caps) j).2):=fun E=>rfl
  rw [e,e] at *
  have hlen:=injList_length (E:=E0) (ds:=ds) (c::caps) j
  have hlen':=injList_length (E:=expTy) (ds:=ds) (c::caps) j
  obtain⟨h1,h2⟩:=h
  have hF:∃ us:Array Value,v = .func (.func f) #[] us∧F2 (LV g q) (injList E0 ds (c::caps) j).1 us.toList:=by
   simp only [] at h1 h2
   generalize (injList E0 ds (c::caps) j).1=xs at *
   cases xs with
   |nil=>simp at hlen
   |cons x xs=>
    obtain⟨us,rfl,h3⟩:=h1
    exact⟨us,rfl,F2.both h3 h2⟩
  obtain⟨us,rfl,h3⟩:=hF
  obtain⟨a1,a2,a3⟩:=exp_list hp hc h3
  refine⟨?_,a2,a3⟩
  simp only [] at *
  generalize (injList expTy ds (c::caps) j).1=ys at *
  cases ys with
  |nil=>simp at hlen'
  |cons y ys=>
   refine⟨⟨us,rfl,a1.mono fun _ _ _ h=>h.1⟩,fun z hz=>?_⟩
   obtain⟨b,_,hb⟩:=a1.mem z hz
   exact hb.2
 | .agg ss,hc,h=>
  have hc:(chkList ss rest).1=true:=hc
  have e:∀ E,injV E ds (.agg ss) j=(mkAgg (injList E ds ss j).1,(injList E ds ss j).2):=fun E=>rfl
  rw [e,e] at *
  obtain⟨us,rfl,h3⟩:=mkAgg_inv (injList_leafy ss j) h
  obtain⟨a1,a2,a3⟩:=exp_list hp hc h3
  exact⟨mkAgg_intro a1,a2,a3⟩
 | .d t,hc,h=>exact leaf (.d t) (fun E=>rfl) rfl hc h
 | .ptr ..,hc,h=>exact leaf (.ptr ..) (fun E=>rfl) rfl hc h
 | .row ..,hc,h=>exact leaf (.row ..) (fun E=>rfl) rfl hc h
 | .mp ..,hc,h=>exact leaf (.mp ..) (fun E=>rfl) rfl hc h
 | .bp ..,_,h=>exact⟨h,hp,rfl⟩
 | .x,hc,h=>exact leaf .x (fun E=>rfl) rfl hc h
theorem exp_cells {ds:List D}:∀ {ss:List SV} {vs:List Value} {j:Nat} {rest:List D},Pos ds j rest→(chkCells ss rest).1=true→F2 (AV g q) (injCells E0 ds ss j).1 vs→
  F2 (AV g q) (injCells expTy ds ss j).1 vs
 |[],vs,j,rest,hp,_,h=>h
 |s::ss,vs,j,rest,hp,hc,h=>by
  simp only [chkCells,Bool.and_eq_true] at hc
  simp only [injCells] at h ⊢
  cases h with
  |cons h1 h2=>
   obtain⟨a1,a2,a3⟩:=exp_V hp hc.1 h1
   rw [a3]
   exact .cons a1 (exp_cells a2 hc.2 h2)
theorem pos_leaf {E:Ty→D→D}{ds:List D}{s:SV}{j:Nat}{rest:List D}(hp:Pos ds j rest)(hc:(chkLeaf s rest).1=true):Pos ds (injLeaf E ds s j).2 (chkLeaf s rest).2∧(injLeaf E ds s j).2=(injLeaf E0 ds s j).2:=by
 match s,hc with
 | .d t,hc=>
  obtain⟨pre,hp1,hp2⟩:=hp
  cases rest with
  |nil=>simp [chkLeaf] at hc
  |cons x rest=>exact⟨⟨pre++[x],by simp [hp1,injLeaf],by rw [hp2];simp [chkLeaf]⟩,rfl⟩
 | .ptr ..,_=>exact⟨hp,rfl⟩
 | .row ..,_=>exact⟨hp,rfl⟩
 | .mp ..,_=>exact⟨hp,rfl⟩
 | .bp ..,_=>exact⟨hp,rfl⟩
 | .fn ..,_=>exact⟨hp,rfl⟩
 | .agg ..,_=>exact⟨hp,rfl⟩
 | .x,_=>exact⟨hp,rfl⟩
theorem pos_list {E:Ty→D→D}{ds:List D}:∀ {ss:List SV} {j:Nat} {rest:List D},Pos ds j rest→(chkList ss rest).1=true→Pos ds (injList E ds ss j).2 (chkList ss rest).2∧(injList E ds ss j).2=(injList E0 ds ss j).2
 |[],j,rest,hp,_=>⟨hp,rfl⟩
 |s::ss,j,rest,hp,hc=>by
  simp only [chkList,Bool.and_eq_true] at hc
  simp only [injList]
  obtain⟨a1,a2⟩:=pos_leaf (E:=E) hp hc.1
  obtain⟨b1,b2⟩:=pos_list (E:=E) a1 hc.2
  exact⟨b1,by rw [b2,a2]⟩
theorem pos_V {E:Ty→D→D}{ds:List D}{s:SV}{j:Nat}{rest:List D}(hp:Pos ds j rest)(hc:(chkV s rest).1=true):Pos ds (injV E ds s j).2 (chkV s rest).2∧(injV E ds s j).2=(injV E0 ds s j).2:=by
 match s,hc with
 | .fn f [],hc=>exact⟨hp,rfl⟩
 | .fn f (c::caps),hc=>exact pos_list (ss:=c::caps) hp hc
 | .agg ss,hc=>exact pos_list (ss:=ss) hp hc
 | .d t,hc=>exact pos_leaf (s:= .d t) hp hc
 | .ptr ..,hc=>exact⟨hp,rfl⟩
 | .row ..,hc=>exact⟨hp,rfl⟩
 | .mp ..,hc=>exact⟨hp,rfl⟩
 | .bp ..,hc=>exact⟨hp,rfl⟩
 | .x,hc=>exact⟨hp,rfl⟩
theorem pos_cells {E:Ty→D→D}{ds:List D}:∀ {ss:List SV} {j:Nat} {rest:List D},Pos ds j rest→(chkCells ss rest).1=true→Pos ds (injCells E ds ss j).2 (chkCells ss rest).2∧(injCells E ds ss j).2=(injCells E0 ds ss j).2
 |[],j,rest,hp,_=>⟨hp,rfl⟩
 |s::ss,j,rest,hp,hc=>by
  simp only [chkCells,Bool.and_eq_true] at hc
  simp only [injCells]
  obtain⟨a1,a2⟩:=pos_V (E:=E) hp hc.1
  obtain⟨b1,b2⟩:=pos_cells (E:=E) a1 hc.2
  exact⟨b1,by rw [b2,a2]⟩
theorem mkAgg_VV {cs:List V}{v:Value}(h:VV g (mkAgg cs) v)(hu:(mkAgg cs).uses q):AV g q (mkAgg cs) v:=by
 unfold mkAgg at *
 split
 ·rename_i xs e;rw [e] at h;exact⟨h,trivial⟩
 ·rename_i e;rw [e] at h hu;exact⟨h,hu⟩
theorem injV_AV {E:Ty→D→D}{ds:List D}{s:SV}{j:Nat}{v:Value}(h:VV g (injV E ds s j).1 v)(hu:(injV E ds s j).1.uses q):AV g q (injV E ds s j).1 v:=by
 match s,h,hu with
 | .fn f [],h,_=>exact⟨h,trivial⟩
 | .fn f (c::caps),h,hu=>
  simp only [injV,injList] at h hu ⊢
  exact⟨h,hu⟩
 | .agg ss,h,hu=>exact mkAgg_VV h hu
 | .d t,h,_=>exact⟨h,trivial⟩
 | .ptr ..,h,hu=>exact⟨h,hu⟩
 | .row ..,h,hu=>exact⟨h,hu⟩
 | .mp ..,h,hu=>exact⟨h,hu⟩
 | .bp ..,h,hu=>exact⟨h,hu⟩
 | .x,h,_=>exact⟨h,trivial⟩
theorem exp_slots {ds:List D}{tm:Nat→Value}:∀ {sl:List (Nat×SV)} {j:Nat} {rest:List D},Pos ds j rest→(chkSlots sl rest).1=true→
  Pos ds (injSlots E0 ds sl j).2 (chkSlots sl rest).2∧(injSlots expTy ds sl j).2=(injSlots E0 ds sl j).2∧
  (∀ t,VV g ((injSlots E0 ds sl j).1 t) (tm t)∧((injSlots E0 ds sl j).1 t).uses q→VV g ((injSlots expTy ds sl j).1 t) (tm t)∧((injSlots expTy ds sl j).1 t).uses q)
 |[],j,rest,hp,_=>⟨hp,rfl,fun _=>id⟩
 |(t0,s)::sl,j,rest,hp,hc=>by
  simp only [chkSlots,Bool.and_eq_true] at hc
  obtain⟨a1,_⟩:=pos_V (E:=E0) hp hc.1
  obtain⟨_,a2⟩:=pos_V (E:=expTy) hp hc.1
  obtain⟨b1,b2,b3⟩:=exp_slots (tm:=tm) a1 hc.2
  simp only [injSlots,chkSlots]
  rw [a2]
  refine⟨b1,b2,fun t ht=>?_⟩
  by_cases e:t=t0
  ·subst e
   rw [beq_iff.2 rfl] at ht ⊢
   have h1:=injV_AV ht.1 ht.2
   obtain⟨c1,_,_⟩:=exp_V hp hc.1 h1
   exact⟨VV_of_VA c1.1,uses_of_A c1.2⟩
  ·have:Nat.beq t t0=false:=by
    cases k:Nat.beq t t0 with
    |true=>exact absurd (beq_iff.1 k) e
    |false=>rfl
   rw [this] at ht ⊢
   exact b3 t ht
theorem exp_obs {ds:List D}{w:World}:∀ {obs:List SOb} {l j:Nat} {rest:List D},Pos ds j rest→chkObs obs rest=true→∀ l0 x,injObs expTy ds obs l j l0=some x→
  ∃ x0,injObs E0 ds obs l j l0=some x0∧(OB g l0 x0 w→x0.uses q→OB g l0 x w∧x.uses q)∧(∀ b,obk g l0 x b→obk g l0 x0 b)
 |[],l,j,rest,hp,hc,l0,x,h=>by simp [injObs] at h
 | .gone::r,l,j,rest,hp,hc,l0,x,h=>exp_obs (obs:=r) (l:=l+1) hp hc l0 x h
 | .var ss::r,l,j,rest,hp,hc,l0,x,h=>by
  simp only [chkObs,Bool.and_eq_true] at hc
  obtain⟨a1,_⟩:=pos_cells (E:=E0) hp hc.1
  obtain⟨_,a2⟩:=pos_cells (E:=expTy) hp hc.1
  simp only [injObs] at h ⊢
  rw [a2] at h
  cases e:Nat.beq l0 l with
  |false=>rw [e] at h;simpa using exp_obs a1 hc.2 l0 x (by simpa using h)
  |true=>
   rw [e] at h
   simp only [cond_true,Option.some.injEq] at h
   subst h
   refine⟨_,rfl,fun ho hu=>?_,fun b hb=>hb⟩
   obtain⟨c,ee,k1,k2,k3⟩:=ho
   have h1:F2 (AV g q) (injCells E0 ds ss j).1 c.toList:=F2.both k2 hu
   have h2:=exp_cells hp hc.1 h1
   refine⟨⟨c,ee,k1,h2.mono fun _ _ _ h=>h.1,k3.1,fun t o' f hm=>k3.2 _ _ _ (injCells_mem (injCells_bp hm))⟩,fun y hy=>?_⟩
   obtain⟨b,_,hb⟩:=h2.mem y hy
   exact hb.2
 | .row e sz m::r,l,j,[],hp,hc,l0,x,h=>by simp [chkObs] at hc
 | .row e sz m::r,l,j,y::rest,hp,hc,l0,x,h=>by
  simp only [chkObs,Bool.and_eq_true] at hc
  obtain⟨pre,hp1,hp2⟩:=hp
  have a1:Pos ds (j+1) rest:=⟨pre++[y],by simp [hp1],by rw [hp2];simp⟩
  simp only [injObs] at h ⊢
  cases e2:Nat.beq l0 l with
  |false=>rw [e2] at h;simpa using exp_obs a1 hc.2 l0 x (by simpa using h)
  |true=>
   rw [e2] at h
   simp only [cond_true,Option.some.injEq] at h
   subst h
   exact⟨_,rfl,fun ho hu=>⟨ho,hu⟩,fun b hb=>hb⟩
 | .it t l'::r,l,j,[],hp,hc,l0,x,h=>by simp [chkObs] at hc
 | .it t l'::r,l,j,y::rest,hp,hc,l0,x,h=>by
  simp only [chkObs,Bool.and_eq_true] at hc
  obtain⟨pre,hp1,hp2⟩:=hp
  have a1:Pos ds (j+1) rest:=⟨pre++[y],by simp [hp1],by rw [hp2];simp⟩
  simp only [injObs] at h ⊢
  cases e2:Nat.beq l0 l with
  |false=>rw [e2] at h;simpa using exp_obs a1 hc.2 l0 x (by simpa using h)
  |true=>
   rw [e2] at h
   simp only [cond_true,Option.some.injEq] at h
   subst h
   exact⟨_,rfl,fun ho hu=>⟨ho,hu⟩,fun b hb=>hb⟩
 | .mp kt::r,l,j,[],hp,hc,l0,x,h=>by simp [chkObs] at hc
 | .mp kt::r,l,j,y::rest,hp,hc,l0,x,h=>by
  simp only [chkObs,Bool.and_eq_true] at hc
  obtain⟨pre,hp1,hp2⟩:=hp
  have a1:Pos ds (j+1) rest:=⟨pre++[y],by simp [hp1],by rw [hp2];simp⟩
  simp only [injObs] at h ⊢
  cases e2:Nat.beq l0 l with
  |false=>rw [e2] at h;simpa using exp_obs a1 hc.2 l0 x (by simpa using h)
  |true=>
   rw [e2] at h
   simp only [cond_true,Option.some.injEq] at h
   subst h
   exact⟨_,rfl,fun ho hu=>⟨ho,hu⟩,fun b hb=>hb⟩
 | .nst e ie sz m::r,l,j,[],hp,hc,l0,x,h=>by simp [chkObs] at hc
 | .nst e ie sz m::r,l,j,y::rest,hp,hc,l0,x,h=>by
  simp only [chkObs,Bool.and_eq_true] at hc
  obtain⟨pre,hp1,hp2⟩:=hp
  have a1:Pos ds (j+1) rest:=⟨pre++[y],by simp [hp1],by rw [hp2];simp⟩
  simp only [injObs] at h ⊢
  cases e2:Nat.beq l0 l with
  |false=>rw [e2] at h;simpa using exp_obs a1 hc.2 l0 x (by simpa using h)
  |true=>
   rw [e2] at h
   simp only [cond_true,Option.some.injEq] at h
   subst h
   exact⟨_,rfl,fun ho hu=>⟨ho,hu⟩,fun b hb=>hb⟩
theorem exp_sim {u:Nat→Option Obj}{sk:Sk}{ds:List D}{tm:Nat→Value}{w:World}(hc:chk sk ds=true)(S:SimH u q g (injectE E0 sk ds).h w)(ht:∀ t,VV g ((injectE E0 sk ds).t t) (tm t)∧((injectE E0 sk ds).t t).uses q) :
  SimH u q g (inject sk ds).h w∧∀ t,VV g ((inject sk ds).t t) (tm t)∧((inject sk ds).t t).uses q:=by
 unfold chk at hc
 simp only [Bool.and_eq_true] at hc
 obtain⟨a1,a2,a3⟩:=exp_slots (g:=g) (q:=q) (tm:=tm) (ds:=ds) (j:=0) (rest:=ds) ⟨[],rfl,rfl⟩ hc.1
 refine⟨?_,fun t=>a3 t (ht t)⟩
 have hob:∀ l x,(inject sk ds).h l=some x→∃ x0,(injectE E0 sk ds).h l=some x0∧(OB g l x0 w→x0.uses q→OB g l x w∧x.uses q)∧(∀ b,obk g l x b→obk g l x0 b):=by
  intro l x h
  have h:injObs expTy ds sk.objs 0 (injSlots expTy ds sk.slots 0).2 l=some x:=h
  rw [a2] at h
  exact exp_obs a1 hc.2 l x h
 refine⟨S.frz,S.unt,fun o x h=>?_,fun o x b h hb=>?_,fun o o' x x' b h h' hb hb'=>?_,fun o x h=>?_,S.dj⟩
 ·obtain⟨x0,h0,h1,_⟩:=hob o x h
  exact (h1 (S.ob _ _ h0) (S.use _ _ h0).2).1
 ·obtain⟨x0,h0,_,h2⟩:=hob o x h
  exact S.sep o x0 b h0 (h2 b hb)
 ·obtain⟨x0,h0,_,h2⟩:=hob o x h
  obtain⟨x0',h0',_,h2'⟩:=hob o' x' h'
  exact S.inj o o' x0 x0' b h0 h0' (h2 b hb) (h2' b hb')
 ·obtain⟨x0,h0,h1,_⟩:=hob o x h
  exact⟨(S.use _ _ h0).1,(h1 (S.ob _ _ h0) (S.use _ _ h0).2).2⟩
end
end Go.AE
namespace Go.AE
open Go.RowKit
open Classical in
noncomputable def rest0 (g0:G) (h0:Nat→Option Ob) (w:World):Nat→Option Obj:=fun b=>
 if ∃ l x0,h0 l=some x0∧obk g0 l x0 b then none else if g0.h b=none then w.heap[b]? else none
section
variable {u:Nat→Option Obj} {p q q1 q2:Nat→Prop} {gH g0 g1 g2:G} {hold h0 h1 h2:Nat→Option Ob} {w w1:World} {R:Nat→Nat→Prop} {f:Nat→Nat}
theorem rest0_some {b:Nat}{y:Obj}(h:rest0 g0 h0 w b=some y):(¬ ∃ l x0,h0 l=some x0∧obk g0 l x0 b)∧g0.h b=none∧w.heap[b]? = some y:=by
 unfold rest0 at h
 split at h
 ·cases h
 ·rename_i k
  split at h
  ·rename_i k';exact⟨k,k',h⟩
  ·cases h
theorem rest0_of {b:Nat}{y:Obj}(h1:¬ ∃ l x0,h0 l=some x0∧obk g0 l x0 b)(h2:g0.h b=none)(h3:w.heap[b]? = some y):rest0 g0 h0 w b=some y:=by
 unfold rest0
 rw [if_neg h1,if_pos h2];exact h3
structure Pass (u:Nat→Option Obj) (p q:Nat→Prop) (gH g0:G) (hold h0:Nat→Option Ob) (w:World) (R:Nat→Nat→Prop):Prop where
 S:SimH u p gH hold w
 S0:SimH u q g0 h0 w
 sub:∀ b x,gH.h b=some x→g0.h b=some x
 ob:∀ l x0,h0 l=some x0→∃ o x,R l o∧hold o=some x∧∀ b,obk g0 l x0 b→obk gH o x b
theorem Pass.sim (X:Pass u p q gH g0 hold h0 w R):SimH (rest0 g0 h0 w) q g0 h0 w:=by
 refine⟨X.S0.frz,fun b x h=>(rest0_some h).2.2,X.S0.ob,fun o x b h hb=>⟨(X.S0.sep o x b h hb).1,?_⟩,X.S0.inj,X.S0.use,fun b=>?_⟩
 ·unfold rest0;rw [if_pos ⟨o,x,h,hb⟩]
 ·cases e:rest0 g0 h0 w b with
  |none=>exact .inr rfl
  |some y=>exact .inl (rest0_some e).2.1
theorem Pass.back (X:Pass u p q gH g0 hold h0 w R)(S1:SimH (rest0 g0 h0 w) q1 g1 h1 w1)(hext:∀ b x,g0.h b=some x→g1.h b=some x)(ha:AgreeW p gH g2)(hsub:∀ b x,g2.h b=some x→g1.h b=some x)
  (hpq:∀ x,p x→q2 x)
  (hobs:∀ x ob,h2 x=some ob→
   (hold x=some ob∧(∀ l x0,h0 l=some x0→¬ R l x)∧(∀ b,obk gH x ob b→g0.h b=none∨g2.h b=none)∧∀ i,g2.ihdr x i=gH.ihdr x i)∨
   (∃ l ob1,h1 l=some ob1∧x=f l∧OB g2 x ob w1∧(∀ b,obk g2 x ob b→obk g1 l ob1 b)∧q2 x∧ob.uses q2)):SimH u q2 g2 h2 w1:=by
 have notPassed:∀ x ob b,hold x=some ob→(∀ l x0,h0 l=some x0→¬ R l x)→obk gH x ob b→¬ ∃ l x0,h0 l=some x0∧obk g0 l x0 b:=by
  rintro x ob b h1 h2 hb ⟨l,x0,h3,h4⟩
  obtain⟨o,x',k1,k2,k3⟩:=X.ob l x0 h3
  have:=X.S.inj x o ob x' b h1 k2 hb (k3 b h4)
  subst this
  exact h2 l x0 h3 k1
 have key:∀ x ob b,hold x=some ob→(∀ l x0,h0 l=some x0→¬ R l x)→(∀ b,obk gH x ob b→g0.h b=none∨g2.h b=none)→obk gH x ob b→
   w1.heap[b]? = w.heap[b]?∧g2.h b=none∧u b=none∧∀ l ob1,h1 l=some ob1→¬ obk g1 l ob1 b:=by
  intro x ob b h1 h2 h3 hb
  have hlt:=obk_lt (X.S.ob _ _ h1) hb
  obtain⟨y,hy⟩:∃ y,w.heap[b]? = some y:=⟨_,Array.getElem?_eq_getElem hlt⟩
  have hnp:=notPassed x ob b h1 h2 hb
  refine⟨?_,?_,(X.S.sep x ob b h1 hb).2,?_⟩
  ·cases e:g0.h b with
   |none=>rw [S1.unt b y (rest0_of hnp e hy),hy]
   |some y'=>rw [S1.frz b y' (hext b y' e),X.S0.frz b y' e]
  ·cases e:g0.h b with
   |none=>
    have h4:=rest0_of hnp e hy
    cases e2:g2.h b with
    |none=>rfl
    |some y2=>
     have:=hsub b y2 e2
     rcases S1.dj b with k|k
     ·rw [this] at k;cases k
     ·rw [h4] at k;cases k
   |some y'=>
    rcases h3 b hb with k|k
    ·rw [e] at k;cases k
    ·exact k
  ·intro l ob1 h5 h6
   obtain⟨k1,k2⟩:=S1.sep l ob1 b h5 h6
   cases e:g0.h b with
   |none=>rw [rest0_of hnp e hy] at k2;cases k2
   |some y'=>rw [hext b y' e] at k1;cases k1
 have ublock:∀ b x,u b=some x→rest0 g0 h0 w b=some x:=by
  intro b x hb
  refine rest0_of ?_ ?_ (X.S.unt b x hb)
  ·rintro ⟨l,x0,h3,h4⟩
   obtain⟨o,x',k1,k2,k3⟩:=X.ob l x0 h3
   have:=(X.S.sep o x' b k2 (k3 b h4)).2
   rw [hb] at this;cases this
  ·rcases X.S0.dj b with k|k
   ·exact k
   ·rw [hb] at k;cases k
 have agr:∀ x ob,hold x=some ob→(∀ i,g2.ihdr x i=gH.ihdr x i)→obk g2 x ob=obk gH x ob:=fun x ob h hi=>obk_agree ha (X.S.use _ _ h).1 hi
 refine⟨fun b x h=>S1.frz b x (hsub b x h),fun b x h=>S1.unt b x (ublock b x h),fun x ob h=>?_,fun x ob b h hb=>?_,fun x x' ob ob' b h h' hb hb'=>?_,fun x ob h=>?_,fun b=>?_⟩
 ·rcases hobs x ob h with ⟨k1,k2,k3,ki⟩|⟨l,ob1,k1,k2,k3,_⟩
  ·exact (X.S.ob _ _ k1).keep ha (X.S.use _ _ k1).1 (X.S.use _ _ k1).2 (fun b hb=>(key x ob b k1 k2 k3 hb).1) ki
  ·exact k3
 ·rcases hobs x ob h with ⟨k1,k2,k3,ki⟩|⟨l,ob1,k1,k2,k3,k4,_⟩
  ·rw [agr x ob k1 ki] at hb
   exact⟨(key x ob b k1 k2 k3 hb).2.1,(key x ob b k1 k2 k3 hb).2.2.1⟩
  ·obtain⟨j1,j2⟩:=S1.sep l ob1 b k1 (k4 b hb)
   constructor
   ·cases e:g2.h b with
    |none=>rfl
    |some y=>rw [hsub b y e] at j1;cases j1
   ·cases e:u b with
    |none=>rfl
    |some y=>rw [ublock b y e] at j2;cases j2
 ·rcases hobs x ob h with ⟨k1,k2,k3,ki⟩|⟨l,ob1,k1,k2,k3,k4,_⟩
  ·rw [agr x ob k1 ki] at hb
   rcases hobs x' ob' h' with ⟨k1',k2',k3',ki'⟩|⟨l',ob1',k1',_,_,k4',_⟩
   ·rw [agr x' ob' k1' ki'] at hb'
    exact X.S.inj x x' ob ob' b k1 k1' hb hb'
   ·exact absurd (k4' b hb') ((key x ob b k1 k2 k3 hb).2.2.2 l' ob1' k1')
  ·rcases hobs x' ob' h' with ⟨k1',k2',k3',ki'⟩|⟨l',ob1',k1',k2',_,k4',_⟩
   ·rw [agr x' ob' k1' ki'] at hb'
    exact absurd (k4 b hb) ((key x' ob' b k1' k2' k3' hb').2.2.2 l ob1 k1)
   ·have:=S1.inj l l' ob1 ob1' b k1 k1' (k4 b hb) (k4' b hb')
    rw [k2,k2',this]
 ·rcases hobs x ob h with ⟨k1,_⟩|⟨l,ob1,_,_,_,_,k5,k6⟩
  ·exact⟨hpq _ (X.S.use _ _ k1).1,(X.S.use _ _ k1).2.mono hpq⟩
  ·exact⟨k5,k6⟩
 ·cases e:g2.h b with
  |none=>exact .inl rfl
  |some y=>
   right
   cases e':u b with
   |none=>rfl
   |some y'=>
    rcases S1.dj b with k|k
    ·rw [hsub b y e] at k;cases k
    ·rw [ublock b y' e'] at k;cases k
end
end Go.AE
namespace Go.AE
open Go.RowKit
def Free (d:D):Prop:=∀ h h' v,VD h d v→VD h' d v
theorem free_bool (b:Bool):Free (.bool b):=fun _ _ _ h=>h
theorem free_int (k:IntKind)(n:Int):Free (.int k n):=fun _ _ _ h=>h
theorem free_str (s:List UInt8):Free (.str s):=fun _ _ _ h=>h
theorem free_top:Free .top:=fun _ _ _ h=>h
theorem free_fn (f:Nat):Free (.fn f):=fun _ _ _ h=>h
theorem VDs_free {h h':Nat→Option Obj}:∀ {xs:List D} {us:List Value},(∀ x∈xs,Free x)→VDs h xs us→VDs h' xs us
 |[],us,_,e=>e
 |x::xs,us,hf,e=>by
  obtain⟨v,r,rfl,h1,h2⟩:=e
  exact⟨v,r,rfl,hf x (by simp) _ _ _ h1,VDs_free (fun y hy=>hf y (by simp [hy])) h2⟩
theorem free_agg {cs:List D}(h:∀ c∈cs,Free c):Free (.agg cs):=fun _ _ _ ⟨us,h1,h2⟩=>⟨us,h1,VDs_free h h2⟩
theorem VDf_free {h h':Nat→Option Obj}{sz:Nat}:∀ {xs:List D} {us:List Value},(∀ x∈xs,Free x)→VDf h sz xs us→VDf h' sz xs us
 |[],us,_,e=>e
 |x::xs,us,hf,e=>by
  obtain⟨v,r,rfl,h1,h2,h3,h4⟩:=e
  exact⟨v,r,rfl,h1,h2,hf x (by simp) _ _ _ h3,VDf_free (fun y hy=>hf y (by simp [hy])) h4⟩
theorem free_plainLeaf {t:LTy}(h:plainLeaf t=true)(x:D):Free (expLeaf t x):=by
 cases t<;>simp [plainLeaf] at h
 ·exact free_bool _
 ·exact free_int _ _
 ·exact free_str _
theorem free_expLeaves:∀ {ts:List LTy} {x:D} {j:Nat},ts.all plainLeaf=true→∀ c∈expLeaves ts x j,Free c
 |[],_,_,_,c,hc=>by cases hc
 |t::ts,x,j,h,c,hc=>by
  simp only [List.all_cons,Bool.and_eq_true] at h
  simp only [expLeaves] at hc
  rcases List.mem_cons.1 hc with rfl|hc
  ·exact free_plainLeaf h.1 _
  ·exact free_expLeaves h.2 c hc
theorem free_plainTy {t:Ty}(h:plainTy t=true)(x:D):Free (expTy t x):=by
 cases t with
 |leaf t=>exact free_plainLeaf h x
 |agg ts=>exact free_agg (free_expLeaves h)
 |ifc t ts=>cases h
theorem free_plainD {x:D}(h:plainD x=true):Free x:=by
 cases x with
 |bool b=>exact free_bool b
 |int k n=>exact free_int k n
 |str s=>exact free_str s
 |agg cs=>
  refine free_agg fun c hc=>?_
  have:=List.all_eq_true.1 (show cs.all _=true from h) c hc
  cases c<;>first|exact free_bool _|exact free_int _ _|exact free_str _|cases this
 |_=>cases h
def InjL:V→Prop
 | .d _=>True
 | .ptr _ _=>True
 | .row _=>True
 | .mp _=>True
 |_=>False
def InjV:V→Prop
 | .fn _ (c::cs)=>∀ x∈c::cs,InjL x
 | .agg cs=>∀ x∈cs,InjL x
 | .bp ..=>True
 |x=>InjL x
def AllL (P:D→Prop):V→Prop
 | .d d=>P d
 |_=>True
def AllV (P:D→Prop):V→Prop
 | .fn _ cs=>∀ x∈cs,AllL P x
 | .agg cs=>∀ x∈cs,AllL P x
 |x=>AllL P x
theorem AllL.mono {P Q:D→Prop}(h:∀ d,P d→Q d){x:V}(hx:AllL P x):AllL Q x:=by
 cases x<;>first|exact h _ hx|trivial
theorem AllV.mono {P Q:D→Prop}(h:∀ d,P d→Q d){x:V}(hx:AllV P x):AllV Q x:=by
 cases x with
 |fn f cs=>exact fun y hy=>(hx y hy).mono h
 |agg cs=>exact fun y hy=>(hx y hy).mono h
 |d _=>exact AllL.mono (x:= .d _) h hx
 |_=>trivial
theorem injLeaf_shape {E:Ty→D→D}{ds:List D}(s:SV)(j:Nat):InjL (injLeaf E ds s j).1:=by cases s<;>trivial
theorem injList_shape {E:Ty→D→D}{ds:List D}:∀ (ss:List SV) (j:Nat),∀ x∈(injList E ds ss j).1,InjL x
 |[],_,x,h=>by cases h
 |s::ss,j,x,h=>by
  simp only [injList] at h
  rcases List.mem_cons.1 h with rfl|h
  ·exact injLeaf_shape s j
  ·exact injList_shape ss _ x h
theorem leafize_injL {x:V}(h:InjL x):leafize x=x:=by cases x<;>first|rfl|exact h.elim
theorem mkAgg_shape {cs:List V}(h:∀ x∈cs,InjL x):InjV (mkAgg cs):=by
 unfold mkAgg
 split
 ·trivial
 ·intro x hx
  obtain⟨c,hc,rfl⟩:=List.mem_map.1 hx
  rw [leafize_injL (h c hc)];exact h c hc
theorem injV_shape {E:Ty→D→D}{ds:List D}(s:SV)(j:Nat):InjV (injV E ds s j).1:=by
 match s with
 | .fn f []=>trivial
 | .fn f (c::caps)=>
  have e:(injV E ds (.fn f (c::caps)) j).1 = .fn f (injList E ds (c::caps) j).1:=rfl
  rw [e]
  have h1:=injList_shape (E:=E) (ds:=ds) (c::caps) j
  have h2:=injList_length (E:=E) (ds:=ds) (c::caps) j
  generalize (injList E ds (c::caps) j).1=xs at *
  cases xs with
  |nil=>simp at h2
  |cons x xs=>exact h1
 | .agg ss=>exact mkAgg_shape (injList_shape ss j)
 | .d t=>trivial
 | .ptr ..=>trivial
 | .row ..=>trivial
 | .mp ..=>trivial
 | .bp ..=>trivial
 | .x=>trivial
theorem injCells_shape {E:Ty→D→D}{ds:List D}:∀ (ss:List SV) (j:Nat),∀ x∈(injCells E ds ss j).1,InjV x
 |[],_,x,h=>by cases h
 |s::ss,j,x,h=>by
  simp only [injCells] at h
  rcases List.mem_cons.1 h with rfl|h
  ·exact injV_shape s j
  ·exact injCells_shape ss _ x h
theorem injSlots_shape {E:Ty→D→D}{ds:List D}:∀ (sl:List (Nat×SV)) (j:Nat) (t:Nat),InjV ((injSlots E ds sl j).1 t)
 |[],_,_=>trivial
 |(t0,s)::sl,j,t=>by
  simp only [injSlots]
  cases Nat.beq t t0 with
  |true=>exact injV_shape s j
  |false=>exact injSlots_shape sl _ t
theorem free_leaf1 {ds:List D}{s:SV}{j:Nat}(h:plainSV1 s=true):AllL Free (injLeaf expTy ds s j).1:=by
 cases s with
 |d t=>exact free_plainTy h _
 |fn f cs=>exact free_fn f
 |agg _=>exact free_top
 |x=>exact free_top
 |bp _ _ _=>exact free_top
 |_=>trivial
theorem free_list {ds:List D}:∀ {ss:List SV} {j:Nat},ss.all plainSV1=true→∀ x∈(injList expTy ds ss j).1,AllL Free x
 |[],_,_,x,h=>by cases h
 |s::ss,j,hp,x,h=>by
  simp only [List.all_cons,Bool.and_eq_true] at hp
  simp only [injList] at h
  rcases List.mem_cons.1 h with rfl|h
  ·exact free_leaf1 hp.1
  ·exact free_list hp.2 x h
theorem free_V {ds:List D}{s:SV}{j:Nat}(h:plainSV s=true):AllV Free (injV expTy ds s j).1:=by
 match s,h with
 | .fn f [],_=>exact free_fn f
 | .fn f (c::caps),h=>exact free_list (ss:=c::caps) h
 | .agg ss,h=>
  have hl:=free_list (ds:=ds) (ss:=ss) (j:=j) h
  have e:(injV expTy ds (.agg ss) j).1=mkAgg (injList expTy ds ss j).1:=rfl
  rw [e]
  have hs:=injList_shape (E:=expTy) (ds:=ds) ss j
  generalize (injList expTy ds ss j).1=cs at *
  unfold mkAgg
  split
  ·rename_i xs e
   refine free_agg fun c hc=>?_
   have:=hl (.d c) (by rw [allD_map e];exact List.mem_map.2 ⟨c,hc,rfl⟩)
   exact this
  ·intro x hx
   obtain⟨c,hc,rfl⟩:=List.mem_map.1 hx
   rw [leafize_injL (hs c hc)];exact hl c hc
 | .d t,h=>exact free_leaf1 (s:= .d t) h
 | .ptr ..,_=>trivial
 | .row ..,_=>trivial
 | .mp ..,_=>trivial
 | .bp ..,_=>trivial
 | .x,_=>exact free_top
theorem free_cells {ds:List D}:∀ {ss:List SV} {j:Nat},ss.all plainSV=true→∀ x∈(injCells expTy ds ss j).1,AllV Free x
 |[],_,_,x,h=>by cases h
 |s::ss,j,hp,x,h=>by
  simp only [List.all_cons,Bool.and_eq_true] at hp
  simp only [injCells] at h
  rcases List.mem_cons.1 h with rfl|h
  ·exact free_V hp.1
  ·exact free_cells hp.2 x h
theorem free_slots {ds:List D}:∀ {sl:List (Nat×SV)} {j:Nat},(sl.all fun p=>plainSV p.2)=true→∀ t,AllV Free ((injSlots expTy ds sl j).1 t)
 |[],_,_,t=>free_top
 |(t0,s)::sl,j,hp,t=>by
  simp only [List.all_cons,Bool.and_eq_true] at hp
  simp only [injSlots]
  cases Nat.beq t t0 with
  |true=>exact free_V hp.1
  |false=>exact free_slots hp.2 t
section
variable {p q2:Nat→Prop} {g1 g2:G} {f:Nat→Nat} {n1:Nat} {w:World}
structure Names (n1:Nat) (q2:Nat→Prop) (g1 g2:G) (f:Nat→Nat):Prop where
 blk:∀ l,l<n1→g2.blk (f l)=g1.blk l
 hdr:∀ l,l<n1→g2.hdr (f l)=g1.hdr l
 ihdr:∀ l,l<n1→∀ i,g2.ihdr (f l) i=g1.ihdr l i
 q:∀ l,l<n1→q2 (f l)
def Keeps (g1 g2:G)(d:D):Prop:=∀ v,VD g1.h d v→VD g2.h d v
theorem renLeaf_ok (N:Names n1 q2 g1 g2 f){x:V}{v:Value}(hs:InjL x)(hd:AllL (Keeps g1 g2) x)(h:VL g1 x v)(hu:x.usesL (·<n1)):VL g2 (renLeaf f x) v∧(renLeaf f x).usesL q2:=by
 match x,hs,hd,h,hu with
 | .d d,_,hd,h,_=>exact⟨hd v h,trivial⟩
 | .ptr o off,_,_,h,hu=>
  have hu:o<n1:=hu
  refine⟨?_,N.q o hu⟩
  show v=_
  rw [N.blk o hu];exact h
 | .row o,_,_,h,hu=>
  have hu:o<n1:=hu
  refine⟨?_,N.q o hu⟩
  show v=_∧_
  rw [N.hdr o hu];exact h
 | .mp o,_,_,h,hu=>
  have hu:o<n1:=hu
  refine⟨?_,N.q o hu⟩
  show v=_
  rw [N.blk o hu];exact h
theorem renList_ok (N:Names n1 q2 g1 g2 f):∀ {xs:List V} {vs:List Value},(∀ x∈xs,InjL x)→(∀ x∈xs,AllL (Keeps g1 g2) x)→F2 (VL g1) xs vs→(∀ x∈xs,x.usesL (·<n1))→
  F2 (VL g2) (xs.map (renLeaf f)) vs∧∀ x∈xs.map (renLeaf f),x.usesL q2
 |[],_,_,_,h,_=>by cases h;exact⟨.nil,fun x hx=>by cases hx⟩
 |x::xs,_,hs,hd,h,hu=>by
  cases h with
  |cons h1 h2=>
   obtain⟨a1,a2⟩:=renLeaf_ok N (hs x (by simp)) (hd x (by simp)) h1 (hu x (by simp))
   obtain⟨b1,b2⟩:=renList_ok N (fun y hy=>hs y (by simp [hy])) (fun y hy=>hd y (by simp [hy])) h2 (fun y hy=>hu y (by simp [hy]))
   exact⟨.cons a1 b1,fun y hy=>by
    simp only [List.map_cons] at hy
    rcases List.mem_cons.1 hy with rfl|hy
    ·exact a2
    ·exact b2 y hy⟩
theorem renV_ok (N:Names n1 q2 g1 g2 f){x:V}{v:Value}(hs:InjV x)(hd:AllV (Keeps g1 g2) x)(h:VA g1 x v)(hu:x.usesA (·<n1)):VA g2 (renV f x) v∧(renV f x).usesA q2:=by
 match x,hs,hd,h,hu with
 | .fn _ [],hs,_,h,_=>exact hs.elim
 | .fn fn (c::cs),hs,hd,h,hu=>
  obtain⟨us,rfl,h1⟩:=h
  obtain⟨a1,a2⟩:=renList_ok N hs hd h1 hu
  exact⟨⟨us,rfl,a1⟩,a2⟩
 | .agg cs,hs,hd,h,hu=>
  obtain⟨us,rfl,h1⟩:=h
  obtain⟨a1,a2⟩:=renList_ok N hs hd h1 hu
  exact⟨⟨us,rfl,a1⟩,a2⟩
 | .d d,hs,hd,h,hu=>exact⟨hd v h,trivial⟩
 | .ptr o off,hs,hd,h,hu=>
  obtain⟨a1,a2⟩:=renLeaf_ok N (x:= .ptr o off) hs hd h hu
  exact⟨a1,a2⟩
 | .row o,hs,hd,h,hu=>
  obtain⟨a1,a2⟩:=renLeaf_ok N (x:= .row o) hs hd h hu
  exact⟨a1,a2⟩
 | .mp o,hs,hd,h,hu=>
  obtain⟨a1,a2⟩:=renLeaf_ok N (x:= .mp o) hs hd h hu
  exact⟨a1,a2⟩
 | .bp t o off,_,_,h,hu=>
  have hu:o<n1:=hu
  refine⟨?_,N.q o hu⟩
  show v=_∨v=_
  rw [N.blk o hu];exact h
theorem renCells_ok (N:Names n1 q2 g1 g2 f):∀ {xs:List V} {vs:List Value},(∀ x∈xs,InjV x)→(∀ x∈xs,AllV (Keeps g1 g2) x)→F2 (VA g1) xs vs→(∀ x∈xs,x.usesA (·<n1))→
  F2 (VA g2) (xs.map (renV f)) vs∧∀ x∈xs.map (renV f),x.usesA q2
 |[],_,_,_,h,_=>by cases h;exact⟨.nil,fun x hx=>by cases hx⟩
 |x::xs,_,hs,hd,h,hu=>by
  cases h with
  |cons h1 h2=>
   obtain⟨a1,a2⟩:=renV_ok N (hs x (by simp)) (hd x (by simp)) h1 (hu x (by simp))
   obtain⟨b1,b2⟩:=renCells_ok N (fun y hy=>hs y (by simp [hy])) (fun y hy=>hd y (by simp [hy])) h2 (fun y hy=>hu y (by simp [hy]))
   exact⟨.cons a1 b1,fun y hy=>by
    simp only [List.map_cons] at hy
    rcases List.mem_cons.1 hy with rfl|hy
    ·exact a2
    ·exact b2 y hy⟩
theorem renV_bp {fr:Nat→Nat}{t o' f:Nat}{cs:List V}(h:V.bp t o' f∈cs.map (renV fr)):∃ o,V.bp t o f∈cs:=by
 obtain⟨x,hx,e⟩:=List.mem_map.1 h
 match x,hx,e with
 | .bp t2 o2 f2,hx,e=>cases e;exact⟨_,hx⟩
 | .fn _ _,_,e=>cases e
 | .agg _,_,e=>cases e
 | .d _,_,e=>cases e
 | .ptr ..,_,e=>cases e
 | .el ..,_,e=>cases e
 | .rp ..,_,e=>cases e
 | .row _,_,e=>cases e
 | .sub ..,_,e=>cases e
 | .tup _,_,e=>cases e
 | .mp _,_,e=>cases e
 | .ir ..,_,e=>cases e
 | .irp ..,_,e=>cases e
def ObOk (g1 g2:G):Ob→Prop
 | .var cs=>(∀ x∈cs,InjV x)∧∀ x∈cs,AllV (Keeps g1 g2) x
 | .row _ _ xs _=>∀ h us sz,h=g1.h→VDf h sz xs us→VDf g2.h sz xs us
 | .mp _ xs=>∀ x∈xs,Keeps g1 g2 (x.at_ 0)∧Keeps g1 g2 (x.at_ 1)
 | .it ..=>True
 | .nst _ _ _ xs=>∀ sz ys us,D.lst sz ys∈xs→VDf g1.h sz ys us→VDf g2.h sz ys us
theorem renOb_ok (N:Names n1 q2 g1 g2 f){l:Nat}{ob:Ob}(hl:l<n1)(ho:ObOk g1 g2 ob)(hfz:∀ e sz xs,ob≠ .row e sz xs true)(h:OB g1 l ob w)(hu:ob.uses (·<n1)) :
  OB g2 (f l) (renOb f ob) w∧(renOb f ob).uses q2∧∀ b,obk g2 (f l) (renOb f ob) b→obk g1 l ob b:=by
 match ob,ho,hfz,h,hu with
 | .var cs,ho,_,h,hu=>
  obtain⟨c,e,k1,k2,k3⟩:=h
  obtain⟨a1,a2⟩:=renCells_ok N ho.1 ho.2 k2 hu
  refine⟨⟨c,e,by rw [N.blk l hl];exact k1,a1,k3.1,fun t o' f' hm=>by obtain⟨o,hm'⟩:=renV_bp hm;exact k3.2 _ _ _ hm'⟩,a2,fun b hb=>?_⟩
  simp only [renOb,obk,N.blk l hl] at hb
  exact hb
 | .row e sz xs false,ho,_,h,hu=>
  obtain⟨us,k1,k2,k3⟩:=h
  refine⟨⟨us,k1,by rw [N.hdr l hl];exact k2,ho _ _ _ rfl k3⟩,trivial,fun b hb=>?_⟩
  simp only [renOb,obk,N.hdr l hl] at hb
  exact hb
 | .row e sz xs true,_,hfz,_,_=>exact absurd rfl (hfz e sz xs)
 | .mp kt xs,ho,_,h,hu=>
  obtain⟨es,clock,k1,k2,kb⟩:=h
  refine⟨⟨es,clock,by rw [N.blk l hl];exact k1,k2.mono fun x hx _ k=>⟨(ho x hx).1 _ k.1,(ho x hx).2 _ k.2.1,k.2.2⟩,kb⟩,trivial,fun b hb=>?_⟩
  simp only [renOb,obk,N.blk l hl] at hb
  exact hb
 | .nst e ie sz xs,ho,_,h,hu=>
  obtain⟨k0,⟨us,k1,k2⟩,k3⟩:=h
  refine⟨⟨k0,⟨us,by rw [N.hdr l hl];exact k1,fun j x hx=>?_⟩,by simpa only [N.hdr l hl,N.ihdr l hl] using k3⟩,trivial,fun b hb=>by simpa only [renOb,obk,N.hdr l hl,N.ihdr l hl] using hb⟩
  obtain⟨v,hv,k⟩:=k2 j x hx
  refine⟨v,hv,?_⟩
  rcases k with ⟨m1,m2,m3,m4,m5⟩|⟨ys,vs,m1,m2,m3,m4,m5,m6⟩
  ·exact .inl ⟨m1,m2,m3,m4,by rw [N.ihdr l hl];exact m5⟩
  ·exact .inr ⟨ys,vs,m1,m2,by rw [N.ihdr l hl];exact m3,m4,m5,ho _ _ _ (by rw [← m1];exact List.mem_of_getElem? hx) m6⟩
 | .it t mo xs,ho,_,h,hu=>
  obtain⟨n,ns,k0,k1⟩:=h
  have hu:mo<n1:=hu
  refine⟨⟨n,ns,k0,by rw [N.blk l hl,N.blk mo hu];exact k1⟩,N.q mo hu,fun b hb=>?_⟩
  simp only [renOb,obk,N.blk l hl] at hb
  exact hb
end
end Go.AE
namespace Go.AE
open Go.RowKit
def isPre:SOb→Bool
 | .var _=>true
 | .row _ _ m=>Nat.beq m 1
 | .nst _ _ _ m=>Nat.beq m 1
 | .gone=>false
 | .mp _=>true
 | .it ..=>true
def isGone:SOb→Bool
 | .gone=>true
 |_=>false
theorem beq_false {x y:Nat}(h:x≠y):Nat.beq x y=false:=by
 cases k:Nat.beq x y with
 |true=>exact absurd (beq_iff.1 k) h
 |false=>rfl
theorem preOf_cons (l0:Nat)(s:SOb)(r:List SOb):preOf l0 (s::r)=if isPre s=true then (l0,l0)::preOf (l0+1) r else preOf (l0+1) r:=by
 cases s with
 |var _=>rfl
 |row e sz m=>
  have h1:preOf l0 (.row e sz m::r)=bif isPre (.row e sz m) then (l0,l0)::preOf (l0+1) r else preOf (l0+1) r:=rfl
  rw [h1]
  cases isPre (.row e sz m)<;>rfl
 |nst e ie sz m=>
  have h1:preOf l0 (.nst e ie sz m::r)=bif isPre (.nst e ie sz m) then (l0,l0)::preOf (l0+1) r else preOf (l0+1) r:=rfl
  rw [h1]
  cases isPre (.nst e ie sz m)<;>rfl
 |gone=>rfl
 |mp _=>rfl
 |it _ _=>rfl
theorem preOf_iff:∀ {objs:List SOb} {l0 l o:Nat},lookN (preOf l0 objs) l=some o↔o=l∧∃ k s,l=l0+k∧objs[k]? = some s∧isPre s=true
 |[],l0,l,o=>by simp [preOf,lookN]
 |s::r,l0,l,o=>by
  rw [preOf_cons]
  have ih:=@preOf_iff r (l0+1) l o
  by_cases hs:isPre s=true
  ·rw [if_pos hs,lookN_cons]
   by_cases e:l=l0
   ·subst e
    rw [if_pos rfl]
    constructor
    ·intro h;cases h;exact⟨rfl,0,s,rfl,rfl,hs⟩
    ·rintro ⟨rfl,_⟩;rfl
   ·rw [if_neg e,ih]
    constructor
    ·rintro ⟨h1,k,s',h2,h3,h4⟩;exact⟨h1,k+1,s',by omega,by simpa using h3,h4⟩
    ·rintro ⟨h1,k,s',h2,h3,h4⟩
     cases k with
     |zero=>omega
     |succ k=>exact⟨h1,k,s',by omega,by simpa using h3,h4⟩
  ·rw [if_neg hs,ih]
   constructor
   ·rintro ⟨h1,k,s',h2,h3,h4⟩;exact⟨h1,k+1,s',by omega,by simpa using h3,h4⟩
   ·rintro ⟨h1,k,s',h2,h3,h4⟩
    cases k with
    |zero=>simp at h3;subst h3;exact absurd h4 hs
    |succ k=>exact⟨h1,k,s',by omega,by simpa using h3,h4⟩
theorem injObs_spec {E:Ty→D→D}{ds:List D}:∀ {objs:List SOb} {l0 j l:Nat} {x:Ob},injObs E ds objs l0 j l=some x→
  ∃ k s,l=l0+k∧objs[k]? = some s∧isGone s=false∧(∀ cs,x = .var cs→∀ c∈cs,InjV c)∧(∀ e sz xs,x≠ .row e sz xs true)
 |[],_,_,_,_,h=>by simp [injObs] at h
 | .gone::r,l0,j,l,x,h=>by
  obtain⟨k,s,h1,h2,h3⟩:=injObs_spec (objs:=r) h
  exact⟨k+1,s,by omega,by simpa using h2,h3⟩
 | .var ss::r,l0,j,l,x,h=>by
  simp only [injObs] at h
  by_cases e:l=l0
  ·rw [beq_iff.2 e] at h
   simp only [cond_true,Option.some.injEq] at h
   subst h
   exact⟨0,_,by omega,rfl,rfl,fun cs hcs=>by cases hcs;exact injCells_shape ss j,fun _ _ _ hc=>by cases hc⟩
  ·rw [beq_false e] at h
   obtain⟨k,s,h1,h2,h3⟩:=injObs_spec (objs:=r) h
   exact⟨k+1,s,by omega,by simpa using h2,h3⟩
 | .row e' sz m::r,l0,j,l,x,h=>by
  simp only [injObs] at h
  by_cases e:l=l0
  ·rw [beq_iff.2 e] at h
   simp only [cond_true,Option.some.injEq] at h
   subst h
   exact⟨0,_,by omega,rfl,rfl,fun cs hcs=>(by cases hcs),fun _ _ _ hc=>by cases hc⟩
  ·rw [beq_false e] at h
   obtain⟨k,s,h1,h2,h3⟩:=injObs_spec (objs:=r) h
   exact⟨k+1,s,by omega,by simpa using h2,h3⟩
 | .nst e1 ie sz m::r,l0,j,l,x,h=>by
  simp only [injObs] at h
  by_cases e:l=l0
  ·rw [beq_iff.2 e] at h
   simp only [cond_true,Option.some.injEq] at h
   subst h
   exact⟨0,_,by omega,rfl,rfl,fun cs hcs=>(by cases hcs),fun _ _ _ hc=>by cases hc⟩
  ·rw [beq_false e] at h
   obtain⟨k,s,h1,h2,h3⟩:=injObs_spec (objs:=r) h
   exact⟨k+1,s,by omega,by simpa using h2,h3⟩
 | .mp kt::r,l0,j,l,x,h=>by
  simp only [injObs] at h
  by_cases e:l=l0
  ·rw [beq_iff.2 e] at h
   simp only [cond_true,Option.some.injEq] at h
   subst h
   exact⟨0,_,by omega,rfl,rfl,fun cs hcs=>(by cases hcs),fun _ _ _ hc=>by cases hc⟩
  ·rw [beq_false e] at h
   obtain⟨k,s,h1,h2,h3⟩:=injObs_spec (objs:=r) h
   exact⟨k+1,s,by omega,by simpa using h2,h3⟩
 | .it t l'::r,l0,j,l,x,h=>by
  simp only [injObs] at h
  by_cases e:l=l0
  ·rw [beq_iff.2 e] at h
   simp only [cond_true,Option.some.injEq] at h
   subst h
   exact⟨0,_,by omega,rfl,rfl,fun cs hcs=>(by cases hcs),fun _ _ _ hc=>by cases hc⟩
  ·rw [beq_false e] at h
   obtain⟨k,s,h1,h2,h3⟩:=injObs_spec (objs:=r) h
   exact⟨k+1,s,by omega,by simpa using h2,h3⟩
theorem injObs_some {E:Ty→D→D}{ds:List D}:∀ {objs:List SOb} {l0 j k:Nat} {s:SOb},objs[k]? = some s→isGone s=false→∃ x,injObs E ds objs l0 j (l0+k)=some x
 |[],_,_,_,_,h,_=>by simp at h
 |s0::r,l0,j,0,s,h,hg=>by
  simp at h
  subst h
  cases s0 with
  |gone=>cases hg
  |var ss=>simp only [injObs,Nat.add_zero,beq_iff.2 rfl];exact⟨_,rfl⟩
  |row e sz m=>simp only [injObs,Nat.add_zero,beq_iff.2 rfl];exact⟨_,rfl⟩
  |mp kt=>simp only [injObs,Nat.add_zero,beq_iff.2 rfl];exact⟨_,rfl⟩
  |nst e ie sz m=>simp only [injObs,Nat.add_zero,beq_iff.2 rfl];exact⟨_,rfl⟩
  |it t l=>simp only [injObs,Nat.add_zero,beq_iff.2 rfl];exact⟨_,rfl⟩
 |s0::r,l0,j,k+1,s,h,hg=>by
  have h:r[k]? = some s:=by simpa using h
  cases s0 with
  |gone=>
   obtain⟨x,hx⟩:=injObs_some (E:=E) (ds:=ds) (objs:=r) (k:=k) (l0:=l0+1) (j:=j) h hg
   exact⟨x,by simp only [injObs];rw [show l0+(k+1)=l0+1+k from by omega];exact hx⟩
  |var ss=>
   obtain⟨x,hx⟩:=injObs_some (E:=E) (ds:=ds) (objs:=r) (k:=k) (l0:=l0+1) (j:=(injCells E ds ss j).2) h hg
   exact⟨x,by simp only [injObs];rw [beq_false (by omega),cond_false,show l0+(k+1)=l0+1+k from by omega];exact hx⟩
  |row e sz m=>
   obtain⟨x,hx⟩:=injObs_some (E:=E) (ds:=ds) (objs:=r) (k:=k) (l0:=l0+1) (j:=j+1) h hg
   exact⟨x,by simp only [injObs];rw [beq_false (by omega),cond_false,show l0+(k+1)=l0+1+k from by omega];exact hx⟩
  |nst e ie sz m=>
   obtain⟨x,hx⟩:=injObs_some (E:=E) (ds:=ds) (objs:=r) (k:=k) (l0:=l0+1) (j:=j+1) h hg
   exact⟨x,by simp only [injObs];rw [beq_false (by omega),cond_false,show l0+(k+1)=l0+1+k from by omega];exact hx⟩
  |mp kt=>
   obtain⟨x,hx⟩:=injObs_some (E:=E) (ds:=ds) (objs:=r) (k:=k) (l0:=l0+1) (j:=j+1) h hg
   exact⟨x,by simp only [injObs];rw [beq_false (by omega),cond_false,show l0+(k+1)=l0+1+k from by omega];exact hx⟩
  |it t l=>
   obtain⟨x,hx⟩:=injObs_some (E:=E) (ds:=ds) (objs:=r) (k:=k) (l0:=l0+1) (j:=j+1) h hg
   exact⟨x,by simp only [injObs];rw [beq_false (by omega),cond_false,show l0+(k+1)=l0+1+k from by omega];exact hx⟩
theorem nth_mem:∀ {ds:List D} {j:Nat} {sz:Nat} {xs:List D},nth ds j = .lst sz xs→ .lst sz xs∈ds
 |[],_,_,_,h=>by simp [nth] at h
 |x::r,0,_,_,h=>by simp only [nth] at h;simp [h]
 |x::r,j+1,_,_,h=>by simp only [nth] at h;simp [nth_mem h]
theorem row_free {sk:Sk}{ds:List D}(h:plainDs sk ds=true)(j:Nat):∀ x∈(nth ds j).l,Free x:=by
 intro x hx
 cases e:nth ds j with
 |lst sz xs=>
  rw [e] at hx
  have:=List.all_eq_true.1 (show ds.all _=true from h) _ (nth_mem e)
  exact free_plainD (List.all_eq_true.1 this x hx)
 |_=>rw [e] at hx;cases hx
theorem injObs_free {P:Program}{sk:Sk}{ds:List D}(hd:plainDs sk ds=true){g1 g2:G}:∀ {objs:List SOb} {l0 j l:Nat} {x:Ob},
  (objs.all fun | .var ss=>ss.all plainSV | .row e _ _=>plainTy (tyT P e) | .gone=>true | .mp _=>false | .it ..=>false | .nst ..=>false)=true→injObs expTy ds objs l0 j l=some x→ObOk g1 g2 x
 |[],_,_,_,_,_,h=>by simp [injObs] at h
 | .gone::r,l0,j,l,x,hp,h=>injObs_free hd (objs:=r) (by simpa using hp) h
 | .var ss::r,l0,j,l,x,hp,h=>by
  simp only [List.all_cons,Bool.and_eq_true] at hp
  simp only [injObs] at h
  by_cases e:l=l0
  ·rw [beq_iff.2 e] at h
   simp only [cond_true,Option.some.injEq] at h
   subst h
   exact⟨injCells_shape ss j,fun y hy=>(free_cells hp.1 y hy).mono fun d hd v hv=>hd _ _ v hv⟩
  ·rw [beq_false e] at h
   exact injObs_free hd hp.2 h
 | .row e' sz m::r,l0,j,l,x,hp,h=>by
  simp only [List.all_cons,Bool.and_eq_true] at hp
  simp only [injObs] at h
  by_cases e:l=l0
  ·rw [beq_iff.2 e] at h
   simp only [cond_true,Option.some.injEq] at h
   subst h
   exact fun _ us sz _ hf=>VDf_free (row_free hd j) hf
  ·rw [beq_false e] at h
   exact injObs_free hd hp.2 h
 | .mp kt::r,l0,j,l,x,hp,h=>by simp at hp
 | .nst ..::r,l0,j,l,x,hp,h=>by simp at hp
 | .it t l'::r,l0,j,l,x,hp,h=>by simp at hp
theorem mergeObs_spec {f:Nat→Nat}{h' h:Nat→Option Ob}:∀ {objs:List SOb} {l0 x:Nat} {ob:Ob},mergeObs f h' h l0 objs x=some ob→
  (∃ k s ob1,objs[k]? = some s∧isGone s=false∧x=f (l0+k)∧h' (l0+k)=some ob1∧ob=renOb f ob1)∨(h x=some ob∧∀ k s,objs[k]? = some s→isGone s=false→x≠f (l0+k))
 |[],l0,x,ob,hm=> .inr ⟨hm,fun k s h=>by simp at h⟩
 |s0::r,l0,x,ob,hm=>by
  have rest:mergeObs f h' h (l0+1) r x=some ob→(isGone s0=false→x≠f l0)→(∃ k s ob1,(s0::r)[k]? = some s∧isGone s=false∧x=f (l0+k)∧h' (l0+k)=some ob1∧ob=renOb f ob1)∨
    (h x=some ob∧∀ k s,(s0::r)[k]? = some s→isGone s=false→x≠f (l0+k)):=by
   intro hm hx
   rcases mergeObs_spec hm with ⟨k,s,ob1,h1,h2,h3,h4,h5⟩|⟨h1,h2⟩
   ·exact .inl ⟨k+1,s,ob1,by simpa using h1,h2,by rw [h3];congr 1;omega,by rw [← h4];congr 1;omega,h5⟩
   ·refine .inr ⟨h1,fun k s hk hg=>?_⟩
    cases k with
    |zero=>simp at hk;subst hk;exact hx hg
    |succ k=>have:=h2 k s (by simpa using hk) hg;rwa [show l0+(k+1)=l0+1+k from by omega]
  have here:isGone s0=false→mergeObs f h' h l0 (s0::r) x=(bif Nat.beq x (f l0) then (match h' l0 with|some ob=>some (renOb f ob)|none=>none) else mergeObs f h' h (l0+1) r x):=by
   intro hg;cases s0<;>first|rfl|cases hg
  cases hg:isGone s0 with
  |true=>
   cases s0 with
   |gone=>exact rest hm (fun h=>by rw [hg] at h;cases h)
   |_=>cases hg
  |false=>
   rw [here hg] at hm
   by_cases e:x=f l0
   ·rw [beq_iff.2 e] at hm
    simp only [cond_true] at hm
    split at hm
    ·rename_i ob1 h1
     simp only [Option.some.injEq] at hm
     exact .inl ⟨0,s0,ob1,rfl,hg,e,h1,hm.symm⟩
    ·cases hm
   ·rw [beq_false e] at hm
    exact rest hm fun _=>e
def isDrop:SOb→Bool
 | .row ..=>true
 | .nst ..=>true
 |_=>false
theorem dropRows_spec {sk:Sk}{ren pre:List (Nat×Nat)}{h:Nat→Option Ob}:∀ {objs:List SOb} {l0 x:Nat} {ob:Ob},dropRows sk ren pre h l0 objs x=some ob→
  h x=some ob∧∀ k s,objs[k]? = some s→isDrop s=true→lookN pre (l0+k)=none→lookN ren (l0+k)≠some x
 |[],l0,x,ob,hd=>⟨hd,fun k s h=>by simp at h⟩
 |s0::r,l0,x,ob,hd=>by
  have rest:dropRows sk ren pre h (l0+1) r x=some ob→(isDrop s0=true→lookN pre l0=none→lookN ren l0≠some x)→
    h x=some ob∧∀ k s,(s0::r)[k]? = some s→isDrop s=true→lookN pre (l0+k)=none→lookN ren (l0+k)≠some x:=by
   intro hm hx
   obtain⟨h1,h2⟩:=dropRows_spec hm
   refine⟨h1,fun k s hk hs hp=>?_⟩
   cases k with
   |zero=>simp at hk;subst hk;exact hx hs hp
   |succ k=>have:=h2 k s (by simpa using hk) hs;rw [show l0+(k+1)=l0+1+k from by omega] at hp ⊢;exact this hp
  have drop:(bif (match lookN pre l0 with|some _=>false|none=>(match lookN ren l0 with|some o=>Nat.beq x o|none=>false)) then none else dropRows sk ren pre h (l0+1) r x)=some ob→
    h x=some ob∧∀ k s,(s0::r)[k]? = some s→isDrop s=true→lookN pre (l0+k)=none→lookN ren (l0+k)≠some x:=by
   intro hd
   obtain⟨hb,hd⟩:=bif_none_some hd
   refine rest hd fun _ hp hr=>?_
   rw [hp,hr] at hb
   simp only [beq_iff.2 rfl] at hb
   cases hb
  cases s0 with
  |var ss=>exact rest hd (fun h=>by cases h)
  |gone=>exact rest hd (fun h=>by cases h)
  |mp kt=>exact rest hd (fun h=>by cases h)
  |it t l=>exact rest hd (fun h=>by cases h)
  |row e sz m=>exact drop hd
  |nst e ie sz m=>exact drop hd
end Go.AE
