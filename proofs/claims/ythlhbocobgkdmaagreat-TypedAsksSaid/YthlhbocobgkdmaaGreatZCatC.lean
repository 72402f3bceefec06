import Derived.Test.YthlhbocobgkdmaaGreatZCatB
import Derived.Maps.AppendAt
set_option linter.all false
namespace Go.Proofs.YthlhbocobgkdmaaGreatZ
open Go.AE Go.RowKit Go.Shelf
attribute [local go_sem] Oper.semAt_some
def Wy (a:Array TypeId)(t:TypeId)(v:Array Value):=Builtin.append_ a t v
theorem Wx (a:Array TypeId)(t:TypeId)(v:Array Value):Builtin.append_ a t v=Wy a t v:=rfl
attribute [local go_sem ↓] Wx
variable {h0:Nat→Option Obj}
def KV:List (Nat×Nat)→List Bool→Option (List Bool)
 |[],acc=>some acc
 |p::r,acc=>if p.1=0∨128-p.1<acc.length then none else KV r (acc++sA p.1 p.2)
theorem FK (p:Nat×Nat):∀ (l:List (Nat×Nat)) (acc:List Bool),KV (l++[p]) acc=match KV l acc with|none=>none|some a=>if p.1=0∨128-p.1<a.length then none else some (a++sA p.1 p.2)
 |[],acc=>by simp [KV]
 |q::l,acc=>by
  simp only [List.cons_append,KV]
  split
  ·rfl
  ·exact FK p l _
theorem Us:(Tryz.prog.info? 4).map (fun i=>(i.zero,i.size,i.bytes))=some (some (.bool false),1,1):=by kernel_rfl
structure Inv (h0:Nat→Option Obj) (w:World) (sv:Value) (pre:List (El h0)) (W:World) (v:Value) (acc:List Bool):Prop where
 ac:KV (pre.map El.p) []=some acc
 b0:W.heap[w.heap.size]? = some (.cells #[.int .i64 0,.slice none 0 0] 40 (0,0))
 b1:W.heap[w.heap.size+1]? = some (.cells #[.int .i64 0] 91 (0,0))
 b2:W.heap[w.heap.size+1+1]? = some (.cells #[v] 53 (0,0))
 b3:W.heap[w.heap.size+1+1+1]? = some (.cells #[sv] 131 (0,0))
 row:W.ownsRow (w.heap.size+1+1+1+1) 4 1 v acc.length (kG acc)
 bel:Below w.heap.size w W
structure Out (h0:Nat→Option Obj) (w:World) (pre:List (El h0)) (W:World):Prop where
 ac:KV (pre.map El.p) []=none
 b0:W.heap[w.heap.size]? = some (.cells #[.int .i64 0,.slice none 0 0] 40 (0,0))
 b1:W.heap[w.heap.size+1]? = some (.cells #[.int .i64 2] 91 (0,0))
 bel:Below w.heap.size w W
theorem wJ {n:Nat}{w W W':World}{row:Option Nat}(h:Below n w W)(hg:W.grownBy W' row)(hr:∀ r,row=some r→n≤r)(hn:n≤W.heap.size):Below n w W':=
 h.trans ⟨hg.os,hg.tape,hg.output,hg.size,fun k hk=>hg.block k (by omega) (fun e=>by have:=hr k e.symm;omega)⟩
theorem kept {W W':World}{row:Option Nat}{b:Nat}{o:Obj}(h:W.heap[b]? = some o)(hg:W.grownBy W' row)(hne:some b≠row):W'.heap[b]? = some o:=
 (hg.block b (Array.getElem?_eq_some_iff.1 h).1 hne).trans h
theorem Inv.grow {w:World}{sv v:Value}{pre:List (El h0)}{W W':World}{acc:List Bool}{row:Option Nat}(I:Inv h0 w sv pre W v acc)(hg:W.grownBy W' row)(hr:∀ r,row=some r→w.heap.size+1+1+1+1≤r)(hv:v.ownBlock=none∨v.ownBlock≠row):Inv h0 w sv pre W' v acc:=by
 have ne:∀ b,b<w.heap.size+1+1+1+1→some b≠row:=fun b hb e=>by have:=hr b e.symm;omega
 exact⟨I.ac,kept I.b0 hg (ne _ (by omega)),kept I.b1 hg (ne _ (by omega)),kept I.b2 hg (ne _ (by omega)),kept I.b3 hg (ne _ (by omega)),I.row.kept hg hv,wJ I.bel hg (fun r e=>by have:=hr r e;omega) I.bel.size⟩
theorem Pj (h0:Nat→Option Obj)(w:World)(sv:Value):OwnFrom (w.heap.size+1+1+1+1) (fun (pre:List (El h0)) W=>∃ v acc,Inv h0 w sv pre W v acc):=by
 rintro pre W W' row ⟨v,acc,I⟩ hg hr
 refine⟨v,acc,I.grow hg (fun r e=>(hr r e).1) ?_⟩
 rcases I.row.2 with ⟨e,_⟩|⟨b,cap,cur,e,_,hb,_⟩
 ·left;rw [e];rfl
 ·right
  rw [e]
  intro e2
  have e2:some b=row:=e2
  obtain⟨_,o,ho,hc⟩:=hr b e2.symm
  rw [hb] at ho
  cases ho
  cases hc
theorem xN {W:World}{b:Nat}{o:Obj}(h:W.heap[b]? = some o):b<W.heap.size:=(Array.getElem?_eq_some_iff.1 h).1
theorem El.Wg (x:El h0):x.w=(x.p.1:Int):=by
 have h:=x.ok
 unfold vz at h
 split at h
 ·rename_i e
  obtain⟨us,e1,v,r,e2,h1,_⟩:=h
  have h1:v = .int .i64 0:=h1
  cases e1
  simp at e2
  rw [h1] at e2
  have:=e2.1
  simp at this
  rw [this,e];rfl
 ·obtain⟨us,e1,v,r,e2,h1,_⟩:=h
  have h1:v = .int .i64 (x.p.1:Int):=h1
  cases e1
  simp at e2
  rw [h1] at e2
  have:=e2.1
  simpa using this
theorem Qm (h0:Nat→Option Obj)(w:World)(c:Code):OwnFrom (w.heap.size+1+1+1+1) (fun (pre:List (El h0)) W=>c = .ret∧Out h0 w pre W):=by
 rintro pre W W' row ⟨hc,I⟩ hg hr
 have ne:∀ b,b<w.heap.size+1+1+1+1→some b≠row:=fun b hb e=>by have:=(hr b e.symm).1;omega
 exact⟨hc,I.ac,kept I.b0 hg (ne _ (by omega)),kept I.b1 hg (ne _ (by omega)),wJ I.bel hg (fun r e=>by have:=(hr r e).1;omega) I.bel.size⟩
theorem Sf (w:World)(x:El h0)(a':Act)(t:Nat→Act):OwnFrom (w.heap.size+1+1+1+1) (fun (_:Unit) W=>∃ Bx,w.heap.size+1+1+1+1≤Bx∧W.heap[Bx]? = some (.cells #[.int .i64 x.w,.slice x.A x.n x.c] 40 (0,0))∧a'=t Bx):=by
 rintro _ W W' row ⟨Bx,h1,h2,h3⟩ hg hr
 refine⟨Bx,h1,kept h2 hg (fun e=>?_),h3⟩
 obtain⟨_,o,ho,hc⟩:=hr Bx e.symm
 rw [h2] at ho
 cases ho
 cases hc
theorem qA {W:World}{b j:Nat}{v:Value}{cs:Array Value}{t:TypeId}(h:W.heap[b]? = some (.cells cs t (0,0))):(W.setCell ⟨b,j,none⟩ v).heap[b]? = some (.cells (cs.setIfInBounds j v) t (0,0)):=by
 obtain⟨hlt,hk⟩:=Array.getElem?_eq_some_iff.1 h
 show (W.heap.modify b _)[b]? = _
 rw [C8 (by rw [Array.size_modify];exact hlt),Array.getElem_modify_self,hk]
 rfl
theorem kK {W:World}{b b' j:Nat}{v:Value}{o:Obj}(h:W.heap[b']? = some o)(hne:b'≠b):(W.setCell ⟨b,j,none⟩ v).heap[b']? = some o:=by
 rw [← h]
 exact Below.heap_setCell _ _ _ _ hne
theorem Tk {w W:World}{sv v:Value}{pre:List (El h0)}{acc:List Bool}{x:El h0}(I:Inv h0 w sv pre W v acc)(hn:x.p.1=0∨128-x.p.1<acc.length)(B:Nat) :
  KeepsFrom B W (((W.setCell ⟨w.heap.size,0,none⟩ (.int .i64 0)).setCell ⟨w.heap.size,1,none⟩ (.slice none 0 0)).setCell ⟨w.heap.size+1,0,none⟩ (.int .i64 2))∧Code.ret = .ret∧
   Out h0 w (pre++[x]) (((W.setCell ⟨w.heap.size,0,none⟩ (.int .i64 0)).setCell ⟨w.heap.size,1,none⟩ (.slice none 0 0)).setCell ⟨w.heap.size+1,0,none⟩ (.int .i64 2)):=by
 refine⟨(((KeepsOthers.setCell _ _ _).trans (KeepsOthers.setCell _ _ _)).trans (KeepsOthers.setCell _ _ _)).from _,rfl,?_,?_,?_,?_⟩
 ·rw [List.map_append,List.map_singleton,FK,I.ac]
  simp only []
  rw [if_pos hn]
 ·exact kK (qA (qA I.b0)) (by omega)
 ·exact qA (kK (kK I.b1 (by omega)) (by omega))
 ·exact ((I.bel.setCell (p:=⟨w.heap.size,0,none⟩) (B9 _) _).setCell (p:=⟨w.heap.size,1,none⟩) (B9 _) _).setCell (p:=⟨w.heap.size+1,0,none⟩) (by simp) _
theorem Kh {w W:World}{sv v:Value}{pre:List (El h0)}{acc:List Bool}(hfrz:∀ b x,h0 b=some x→w.heap[b]? = some x)(hh0:∀ b x,h0 b=some x→b<w.heap.size)(I:Inv h0 w sv pre W v acc):∀ b x,h0 b=some x→W.heap[b]? = some x:=
 fun b x h=>(I.bel.block b (hh0 b x h)).trans (hfrz b x h)
theorem Inv.call {w W W1:World}{sv v:Value}{pre:List (El h0)}{acc:List Bool}(I:Inv h0 w sv pre W v acc)(hB:Below W.heap.size W W1):Inv h0 w sv pre W1 v acc:=
 I.grow (row:=none) ⟨hB.os,hB.tape,hB.output,hB.size,fun k hk _=>hB.block k hk⟩ (fun r e=>by cases e) (by
   cases h:v.ownBlock with
   |none=>exact .inl rfl
   |some b=>exact .inr (by simp))
theorem Inv.Br {w W:World}{sv v:Value}{pre:List (El h0)}{acc:List Bool}(I:Inv h0 w sv pre W v acc):∀ r,v.ownBlock=some r→w.heap.size+1+1+1+1≤r:=by
 intro r hr
 rcases I.row.2 with ⟨e,_⟩|⟨b,cap,cur,e,hb,_⟩
 ·rw [e] at hr;cases hr
 ·rw [e] at hr
  have:b=r:=by simpa [Value.ownBlock] using hr
  omega
theorem Inv.next {w W W1 W2:World}{sv v v':Value}{pre:List (El h0)}{acc:List Bool}{x:El h0}(I:Inv h0 w sv pre W v acc)(hB:Below W.heap.size W W1)(hx:¬ (x.p.1=0∨128-x.p.1<acc.length))
  (hown:W2.ownsRow (w.heap.size+1+1+1+1) 4 1 v' (acc.length+x.p.1) (kG acc++kG (sA x.p.1 x.p.2))) (hg:W1.grownBy W2 v.ownBlock) (B:Nat) :
  KeepsFrom B W (W2.setCell ⟨w.heap.size+1+1,0,none⟩ v')∧ZT w.heap.size (w.heap.size+1+1+1) W (W2.setCell ⟨w.heap.size+1+1,0,none⟩ v')∧Inv h0 w sv (pre++[x]) (W2.setCell ⟨w.heap.size+1+1,0,none⟩ v') v' (acc++sA x.p.1 x.p.2):=by
 have I1:=I.call hB
 have ne:∀ b,b<w.heap.size+1+1+1+1→some b≠v.ownBlock:=fun b hb e=>by have:=I1.Br b e.symm;omega
 have hbel:Below w.heap.size W1 W2:=⟨hg.os,hg.tape,hg.output,hg.size,fun k hk=>hg.block k (by have:=I1.bel.size;omega) (ne k (by omega))⟩
 have hbox:=kept I1.b2 hg (ne _ (by omega))
 have hB':Below w.heap.size W W1:=hB.mono I.bel.size
 have hbel2:Below w.heap.size W (W2.setCell ⟨w.heap.size+1+1,0,none⟩ v'):=(hB'.trans hbel).setCell (p:=⟨w.heap.size+1+1,0,none⟩) (by simp;omega) _
 have nrow:v'.ownBlock≠some (w.heap.size+1+1):=by
  intro e
  rcases hown.2 with ⟨e1,_⟩|⟨b,cap,cur,e1,hb,_⟩
  ·rw [e1] at e;cases e
  ·rw [e1] at e
   have:b=w.heap.size+1+1:=by simpa [Value.ownBlock] using e
   omega
 have ko:KeepsOthers W (W2.setCell ⟨w.heap.size+1+1,0,none⟩ v'):=by
  refine KeepsOthers.trans ⟨Nat.le_trans hB.size hg.size,fun k o hk ho=>?_⟩ (KeepsOthers.setCell _ _ _)
  have hk1:W1.heap[k]? = some o:=(hB.block k (xN hk)).trans hk
  refine kept hk1 hg (fun e=>?_)
  rcases I1.row.2 with ⟨e1,_⟩|⟨b,cap,cur,e1,_,hb,_⟩
  ·rw [e1] at e;cases e
  ·rw [e1] at e
   have:k=b:=by simpa [Value.ownBlock] using e
   subst this
   rw [hk1] at hb
   cases hb
   cases ho
 refine⟨ko.from _,⟨hbel2,?_⟩,?_,?_,?_,?_,?_,?_,I.bel.trans hbel2⟩
 ·rw [I.b3]
  exact kK (kept I1.b3 hg (ne _ (by omega))) (by omega)
 ·rw [List.map_append,List.map_singleton,FK,I.ac]
  simp only []
  rw [if_neg hx]
 ·exact kK (kept I1.b0 hg (ne _ (by omega))) (by omega)
 ·exact kK (kept I1.b1 hg (ne _ (by omega))) (by omega)
 ·exact qA hbox
 ·exact kK (kept I1.b3 hg (ne _ (by omega))) (by omega)
 ·have e1:(acc++sA x.p.1 x.p.2).length=acc.length+x.p.1:=by rw [A7,PZ]
  have e2:kG (acc++sA x.p.1 x.p.2)=kG acc++kG (sA x.p.1 x.p.2):=by simp [kG]
  rw [e1,e2]
  exact hown.kept (grownBy_setCell' W2 _ v') (.inr nrow)
theorem Hu {W:World}{n e k:Nat}{v:Value}{xs:List Value}(h:W.ownsRow n e 1 v k xs)(hk:1≤k):∃ g c,v = .slice (some ⟨g,0,none⟩) k c:=by
 rcases h.2 with ⟨_,e⟩|⟨b,cap,cur,e,_⟩
 ·omega
 ·exact⟨_,_,e⟩
def FL (ps:List (Nat×Nat)):D×Int:=match KV ps [] with|some l=>UM l|none=>(.agg [.int .i64 0,.Z 1 []],2)
theorem Lk {h:Nat→Option Obj}{l:List Bool}{r:Value}(hr:VD h (UM l).1 r):∃ k A n c,r = .agg #[.int .i64 k,.slice A n c]:=by
 have key:∀ (k:Int) (ws:List D),VD h (.agg [.int .i64 k,.Z 1 ws]) r→∃ k A n c,r = .agg #[.int .i64 k,.slice A n c]:=by
  rintro k ws ⟨us,rfl,v1,r1,e1,h1,v2,r2,e2,h2,e3⟩
  have h1:v1 = .int .i64 k:=h1
  obtain⟨A,cap,e4,_⟩:=h2
  have e3:r2=[]:=e3
  refine⟨k,A,ws.length,cap,?_⟩
  rw [← Array.toArray_toList (xs:=us),e1,e2,e3,h1,e4]
 unfold UM at hr
 split at hr
 ·exact key _ _ hr
 ·exact key _ _ hr
structure Ug (h0:Nat→Option Obj) (w:World) (d:D) (r:Value) (W':World):Prop where
 bel:Below w.heap.size w W'
 ex:∃ h':Nat→Option Obj,(∀ b x,h0 b=some x→h' b=some x)∧(∀ b x,h' b=some x→W'.heap[b]? = some x)∧(∀ b,b<w.heap.size→h' b=h0 b)∧VD h' d r
theorem Qr {W:World}{n n' e k:Nat}{v:Value}{xs:List Value}(h:W.ownsRow n e 1 v k xs)(hn:n'≤n):W.ownsRow n' e 1 v k xs:=by
 rcases h with ⟨m0,m1|⟨b',cap,cur,m1,m3,m2⟩⟩
 ·exact⟨m0,.inl m1⟩
 ·exact⟨m0,.inr ⟨b',cap,cur,m1,Nat.le_trans hn m3,m2⟩⟩
theorem QE:∀ (l r:List (Nat×Nat)) (acc:List Bool),KV l acc=none→KV (l++r) acc=none
 |[],r,acc,h=>by cases h
 |p::l,r,acc,h=>by
  simp only [List.cons_append,KV] at h ⊢
  split
  ·rfl
  ·rename_i hn
   rw [if_neg hn] at h
   exact QE l r _ h
theorem Ng {α:Type}(f:Nat→α)(k m:Nat):upto f (k+m)=upto f k++(List.range m).map (fun j=>f (k+j)):=by
 simp [upto,List.range_add]
theorem Sd (w:World)(o0 o1 o2 o3:Obj):((((w.alloc o0).alloc o1).alloc o2).alloc o3).heap[w.heap.size]? = some o0∧((((w.alloc o0).alloc o1).alloc o2).alloc o3).heap[w.heap.size+1]? = some o1∧
  ((((w.alloc o0).alloc o1).alloc o2).alloc o3).heap[w.heap.size+1+1]? = some o2∧((((w.alloc o0).alloc o1).alloc o2).alloc o3).heap[w.heap.size+1+1+1]? = some o3:=by
 have s0:(w.alloc o0).heap.size=w.heap.size+1:=World.size_alloc _ _
 have s1:((w.alloc o0).alloc o1).heap.size=w.heap.size+1+1:=by rw [World.size_alloc,s0]
 have s2:(((w.alloc o0).alloc o1).alloc o2).heap.size=w.heap.size+1+1+1:=by rw [World.size_alloc,s1]
 have n0:=World.alloc_heap_new w o0
 have n1:=World.alloc_heap_new (w.alloc o0) o1
 have n2:=World.alloc_heap_new ((w.alloc o0).alloc o1) o2
 have n3:=World.alloc_heap_new (((w.alloc o0).alloc o1).alloc o2) o3
 rw [s0] at n1
 rw [s1] at n2
 rw [s2] at n3
 refine⟨?_,?_,?_,n3⟩
 ·rw [Below.heap_alloc _ _ _ (by omega),Below.heap_alloc _ _ _ (by omega),Below.heap_alloc _ _ _ (by omega)];exact n0
 ·rw [Below.heap_alloc _ _ _ (by omega),Below.heap_alloc _ _ _ (by omega)];exact n1
 ·rw [Below.heap_alloc _ _ _ (by omega)];exact n2
theorem Gq {n₀ Bs:Nat}{X Yq Zq:World}(h:ZT n₀ Bs X Yq)(k:ZT n₀ Bs Yq Zq):ZT n₀ Bs X Zq:=h.trans k
set_option maxRecDepth 100000 in
set_option maxHeartbeats 4000000 in
theorem Si {w:World}(hfrz:∀ b x,h0 b=some x→w.heap[b]? = some x)(hh0:∀ b x,h0 b=some x→b<w.heap.size)(len cap:Nat)(A:Option Addr)(f:Nat→El h0)(hreach:len≤4611686018427387903)(hix:∀ k,k<len→(f k).ix=(len:Int)-1-k)
  (hI:Ub w.heap.size w (.slice A len cap) len f) :
  Calls Tryz.prog 65 #[.slice A len cap] w fun e W'=>∃ r:Value,e = .returned (.tuple #[r,.int .i64 (FL ((upto f len).map El.p)).2])∧Ug h0 w (FL ((upto f len).map El.p)).1 r W':=by
 obtain⟨i0,hi,hz0,hz1,hz2⟩:=info_parts Us
 refine (callsIn_wide (n:=3)).1 ?_
 refine callsIn_of_wp_marks Tryz.func65 rfl trivial ?_ rfl
 simp only [Tryz.ntmps65,List.size_toArray,A0,A8,Nat.reduceAdd,Nat.reduceSub,Array.replicate_succ,Array.replicate_zero,List.push_toArray,List.append_toArray,List.nil_append,List.cons_append]
 gi_wp2_with (refine⟨trivial,?_⟩;gi_at_call 119;refine (Oc Fence.wide _ trivial rfl _ _ _ _).mono ?_;rintro e w' ⟨rfl,rfl⟩)
 have hS:(((((w.alloc (.cells #[.int .i64 0,.slice none 0 0] 40)).alloc (.cells #[.int .i64 0] 91)).alloc (.cells #[.slice none 0 0] 53)).alloc (.cells #[.slice A len cap] 131))).heap.size=w.heap.size+1+1+1+1:=by simp
 obtain⟨W0,hW0⟩:∃ W0,((((w.alloc (.cells #[.int .i64 0,.slice none 0 0] 40)).alloc (.cells #[.int .i64 0] 91)).alloc (.cells #[.slice none 0 0] 53)).alloc (.cells #[.slice A len cap] 131))=W0:=⟨_,rfl⟩
 have hB0:Below w.heap.size w W0:=by
  rw [← hW0]
  exact ((((Below.refl _ w).alloc (B9 _) _).alloc (by simp) _).alloc (by simp;omega) _).alloc (by simp;omega) _
 obtain⟨c0,c1,c2,c3⟩:=Sd w (.cells #[.int .i64 0,.slice none 0 0] 40) (.cells #[.int .i64 0] 91) (.cells #[.slice none 0 0] 53) (.cells #[.slice A len cap] 131)
 rw [hW0] at c0 c1 c2 c3
 rw [hW0] at hS ⊢
 refine wpIn_rangeFunc_ownH rfl (by omega) (gf:=150) (lb:=#[.pointer (some ⟨w.heap.size+1+1+1,0,none⟩)]) (by simp [go_sem]) trivial (enters_of Tryz.func150 (by kernel_rfl) rfl)
  (Ae Fence.wide _ trivial rfl (by omega) (w.heap.size+1+1+1) w.heap.size _ len f hreach hix W0 (by omega) (by omega) (by simp [World.cell?,c3]) (hI.below hB0)) (fun h k=>Gq h k)
  (fun W l o o' hl ho hc hw=>⟨belowK_b (w:=w) (B9 _) W l o o' (by omega) ho hc hw,World.putObj_heap_other (by omega)⟩) (Below.refl _ _) (fun _=>rfl)
  (fun pre W=>∃ v acc,Inv h0 w (.slice A len cap) pre W v acc)
  (fun c pre W=>c = .ret∧Out h0 w pre W)
  (by rw [hS];exact Pj _ _ _) (fun c=>by rw [hS];exact Qm _ _ _)
  ⟨_,[],rfl,c0,c1,c2,c3,World.ownsRow_nil _ _ _ _,hB0⟩
  (fun x a' W=>∃ Bx,w.heap.size+1+1+1+1≤Bx∧W.heap[Bx]? = some (.cells #[.int .i64 x.w,.slice x.A x.n x.c] 40 (0,0))∧a'={ tmps:=#[.slice A len cap,undef,.pointer (some ⟨w.heap.size,0,none⟩),.pointer (some ⟨w.heap.size+1,0,none⟩),.pointer (some ⟨w.heap.size+1+1,0,none⟩),undef,.pointer (some ⟨Bx,0,none⟩),.slice A len cap,.func (.func 150) #[] #[.pointer (some ⟨w.heap.size+1+1+1,0,none⟩)],.int .i64 x.ix,.agg #[.int .i64 x.w,.slice x.A x.n x.c],undef,undef,undef,undef,undef,undef,undef,undef,undef,undef,undef,undef,undef,undef,undef,undef,undef,undef,undef,undef],defers:=[] })
  (fun x a'=>by rw [hS];exact Sf w x a' _) ?assign ?body ?done ?stop
 case assign=>
  rintro l pre x W K ⟨v,acc,I⟩ hK
  unfold Ox
  gi_wp2
  have hlt:=xN I.b3
  exact hK _ _ ((KeepsOthers.alloc _ _).from _) ⟨(Below.refl _ W).alloc I.bel.size _,Below.heap_alloc _ _ _ hlt⟩ ⟨v,acc,I.grow (World.grownBy_alloc W _ none) (fun r e=>by cases e) (by
   cases h:v.ownBlock with
   |none=>exact .inl rfl
   |some b=>exact .inr (by simp))⟩ ⟨W.heap.size,by omega,World.alloc_heap_new _ _,rfl⟩
 case body=>
  rintro l pre x a' W hl ⟨r,hr⟩ ⟨v,acc,I⟩ ⟨Bx,hBx,bX,rfl⟩ hlt
  have hw:=x.Wg
  have hx:=x.hp
  rw [hw] at bX ⊢
  obtain⟨vA,vc,rfl⟩:∃ vA vc,v = .slice vA acc.length vc:=by
   rcases I.row.2 with ⟨e,e2⟩|⟨b,cap,cur,e,_⟩
   ·exact⟨_,_,by rw [e,e2]⟩
   ·exact⟨_,_,e⟩
  have q0:W.cell? ⟨Bx,0,none⟩=some (.int .i64 (x.p.1:Int)):=by simp [World.cell?,bX]
  have q1:W.cell? ⟨Bx,1,none⟩=some (.slice x.A x.n x.c):=by simp [World.cell?,bX]
  have q2:W.cell? ⟨w.heap.size+1+1,0,none⟩=some (.slice vA acc.length vc):=by simp [World.cell?,I.b2]
  have q3:W.frozen? ⟨w.heap.size+1+1,0,none⟩=false:=by simp [World.frozen?,I.b2]
  have q4:W.cell? ⟨w.heap.size,0,none⟩=some (.int .i64 0):=by simp [World.cell?,I.b0]
  have q5:W.cell? ⟨w.heap.size,1,none⟩=some (.slice none 0 0):=by simp [World.cell?,I.b0]
  have q6:W.frozen? ⟨w.heap.size,0,none⟩=false:=by simp [World.frozen?,I.b0]
  have q6':W.frozen? ⟨w.heap.size,1,none⟩=false:=by simp [World.frozen?,I.b0]
  have q7:W.cell? ⟨w.heap.size+1,0,none⟩=some (.int .i64 0):=by simp [World.cell?,I.b1]
  have q8:W.frozen? ⟨w.heap.size+1,0,none⟩=false:=by simp [World.frozen?,I.b1]
  have hmx:Tryz.prog.follows .mixedOrders=true:=by kernel_rfl
  have hfz:=Kh hfrz hh0 I
  by_cases hz:x.p.1=0∨128-x.p.1<acc.length
  ·gi_wp2
   all_goals first|exact Tk I hz _|(exfalso;omega)|skip
  ·have hy1:¬ ((x.p.1:Int)=0):=by omega
   have hy2:¬ (128-(x.p.1:Int)<(acc.length:Int)):=by omega
   gi_wp2
   all_goals first|(exfalso;omega)|skip
   have hv:VD h0 (vec x.p.1 x.p.2) (.agg #[.int .i64 (x.p.1:Int),.slice x.A x.n x.c]):=by
    have h:=x.ok
    unfold vz at h
    rw [if_neg (by omega),hw] at h
    exact h
   have hl2:=xN I.b2
   have hlx:=xN bX
   have cz:∀ u∈kG (sA x.p.1 x.p.2),u.oneCell'=true:=fun u hu=>by
    obtain⟨b,_,rfl⟩:=List.mem_map.1 hu
    rfl
   have hfz':∀ b y,h0 b=some y→W.drew.heap[b]? = some y:=hfz
   have hacc:acc.length≤128:=by omega
   gi_region_with_o (refine⟨trivial,?_⟩;gi_at_call 54;refine (CallsIn.inRound l (callsIn_wide.2 (Fs hfz' (by omega) hx.1 hx.2 hv))).mono ?_;rintro e W1 ⟨b,bc,rfl,hB1,hcells⟩;have hB1:Below W.heap.size W W1:=⟨hB1.os,hB1.tape,hB1.output,hB1.size,hB1.block⟩;have I1:=I.call hB1;have q2':=(hB1.cell (p:=⟨w.heap.size+1+1,0,none⟩) hl2).trans q2;obtain⟨v',W2,hrun,hown2,hgrow2,_⟩:=run_append_own (P:=Tryz.prog) W1 (w.heap.size+1+1+1+1) 53 53 4 i0 (.bool false) 1 1 Tryz.underlying53 hi hz0 hz1 hz2 rfl (by decide) _ _ _ I1.row ⟨b,0,none⟩ x.p.1 bc (kG (sA x.p.1 x.p.2)) (by simp [kG,PZ]) hcells cz (by simp only [maxLen];omega) (by omega) (by have:=xN I1.b3;omega);obtain⟨g2,c2,rfl⟩:=Hu hown2 (by omega);change (Wy _ _ _).run _ _=_ at hrun;have hn2:=I1.Br;have hb2:=kept I1.b2 hgrow2 (fun e=>by have:=hn2 _ e.symm;omega);have q9:W2.cell? ⟨w.heap.size+1+1,0,none⟩=some (.slice vA acc.length vc):=(by simp [World.cell?,hb2]);have q10:W2.frozen? ⟨w.heap.size+1+1,0,none⟩=false:=(by simp [World.frozen?,hb2]))
   all_goals gi_wp2
   all_goals (obtain⟨n1,n2,n3⟩:=I.next hB1 hz hown2 hgrow2 W0.heap.size;exact⟨n1,n2,⟨_,_,n3⟩⟩)
 case done=>
  rintro D zs W hD rfl ⟨v,acc,I⟩ hK
  have hcat:FL ((upto f len).map El.p)=UM acc:=by unfold FL;rw [I.ac]
  have q2:W.cell? ⟨w.heap.size+1+1,0,none⟩=some v:=by simp [World.cell?,I.b2]
  have hone:=I.Br
  have ne:∀ b,b<w.heap.size+1+1+1+1→some b≠v.ownBlock:=fun b hb e=>by have:=hone b e.symm;omega
  have hvD:some D≠v.ownBlock:=by
   intro e
   rcases I.row.2 with ⟨e1,_⟩|⟨b,cap,cur,e1,_,hb,_⟩
   ·rw [e1] at e;cases e
   ·rw [e1] at e
    have:D=b:=by simpa [Value.ownBlock] using e
    subst this
    rw [hK] at hb
    cases hb
  gi_wp2_with (refine⟨trivial,?_⟩;gi_at_call 50;refine (callsIn_wide.2 (Pz (Kh hfrz hh0 I) hh0 (Qr I.row (by omega)))).mono ?_;rintro e W1 ⟨r,rfl,hg1,h1,k1,k2,k3,k4⟩;obtain⟨rk,rA,rn,rc,rfl⟩:=Lk k4;have b0:=kept I.b0 hg1 (ne _ (by omega));have b1:=kept I.b1 hg1 (ne _ (by omega));have z1:W1.cell? ⟨w.heap.size,0,none⟩=some (.int .i64 0):=(by simp [World.cell?,b0]);have z2:W1.cell? ⟨w.heap.size,1,none⟩=some (.slice none 0 0):=(by simp [World.cell?,b0]);have z3:W1.frozen? ⟨w.heap.size,0,none⟩=false:=(by simp [World.frozen?,b0]);have z4:W1.frozen? ⟨w.heap.size,1,none⟩=false:=(by simp [World.frozen?,b0]);have z5:W1.cell? ⟨w.heap.size+1,0,none⟩=some (.int .i64 0):=(by simp [World.cell?,b1]);have z6:W1.frozen? ⟨w.heap.size+1,0,none⟩=false:=(by simp [World.frozen?,b1]))
  have bD:W1.heap[D]? = some (.deferred (some [])):=kept hK hg1 hvD
  rw [hcat]
  obtain⟨W3,hW3⟩:∃ W3,(((W1.setCell ⟨w.heap.size,0,none⟩ (.int .i64 rk)).setCell ⟨w.heap.size,1,none⟩ (.slice rA rn rc)).setCell ⟨w.heap.size+1,0,none⟩ (.int .i64 (UM acc).2))=W3:=⟨_,rfl⟩
  have e0:W3.heap[w.heap.size]? = some (.cells #[.int .i64 rk,.slice rA rn rc] 40 (0,0)):=by rw [← hW3];exact kK (qA (qA b0)) (by omega)
  have e1:W3.heap[w.heap.size+1]? = some (.cells #[.int .i64 (UM acc).2] 91 (0,0)):=by rw [← hW3];exact qA (kK (kK b1 (by omega)) (by omega))
  have eD:W3.heap[D]? = some (.deferred (some [])):=by rw [← hW3];exact kK (kK (kK bD (by omega)) (by omega)) (by omega)
  have eo:∀ b o,b≠w.heap.size→b≠w.heap.size+1→W1.heap[b]? = some o→W3.heap[b]? = some o:=fun b o h1 h2 h=>by rw [← hW3];exact kK (kK (kK h h1) h1) h2
  have hB3:Below w.heap.size w W3:=by
   rw [← hW3]
   have hB1:Below w.heap.size w W1:=wJ I.bel hg1 (fun r e=>by have:=hone r e;omega) I.bel.size
   exact ((hB1.setCell (p:=⟨w.heap.size,0,none⟩) (B9 _) _).setCell (p:=⟨w.heap.size,1,none⟩) (B9 _) _).setCell (p:=⟨w.heap.size+1,0,none⟩) (by simp) _
  rw [hW3]
  refine⟨by simp,.inl ⟨_,_,rfl,run_takeDeferred eD,?_⟩⟩
  have g0:(W3.putObj D (.deferred none)).heap[w.heap.size]? = some (.cells #[.int .i64 rk,.slice rA rn rc] 40 (0,0)):=(World.putObj_heap_other (by omega)).trans e0
  have g1:(W3.putObj D (.deferred none)).heap[w.heap.size+1]? = some (.cells #[.int .i64 (UM acc).2] 91 (0,0)):=(World.putObj_heap_other (by omega)).trans e1
  have hB4:Below w.heap.size w (W3.putObj D (.deferred none)):=hB3.trans (belowK_b (w:=w) (B9 _) W3 D _ _ (by omega) eD rfl rfl)
  refine⟨.tuple #[.agg #[.int .i64 rk,.slice rA rn rc],.int .i64 (UM acc).2],?_,_,rfl,hB4,h1,k1,fun b x hb=>?_,fun b hb=>k3 b (Nat.lt_of_lt_of_le hb I.bel.size) (ne b (by omega)),k4⟩
  ·have y0:(W3.putObj D (.deferred none)).cell? ⟨w.heap.size,0,none⟩=some (.int .i64 rk):=by simp [World.cell?,g0]
   have y1:(W3.putObj D (.deferred none)).cell? ⟨w.heap.size,1,none⟩=some (.slice rA rn rc):=by simp [World.cell?,g0]
   have y2:(W3.putObj D (.deferred none)).cell? ⟨w.heap.size+1,0,none⟩=some (.int .i64 (UM acc).2):=by simp [World.cell?,g1]
   simp [results,Tryz.f65,go_sem,y0,y1,y2]
  ·have nb:∀ b',b'<W.heap.size→w.heap.size≤b'→some b'≠v.ownBlock→b≠b':=by
    intro b' h3 h4 h5 e
    subst e
    rw [k3 b h3 h5] at hb
    have:=hh0 b x hb
    omega
   have i0:=nb w.heap.size (xN I.b0) (B9 _) (ne _ (by omega))
   have i1:=nb (w.heap.size+1) (xN I.b1) (by omega) (ne _ (by omega))
   have i2:=nb D (xN hK) (by omega) hvD
   exact (World.putObj_heap_other i2).trans (eo b x i0 i1 (k2 b x hb))
 case stop=>
  rintro D c pre W hD ⟨k,hk,rfl⟩ ⟨rfl,O⟩ hK
  have hcat:FL ((upto f len).map El.p)=(.agg [.int .i64 0,.Z 1 []],2):=by
   obtain⟨m,rfl⟩:∃ m,len=k+m:=⟨len-k,by omega⟩
   unfold FL
   rw [Ng,List.map_append,QE _ _ _ O.ac]
  gi_wp2
  rw [hcat]
  refine⟨by simp,.inl ⟨_,_,rfl,run_takeDeferred hK,?_⟩⟩
  have g0:(W.putObj D (.deferred none)).heap[w.heap.size]? = some (.cells #[.int .i64 0,.slice none 0 0] 40 (0,0)):=(World.putObj_heap_other (by omega)).trans O.b0
  have g1:(W.putObj D (.deferred none)).heap[w.heap.size+1]? = some (.cells #[.int .i64 2] 91 (0,0)):=(World.putObj_heap_other (by omega)).trans O.b1
  have hB4:Below w.heap.size w (W.putObj D (.deferred none)):=O.bel.trans (belowK_b (w:=w) (B9 _) W D _ _ (by omega) hK rfl rfl)
  refine⟨.tuple #[.agg #[.int .i64 0,.slice none 0 0],.int .i64 2],?_,_,rfl,hB4,h0,fun _ _ h=>h,fun b x hb=>(hB4.block b (hh0 b x hb)).trans (hfrz b x hb),fun _ _=>rfl,⟨#[.int .i64 0,.slice none 0 0],rfl,_,_,rfl,rfl,_,_,rfl,⟨none,0,rfl,B9 _,C4 _,.inl rfl⟩,rfl⟩⟩
  have y0:(W.putObj D (.deferred none)).cell? ⟨w.heap.size,0,none⟩=some (.int .i64 0):=by simp [World.cell?,g0]
  have y1:(W.putObj D (.deferred none)).cell? ⟨w.heap.size,1,none⟩=some (.slice none 0 0):=by simp [World.cell?,g0]
  have y2:(W.putObj D (.deferred none)).cell? ⟨w.heap.size+1,0,none⟩=some (.int .i64 2):=by simp [World.cell?,g1]
  simp [results,Tryz.f65,go_sem,y0,y1,y2]
end Go.Proofs.YthlhbocobgkdmaaGreatZ
