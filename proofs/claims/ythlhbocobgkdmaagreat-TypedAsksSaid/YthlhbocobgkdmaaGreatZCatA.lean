import Derived.RangeFuncNested
import Derived.RangeFuncBound
import Derived.RangeFuncCalls
import Derived.RangeFuncBox
import Derived.RangeFuncLeaves
import Derived.Shelf.Abstract
import Derived.Shelf.RegionOpen
import Derived.WalkKit
import Derived.OwnWalkIn
import Derived.TacticsInMore
import Derived.LoopNIn
import Derived.LoopIn
import Derived.Test.YthlhbocobgkdmaaGreatZLitC
set_option linter.all false
namespace Go.Proofs.YthlhbocobgkdmaaGreatZ
open Go.AE Go.RowKit Go.Shelf
attribute [local go_sem] Oper.semAt_some
def vz (p:Nat×Nat):D:=if p.1=0 then .agg [.int .i64 0,.Z 1 []] else vec p.1 p.2
structure El (h0:Nat→Option Obj) where
 ix:Int
 w:Int
 A:Option Addr
 n:Nat
 c:Nat
 p:Nat×Nat
 hp:p.1≤128∧p.2<2 ^ p.1
 ok:VD h0 (vz p) (.agg #[.int .i64 w,.slice A n c])
variable {h0:Nat→Option Obj}
def Ox (x:El h0):Array Value:=#[.int .i64 x.ix,.agg #[.int .i64 x.w,.slice x.A x.n x.c]]
def upto {α:Type}(f:Nat→α)(k:Nat):List α:=(List.range k).map f
theorem RV {α:Type}(f:Nat→α)(k:Nat):upto f (k+1)=upto f k++[f k]:=by simp [upto,List.range_succ]
theorem ZK {α:Type}(f:Nat→α)(k:Nat):(upto f k).length=k:=by simp [upto]
structure ZT (n₀ Bs:Nat) (W W':World):Prop where
 b:Below n₀ W W'
 x:W'.heap[Bs]? = W.heap[Bs]?
theorem ZT.refl (n₀ Bs:Nat)(W:World):ZT n₀ Bs W W:=⟨Below.refl _ _,rfl⟩
theorem ZT.trans {n₀ Bs:Nat}{X Yq Zq:World}(h:ZT n₀ Bs X Yq)(k:ZT n₀ Bs Yq Zq):ZT n₀ Bs X Zq:=⟨h.b.trans k.b,k.x.trans h.x⟩
theorem ZT.box {n₀ Bs:Nat}{W W':World}(h:ZT n₀ Bs W W'):W'.cell? ⟨Bs,0,none⟩=W.cell? ⟨Bs,0,none⟩:=by simp [World.cell?,h.x]
set_option maxRecDepth 100000 in
set_option maxHeartbeats 2000000 in
theorem Jf (F:Fence)(n:Nat)(h7:F.fn 150)(hro:F.round=none)(hn:1≤n)(l Bs n₀ b off len cap:Nat)(f:Nat→El h0)(hreach:len≤4611686018427387903)(hb:b<n₀)(hix:∀ k,k<len→(f k).ix=(len:Int)-1-k)(J Jx:List (El h0)→World→Prop)
  (hY:∀ pre x W,J pre W→pre.length<len→YieldAt F (n-1) Tryz.prog l (Ox x) W fun e W'=>
   (e = .returned (.bool true)∧J (pre++[x]) W'∧ZT n₀ Bs W W')∨(e = .returned (.bool false)∧Jx (pre++[x]) W'))
  (W:World) (hBs:W.cell? ⟨Bs,0,none⟩=some (.slice (some ⟨b,off,none⟩) len cap))
  (hc:∀ k,k<len→W.cell? ⟨b,off+(len-1-k)*2,none⟩=some (.int .i64 (f k).w)∧W.cell? ⟨b,off+(len-1-k)*2+1,none⟩=some (.slice (f k).A (f k).n (f k).c)) (h0:J [] W) :
  CallsIn F n Tryz.prog 150 #[.func (.yield l) #[] #[],.pointer (some ⟨Bs,0,none⟩)] W fun e W'=>(∃ v,e = .returned v)∧
   ((∃ ys,ys=upto f len∧J ys W')∨(∃ pre,(∃ k,k≤len∧pre=upto f k)∧Jx pre W')):=by
 refine callsIn_of_wp Tryz.func150 rfl h7 ?_ hro
 simp only [Tryz.ntmps150,List.size_toArray,A0,A8,Nat.reduceAdd,Nat.reduceSub,Array.replicate_succ,Array.replicate_zero,List.push_toArray,List.append_toArray,List.nil_append,List.cons_append]
 gi_wp2
 gi_loopw [3] (fun i wr=>∃ k:Nat,k≤len∧i = .int .i64 ((len:Int)-1-k)∧J (upto f k) wr∧ZT n₀ Bs W wr)
  (fun i _=>(intOf i+1).toNat)
 case atStart=>exact⟨0,C4 _,by simp,h0,ZT.refl _ _ _⟩
 case round=>
  obtain⟨k,hk,rfl,hJs,hnx⟩:=hrel
  have hbs:=hnx.box.trans hBs
  by_cases hlt:k<len
  ·obtain⟨fn,tmps,assign,body,hy,hR⟩:=hY _ (f k) wr hJs (by rw [ZK];exact hlt)
   have hcx:=(hnx.b.cell (p:=⟨b,off+(len-1-k)*2,none⟩) hb).trans (hc k hlt).1
   have hcx':=(hnx.b.cell (p:=⟨b,off+(len-1-k)*2+1,none⟩) hb).trans (hc k hlt).2
   unfold Ox at hy
   rw [hix k hlt] at hy
   gi_wp2
   refine hR.mono ?_
   rintro e W3 (⟨rfl,hJ3,hk3⟩|⟨rfl,hJx3⟩)
   ·gi_wp2
    go_roundw
    case rel=>exact⟨k+1,by omega,by congr 1;omega,by rw [RV];exact hJ3,hnx.trans hk3⟩
    case measure=>simp [intOf];omega
   ·gi_wp2
    refine bodyPost_ret (results_none rfl _ _ _) rfl ?_
    exact⟨⟨_,rfl⟩,.inr ⟨_,⟨k+1,by omega,(RV _ _).symm⟩,hJx3⟩⟩
  ·obtain rfl:k=len:=by omega
   gi_wp2
   go_end0
   exact⟨⟨_,rfl⟩,.inl ⟨_,rfl,hJs⟩⟩
set_option maxRecDepth 100000 in
set_option maxHeartbeats 1000000 in
theorem SM (F:Fence)(n:Nat)(h8:F.fn 150)(hro:F.round=none)(l Bs:Nat)(A:Option Addr)(cap:Nat)(J:List (El h0)→World→Prop)(W:World)(hBs:W.cell? ⟨Bs,0,none⟩=some (.slice A 0 cap))(h0:J [] W) :
  CallsIn F n Tryz.prog 150 #[.func (.yield l) #[] #[],.pointer (some ⟨Bs,0,none⟩)] W fun e W'=>(∃ v,e = .returned v)∧J [] W':=by
 refine callsIn_of_wp Tryz.func150 rfl h8 ?_ hro
 simp only [Tryz.ntmps150,List.size_toArray,A0,A8,Nat.reduceAdd,Nat.reduceSub,Array.replicate_succ,Array.replicate_zero,List.push_toArray,List.append_toArray,List.nil_append,List.cons_append]
 gi_wp2
 gi_loopw [3] (fun i wr=>i = .int .i64 (-1)∧J [] wr) (fun _ _=>0)
 case atStart=>exact⟨rfl,h0⟩
 case round=>
  obtain⟨rfl,hJs⟩:=hrel
  gi_wp2
  go_end0
  exact⟨⟨_,rfl⟩,hJs⟩
set_option maxHeartbeats 1000000 in
theorem Oc (F:Fence)(n:Nat)(h6:F.fn 119)(hro:F.round=none)(a:Option Addr)(len cap:Nat)(w:World) :
  CallsIn F n Tryz.prog 119 #[.slice a len cap] w fun e w'=>e = .returned (.func (.func 150) #[] #[.pointer (some ⟨w.heap.size,0,none⟩)])∧w'=w.alloc (.cells #[.slice a len cap] 131):=by
 refine callsIn_of_wp Tryz.func119 rfl h6 ?_ hro
 simp only [Tryz.ntmps119,List.size_toArray,A0,A8,Nat.reduceAdd,Nat.reduceSub,Array.replicate_succ,Array.replicate_zero,List.push_toArray,List.append_toArray,List.nil_append,List.cons_append]
 gi_wp2
 go_ret
 exact⟨rfl,rfl⟩
def Ub (n₀:Nat)(W:World)(sv:Value)(len:Nat)(f:Nat→El h0):Prop:=
 (∃ A cap,sv = .slice A 0 cap∧len=0)∨∃ b off cap,sv = .slice (some ⟨b,off,none⟩) len cap∧b<n₀∧∀ k,k<len→W.cell? ⟨b,off+(len-1-k)*2,none⟩=some (.int .i64 (f k).w)∧W.cell? ⟨b,off+(len-1-k)*2+1,none⟩=some (.slice (f k).A (f k).n (f k).c)
theorem Ub.below {n₀ len:Nat}{A B:World}(h:Below n₀ A B){sv:Value}{f:Nat→El h0}:Ub n₀ A sv len f→Ub n₀ B sv len f
 | .inl e=> .inl e
 | .inr ⟨b,off,cap,e,hb,hc⟩=> .inr ⟨b,off,cap,e,hb,fun j hj=>⟨(h.cell (p:=⟨b,off+(len-1-j)*2,none⟩) hb).trans (hc j hj).1,(h.cell (p:=⟨b,off+(len-1-j)*2+1,none⟩) hb).trans (hc j hj).2⟩⟩
theorem Ae (F:Fence)(n:Nat)(h8:F.fn 150)(hro:F.round=none)(hn:1≤n)(Bs n₀:Nat)(sv:Value)(len:Nat)(f:Nat→El h0)(hreach:len≤4611686018427387903)(hix:∀ k,k<len→(f k).ix=(len:Int)-1-k)(w:World)(hBs:Bs<w.heap.size)(hn₀:n₀≤w.heap.size)
  (hc:w.cell? ⟨Bs,0,none⟩=some sv) (hI:Ub n₀ w sv len f) :
  SeqStopsK F n Tryz.prog 150 #[.pointer (some ⟨Bs,0,none⟩)] (fun x:El h0=>Ox x) (ZT n₀ Bs) (fun ys=>ys=upto f len) (fun pre=>∃ k,k≤len∧pre=upto f k) len w:=fun l J Jx W hW _ _ hY h0=>by
 have hc':=(hW.cell (p:=⟨Bs,0,none⟩) hBs).trans hc
 rcases hI.below (hW.mono hn₀) with ⟨A,cap,rfl,rfl⟩|⟨b,off,cap,rfl,hb,hcs⟩
 ·exact (SM F n h8 hro l Bs A cap J W hc' h0).mono fun e W' ⟨he,hj⟩=>⟨he,.inl ⟨_,rfl,hj⟩⟩
 ·exact Jf F n h8 hro hn l Bs n₀ b off len cap f hreach hb hix J Jx hY W hc' hcs h0
end Go.Proofs.YthlhbocobgkdmaaGreatZ
