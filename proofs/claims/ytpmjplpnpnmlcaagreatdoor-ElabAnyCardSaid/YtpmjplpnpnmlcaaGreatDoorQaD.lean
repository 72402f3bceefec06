import Derived.Test.YtpmjplpnpnmlcaaGreatDoorProg
import Derived.Test.YtpmjplpnpnmlcaaGreatDoorEng
import Derived.Shelf.SlLaysE
import Derived.Shelf.SlicesE.Kit
import Derived.Shelf.RegionOpenPlain
import Derived.WalkKit
import Derived.Deep.LoopGhost
import Derived.Deep.RegionLaw
import Derived.Lib.Walk
import Derived.Sort.WalkB12
import Derived.Lib.SliceRun
import Derived.Lib.SlicesDelete
import Derived.Deep.MidRow
set_option linter.all false
namespace Go.Proofs.YtpmjplpnpnmlcaaGreatDoor
open Go.AE
open Go.Shelf Go.RowKit Go.Lib Go.Sort
def O1:Ren:=⟨fun|45=>332|n=>n,fun|0=>0|3=>3|4=>4|22=>292|23=>298|n=>n,fun n=>n⟩
theorem TY:Bears Tryz.prog 332 (SlBodyN.n45 O1):=⟨"slices.Delete[[]sluicegate/ast.Arm,sluicegate/ast.Arm]",by decide,Tryz.func332.trans (congrArg some (by kernel_rfl))⟩
def Ej:List Value:=[Value.slice none 0 0,Value.int IntKind.i64 0,Value.int IntKind.i64 0,Value.int IntKind.i64 0,Value.int IntKind.i64 0,Value.string { data:=#[] },Value.slice none 0 0,Value.slice none 0 0,Value.slice none 0 0]
theorem BB {P:Program}(w:World)(t e ty:TypeId)(z:Value)(zs:List Value)(ht:P.underlying t=some (.slice e))(hv:∀ w,(zeroValue e).run P w = .ok z w)(hz:z.cells.toList=zs)(h1:∀ u∈zs,u.oneCell'=true)(b o c:Nat)
  (hc:∀ j,j<zs.length→(w.cell? ⟨b,o+j,none⟩).isSome=true) (hf:∀ j,j<zs.length→w.frozen? ⟨b,o+j,none⟩=false) :
  (Builtin.clear_ #[t] ty #[.slice (some ⟨b,o,none⟩) 1 c]).run P w = .ok (.tuple #[]) (w.setCells b o zs):=by
 have hzc:(Builtin.zeroCells z.cells 1).toList=zs:=by
  rw [← hz]
  simp only [Builtin.zeroCells]
  apply List.ext_getElem
  ·simp
  ·intro i h1 h2
   have h9:i<z.cells.size:=by simpa using h2
   simp [Nat.mod_eq_of_lt h9,getElem!_pos z.cells i h9]
 have hst:=run_storeCells_cells (P:=P) b o zs 0 w (by simpa using hc) (by simpa using hf) h1
 simp only [Nat.add_zero] at hst
 simp [Builtin.clear_,run_underlying ht,hv,hzc,hst]
set_option maxHeartbeats 4000000 in
set_option maxRecDepth 1000000 in
theorem Hn (blk off cap n i:Nat)(us:List Value)(w:World)(hus:us.length=n*9)(hone:∀ u∈us,u.oneCell'=true)(hc:∀ k u,us[k]? = some u→w.cell? ⟨blk,off+k,none⟩=some u)(hf:∀ k,k<n*9→w.frozen? ⟨blk,off+k,none⟩=false)(hi:i<n)(hcap:n≤cap)(hm:cap≤9223372036854775807) :
  Calls Tryz.prog 332 #[.slice (some ⟨blk,off,none⟩) n cap,.int .i64 i,.int .i64 ((i+1:Nat):Int)] w fun e w'=>e = .returned (.slice (some ⟨blk,off,none⟩) (n-1) cap)∧w'=(w.drew.setCells blk (off+i*9) (us.drop ((i+1)*9))).setCells blk (off+(n-1)*9) Ej:=by
 have mixed:Tryz.prog.follows .mixedOrders=true:=by kernel_rfl
 have t0:Tryz.prog.underlying (O1.t 0)=some (TypeDesc.tuple #[]):=Tryz.underlying0
 have a0:∀ w,(isAgg (O1.t 0)).run Tryz.prog w = .ok false w:=Tryz.isAgg0
 have z0:∀ w,(Go.sizeOf (O1.t 0)).run Tryz.prog w = .ok 1 w:=Tryz.sizeOf0
 have v0:∀ w,(zeroValue (O1.t 0)).run Tryz.prog w = .ok (Value.tuple #[]) w:=Tryz.zeroValue0
 have t3:Tryz.prog.underlying (O1.t 3)=some (TypeDesc.int IntKind.i64):=Tryz.underlying3
 have a3:∀ w,(isAgg (O1.t 3)).run Tryz.prog w = .ok false w:=Tryz.isAgg3
 have z3:∀ w,(Go.sizeOf (O1.t 3)).run Tryz.prog w = .ok 1 w:=Tryz.sizeOf3
 have v3:∀ w,(zeroValue (O1.t 3)).run Tryz.prog w = .ok (Value.int IntKind.i64 0) w:=Tryz.zeroValue3
 have t4:Tryz.prog.underlying (O1.t 4)=some TypeDesc.bool:=Tryz.underlying4
 have a4:∀ w,(isAgg (O1.t 4)).run Tryz.prog w = .ok false w:=Tryz.isAgg4
 have z4:∀ w,(Go.sizeOf (O1.t 4)).run Tryz.prog w = .ok 1 w:=Tryz.sizeOf4
 have v4:∀ w,(zeroValue (O1.t 4)).run Tryz.prog w = .ok (Value.bool false) w:=Tryz.zeroValue4
 have t22:Tryz.prog.underlying (O1.t 22)=some (TypeDesc.slice (O1.t 23)):=Tryz.underlying292
 have a22:∀ w,(isAgg (O1.t 22)).run Tryz.prog w = .ok false w:=Tryz.isAgg292
 have z22:∀ w,(Go.sizeOf (O1.t 22)).run Tryz.prog w = .ok 1 w:=Tryz.sizeOf292
 have v22:∀ w,(zeroValue (O1.t 22)).run Tryz.prog w = .ok (Value.slice none 0 0) w:=Tryz.zeroValue292
 have a23:∀ w,(isAgg (O1.t 23)).run Tryz.prog w = .ok true w:=Tryz.isAgg298
 have z23:∀ w,(Go.sizeOf (O1.t 23)).run Tryz.prog w = .ok 9 w:=Tryz.sizeOf298
 have v23:=Tryz.zeroValue298
 obtain⟨i0,hi0,hz1⟩:∃ i0,Tryz.prog.info? (O1.t 23)=some i0∧i0.size=9:=by
  have h:(Tryz.prog.info? (O1.t 23)).map (·.size)=some 9:=by kernel_rfl
  cases e:Tryz.prog.info? (O1.t 23) with
  |none=>rw [e] at h;cases h
  |some i0=>rw [e] at h;exact⟨i0,rfl,Option.some.inj h⟩
 obtain⟨j,hj⟩:∃ j,j=i+1:=⟨_,rfl⟩
 rw [← hj]
 obtain⟨news,hnews⟩:∃ news,news=us.drop (j*9):=⟨_,rfl⟩
 rw [← hnews]
 have hlen:news.length=(n-j)*9:=by rw [hnews,F8,hus];omega
 have hget:∀ t u,news[t]? = some u→us[j*9+t]? = some u:=fun t u h=>by rw [hnews,List.getElem?_drop] at h;exact h
 obtain⟨A,hA,hsrc⟩:∃ A:Addr,(if cap=j then some (⟨blk,off,none⟩:Addr) else some ⟨blk,off+j*9,none⟩)=some A∧Hid (∀ t u,news[t]? = some u→w.drew.cell? (A.add t)=some u):=by
  by_cases h:cap=j
  ·refine⟨⟨blk,off,none⟩,by simp [h],fun t u hu=>?_⟩
   have h0:news.length=0:=by rw [hlen];omega
   rw [E5.1 h0] at hu
   simp at hu
  ·refine⟨⟨blk,off+j*9,none⟩,by simp [h],fun t u hu=>?_⟩
   rw [Addr.add_lit,Nat.add_assoc]
   exact hc _ _ (hget t u hu)
 have hcell:∀ k,k<n*9→(w.cell? ⟨blk,off+k,none⟩).isSome=true:=fun k hk=>by
  obtain⟨u,hu⟩:∃ u,us[k]? = some u:=⟨us[k]'(by omega),C2 (by omega)⟩
  rw [hc k u hu];rfl
 have s1:Hid (news.length=(n-j)*9):=hlen
 have s2:Hid (∀ u∈news,u.oneCell'=true):=fun u hu=>hone u (by rw [hnews] at hu;exact List.mem_of_mem_drop hu)
 have s3:Hid (∀ t,t<news.length→(w.drew.cell? ⟨blk,off+i*9+t,none⟩).isSome=true∧w.drew.frozen? ⟨blk,off+i*9+t,none⟩=false):=by
  intro t ht
  rw [hlen] at ht
  rw [Nat.add_assoc]
  exact⟨hcell _ (by omega),hf _ (by omega)⟩
 obtain⟨W1,hW1⟩:∃ W1,W1=w.drew.setCells blk (off+i*9) news:=⟨_,rfl⟩
 have hcl:∀ ty,(Builtin.clear_ #[O1.t 22] ty #[.slice (some ⟨blk,off+(i+(n-j))*9,none⟩) 1 (cap-(i+(n-j)))]).run Tryz.prog W1 = .ok (.tuple #[]) (W1.setCells blk (off+(i+(n-j))*9) Ej):=by
  intro ty
  have e9:(i+(n-j))*9+9=n*9:=by omega
  refine BB W1 _ _ ty _ Ej t22 v23 rfl (by decide) blk _ _ (fun t ht=>?_) (fun t ht=>?_)
  ·rw [hW1]
   refine World.isSome_setCells _ _ _ _ _ ?_
   show (w.cell? _).isSome=true
   rw [Nat.add_assoc]
   exact hcell _ (by have:t<9:=ht;omega)
  ·rw [hW1,World.frozen?_setCells]
   show w.frozen? _=false
   rw [Nat.add_assoc]
   exact hf _ (by have:t<9:=ht;omega)
 have hW:Hid (W1=w.drew.setCells blk (off+i*9) news):=hW1
 have hic:i≤cap:=by omega
 have hjc:j≤cap:=by omega
 have hnj:n-(i+(n-j))=1:=by omega
 have hjn:j≤n:=by omega
 have hij:i≤j:=by omega
 have hne:i≠j:=by omega
 rw [show n-1=i+(n-j) by omega]
 clear hj hi hW1 hget hnews hlen hc hf hcell
 obtain⟨_,_,FG⟩:=TY
 go_enter FG,SlBodyN.n45_ntmps O1
 go_wp2_with fail
 go_region_law_o (refine step_append_room rfl (.tmp 22) (.tmp 25) (O1.t 22) rfl (O1.t 23) i0 9 t22 hi0 hz1 blk off i cap (by simp [Act.eval,Act.put]) A (n-j) (cap-j) news (by simp [Act.eval,Act.put]) s1.out hsrc.out s2.out (by omega) s3.out ?_;rw [← hW.out])
 go_wp2
 go_ret
 exact⟨rfl,by rw [hW.out]⟩
end Go.Proofs.YtpmjplpnpnmlcaaGreatDoor
