import Derived.Test.YtalibicpmfbieaaGreatDoorAe0
import Derived.Tactics
import Derived.Tactics2
import Derived.StillTactics
import Derived.Laws.Pointers
import Derived.Lib.Walk
import Derived.Lib.Builder
import Derived.Lib.AppendStr
import Derived.Lib.UnsafeStr
import Derived.WalkKit
import Derived.Laws.Externs
import Derived.Laws.IdiomCopy
import Derived.Laws.BitsLemmas
import Derived.Shelf.RegionOpenPlain
set_option linter.all false
namespace Go.Proofs.YtalibicpmfbieaaGreatDoor
open Go.AE
open Go.RowKit
namespace Claim
set_option maxHeartbeats 1000000 in
set_option maxRecDepth 100000 in
theorem Pv (b:Nat)(w:World)(h0:w.cell? ⟨b,0,none⟩=some (.pointer (some ⟨b,0,none⟩))) :
  Calls Tryz.prog 124 #[.pointer (some ⟨b,0,none⟩)] w fun e w'=>e = .returned (.tuple #[])∧w'=w:=by
 obtain⟨j,hj,_⟩:=Option.map_eq_some_iff.1 (show (Tryz.prog.info? 88).map (·.size)=some 2 by kernel_rfl)
 go_enter Tryz.func124,Tryz.ntmps124
 go_wp2
 rw [Lib.run_neq_ptr_same w _ Tryz.underlying86 hj]
 go_wp2
 go_end0
 exact⟨rfl,rfl⟩
set_option maxHeartbeats 1000000 in
set_option maxRecDepth 100000 in
theorem Kt (b:Nat)(w:World)(h0:w.cell? ⟨b,0,none⟩=some (.pointer none))(hsh:w.shape? b=some (90,3))(hfz:w.frozen? ⟨b,0,none⟩=false) :
  Calls Tryz.prog 124 #[.pointer (some ⟨b,0,none⟩)] w fun e w'=>e = .returned (.tuple #[])∧w'=w.setCell ⟨b,0,none⟩ (.pointer (some ⟨b,0,none⟩)):=by
 obtain⟨j,hj,hjs⟩:=Option.map_eq_some_iff.1 (show (Tryz.prog.info? 88).map (·.size)=some 2 by kernel_rfl)
 go_enter Tryz.func124,Tryz.ntmps124
 go_wp2
 rw [Lib.run_to_unsafe w ⟨b,0,none⟩ Tryz.underlying86 Tryz.underlying217 hj (by rw [hjs];decide) hsh (Nat.zero_lt_succ 2)]
 simp only [Result.andThen]
 rw [Oper.upon_value]
 go_wp2
 rw [run_callFunc_extern Tryz.func154 (by kernel_rfl) (by kernel_rfl) (by kernel_rfl) (e:=Extern.AbiNoEscape.same) (by kernel_rfl)]
 rw [Lib.run_noEscape]
 simp only [Result.andThen]
 rw [Oper.upon_value]
 go_wp2
 rw [Lib.run_from_unsafe w ⟨b,0,none⟩ Tryz.underlying217 Tryz.underlying86 hj hsh (by kernel_rfl)]
 simp only [Result.andThen]
 rw [Oper.upon_value]
 go_wp2
 go_end0
 exact⟨rfl,rfl⟩
def Kept (w w':World)(v:Value):Prop:=w'.os=w.os∧w'.tape=w.tape∧w'.output=w.output∧w.heap.size≤w'.heap.size∧∀ k,k<w.heap.size→some k≠v.ownBlock→w'.heap[k]? = w.heap[k]?
theorem JB (w:World)(v:Value):Kept w w.drew v:=⟨rfl,rfl,rfl,B9 _,fun _ _ _=>rfl⟩
theorem YW (w:World)(g n m cap:Nat):Kept w (w.drew.freeze ⟨g,0,none⟩ n) (.slice (some ⟨g,0,none⟩) m cap):=by
 unfold World.freeze
 split
 ·exact JB w _
 ·refine⟨rfl,rfl,rfl,by show w.heap.size≤(Array.modify w.heap g _).size;rw [Array.size_modify];exact B9 _,fun k hk hne=>?_⟩
  have hne:k≠g:=fun e=>hne (by rw [e];rfl)
  show (Array.modify w.heap g _)[k]? = w.heap[k]?
  rw [Array.getElem?_modify,if_neg (fun e=>hne e.symm)]
theorem XA (W:World)(q:Option Addr):(Builtin.unsafeString_ #[119,3] 9 #[.pointer q,.int .i64 0]).run Tryz.prog W = .ok (.string .empty) W:=Lib.run_unsafeString_none W _ _ _ q
set_option maxHeartbeats 2000000 in
set_option maxRecDepth 100000 in
theorem Pu (b g cap:Nat)(cur:Array Value)(l:G1)(cells:Array Value)(w:World)(hb:w.heap[b]? = some (.cells cells 90 (0,0)))(h1:cells.toList[1]? = some (.slice (some ⟨g,0,none⟩) l.length cap))(h0:l≠[])
  (hg:w.heap[g]? = some (.cells cur 5 (0,0))) (hnc:l.length≤cap) (hcm:cap≤maxLen) (hcs:cur.size=cap) (ht:cur.toList.take l.length=l.map fun x=>Value.int .u8 x.toNat) :
  Calls Tryz.prog 35 #[.pointer (some ⟨b,0,none⟩)] w fun e w'=>e = .returned (.string ⟨l.toArray⟩)∧Kept w w' (.slice (some ⟨g,0,none⟩) l.length cap):=by
 have hl0:l.length≠0:=by simpa using h0
 have c1:w.drew.cell? ⟨b,1,none⟩=some (.slice (some ⟨g,0,none⟩) l.length cap):=by
  have:w.drew.heap[b]? = some (.cells cells 90 (0,0)):=hb
  rw [Lib.cell_of_heap this];rw [← D0];exact h1
 have hSD:(Builtin.unsafeSliceData_ #[22] 119 #[.slice (some ⟨g,0,none⟩) l.length cap]).run Tryz.prog w.drew = .ok (.pointer (some ⟨g,0,none⟩)) w.drew:=
  Lib.run_unsafeSliceData_row _ _ _ _ _ _ (by omega)
 have hUS:(Builtin.unsafeString_ #[119,3] 9 #[.pointer (some ⟨g,0,none⟩),.int .i64 l.length]).run Tryz.prog w.drew = .ok (.string ⟨l.toArray⟩) (w.drew.freeze ⟨g,0,none⟩ l.length):=by
  refine Lib.run_unsafeString_row w.drew 119 3 9 5 Tryz.underlying119 (by kernel_rfl) g cur.size (by have hg':w.drew.heap[g]? = some (.cells cur 5 (0,0)):=hg;simp [World.shape?,hg']) l h0 (by omega) (by unfold maxLen at hcm;omega) ?_
  intro j x hx
  have hg':w.drew.heap[g]? = some (.cells cur 5 (0,0)):=hg
  have hj:j<l.length:=by
   rcases Nat.lt_or_ge j l.length with h|h
   ·exact h
   ·rw [List.getElem?_eq_none h] at hx;cases hx
  have:=congrArg (·[j]?) ht
  simp only [List.getElem?_take,if_pos hj,List.getElem?_map,hx,Option.map_some] at this
  have e:((⟨g,0,none⟩:Addr).add j)=⟨g,j,none⟩:=by simp [Addr.add];intro h;exact h.symm
  rw [e,Lib.cell_of_heap hg',← D0]
  simpa using this
 have mixed:Tryz.prog.follows .mixedOrders=true:=by kernel_rfl
 go_enter Tryz.func35,Tryz.ntmps35
 go_wp2
 go_region_o
 all_goals (go_wp2;go_ret;exact⟨rfl,YW w g _ _ _⟩)
set_option maxHeartbeats 2000000 in
set_option maxRecDepth 100000 in
theorem Ui (b:Nat)(cells:Array Value)(w:World)(hb:w.heap[b]? = some (.cells cells 90 (0,0)))(h1:cells.toList[1]? = some (.slice none 0 0)) :
  Calls Tryz.prog 35 #[.pointer (some ⟨b,0,none⟩)] w fun e w'=>e = .returned (.string ⟨#[]⟩)∧Kept w w' (.slice none 0 0):=by
 have hUS:=XA
 have c1:w.drew.cell? ⟨b,1,none⟩=some (.slice none 0 0):=by
  have:w.drew.heap[b]? = some (.cells cells 90 (0,0)):=hb
  rw [Lib.cell_of_heap this];rw [← D0];exact h1
 have hSD:(Builtin.unsafeSliceData_ #[22] 119 #[.slice none 0 0]).run Tryz.prog w.drew = .ok (.pointer none) w.drew:=rfl
 have mixed:Tryz.prog.follows .mixedOrders=true:=by kernel_rfl
 go_enter Tryz.func35,Tryz.ntmps35
 go_wp2
 go_region_o
 all_goals (go_wp2;go_ret;exact⟨rfl,JB w _⟩)
set_option maxHeartbeats 2000000 in
set_option maxRecDepth 100000 in
theorem Pt (b g cap:Nat)(cells:Array Value)(w:World)(hc0:cap≠0)(hb:w.heap[b]? = some (.cells cells 90 (0,0)))(h1:cells.toList[1]? = some (.slice (some ⟨g,0,none⟩) 0 cap)) :
  Calls Tryz.prog 35 #[.pointer (some ⟨b,0,none⟩)] w fun e w'=>e = .returned (.string ⟨#[]⟩)∧Kept w w' (.slice (some ⟨g,0,none⟩) 0 cap):=by
 have hUS:=XA
 have c1:w.drew.cell? ⟨b,1,none⟩=some (.slice (some ⟨g,0,none⟩) 0 cap):=by
  have:w.drew.heap[b]? = some (.cells cells 90 (0,0)):=hb
  rw [Lib.cell_of_heap this];rw [← D0];exact h1
 have hSD:(Builtin.unsafeSliceData_ #[22] 119 #[.slice (some ⟨g,0,none⟩) 0 cap]).run Tryz.prog w.drew = .ok (.pointer (some ⟨g,0,none⟩)) w.drew:=
  Lib.run_unsafeSliceData_row _ _ _ _ _ _ hc0
 clear hc0
 have mixed:Tryz.prog.follows .mixedOrders=true:=by kernel_rfl
 go_enter Tryz.func35,Tryz.ntmps35
 go_wp2
 go_region_o
 all_goals (go_wp2;go_ret;exact⟨rfl,JB w _⟩)
set_option maxHeartbeats 2000000 in
set_option maxRecDepth 100000 in
theorem Gv (b g:Nat)(cur cells:Array Value)(w:World)(hb:w.heap[b]? = some (.cells cells 90 (0,0)))(h1:cells.toList[1]? = some (.slice (some ⟨g,0,none⟩) 0 0))(hg:w.heap[g]? = some (.cells cur 5 (0,0))) :
  Calls Tryz.prog 35 #[.pointer (some ⟨b,0,none⟩)] w fun e w'=>e = .returned (.string ⟨#[]⟩)∧Kept w w' (.slice (some ⟨g,0,none⟩) 0 0):=by
 have hUS:=XA
 have hlt:b<w.heap.size:=by
  rcases Nat.lt_or_ge b w.heap.size with h'|h'
  ·exact h'
  ·simp [Array.getElem?_eq_none h'] at hb
 have c1:w.drew.cell? ⟨b,1,none⟩=some (.slice (some ⟨g,0,none⟩) 0 0):=by
  have:w.drew.heap[b]? = some (.cells cells 90 (0,0)):=hb
  rw [Lib.cell_of_heap this];rw [← D0];exact h1
 have hSD:(Builtin.unsafeSliceData_ #[22] 119 #[.slice (some ⟨g,0,none⟩) 0 0]).run Tryz.prog w.drew = .ok (.pointer (some ⟨w.drew.heap.size,0,none⟩)) (w.drew.alloc (.view ⟨g,0,none⟩ 5)):=
  Lib.run_unsafeSliceData_zero w.drew _ _ 5 Tryz.underlying119 ⟨g,0,none⟩ 0 (5,cur.size) (by have hg':w.drew.heap[g]? = some (.cells cur 5 (0,0)):=hg;simp [World.shape?,hg'])
 have c2:(w.drew.alloc (.view ⟨g,0,none⟩ 5)).cell? ⟨b,1,none⟩=some (.slice (some ⟨g,0,none⟩) 0 0):=by
  have:(w.drew.alloc (.view ⟨g,0,none⟩ 5)).heap[b]? = _:=(Lib.alloc_old w.drew _ b hlt).trans hb
  rw [Lib.cell_of_heap this];rw [← D0];exact h1
 have c3:(w.alloc (.view ⟨g,0,none⟩ 5)).drew.cell? ⟨b,1,none⟩=some (.slice (some ⟨g,0,none⟩) 0 0):=c2
 have c0:w.cell? ⟨b,1,none⟩=some (.slice (some ⟨g,0,none⟩) 0 0):=c1
 have hk:Kept w (w.drew.alloc (.view ⟨g,0,none⟩ 5)) (.slice (some ⟨g,0,none⟩) 0 0):=
  ⟨rfl,rfl,rfl,by show w.heap.size≤(w.heap.push _).size;rw [Array.size_push];omega,fun k hk _=>Lib.alloc_old w.drew _ k hk⟩
 have mixed:Tryz.prog.follows .mixedOrders=true:=by kernel_rfl
 go_enter Tryz.func35,Tryz.ntmps35
 go_wp2
 go_region_o
 all_goals (go_wp2;go_ret;exact⟨rfl,hk⟩)
theorem Ak {w:World}{b off:Nat}{cells:Array Value}{e:TypeId}{fr:Nat×Nat}(hk:w.heap[b]? = some (.cells cells e fr))(v:Value):w.setCell ⟨b,off,none⟩ v=w.setRow b (cells.setIfInBounds off v):=by
 unfold World.setCell World.setRow
 refine congrArg (fun h=>({ w with heap:=h }:World)) (Array.ext_getElem? fun k=>?_)
 rw [Array.getElem?_modify,Array.getElem?_modify]
 by_cases h:b=k
 ·subst h
  rw [if_pos rfl,if_pos rfl,hk];rfl
 ·rw [if_neg h,if_neg h]
theorem Ko {e off:Nat}(h:Sa [(90,0)] e=some off):e=90∧off=0:=by
 unfold Sa at h
 cases hb:Nat.beq e 90 with
 |true=>rw [hb] at h;exact⟨B0 hb,(Option.some.inj h).symm⟩
 |false=>rw [hb] at h;cases h
theorem Wp:aZ Tryz.prog 90=3:=by kernel_rfl
theorem Uk:Bc C:=by
 intro f hf e off hb w b cells v0 hk hsz h0 hv
 have hf:f=124:=B0 hf
 subst hf
 obtain⟨rfl,rfl⟩:=Ko hb
 have hsz:cells.size=3:=hsz.trans Wp
 have c0:w.cell? ⟨b,0,none⟩=some v0:=by rw [Lib.cell_of_heap hk,← D0];exact h0
 refine⟨⟨Tryz.f124,Tryz.func124,by kernel_rfl⟩,?_⟩
 rcases hv with rfl|rfl
 ·refine (Kt b w c0 (by simp [World.shape?,hk,hsz]) (Lib.frozen_of_heap hk 0)).mono ?_
  rintro ex w' ⟨h1,rfl⟩
  exact⟨h1,.inr (Ak hk _)⟩
 ·exact (Pv b w c0).mono fun ex w' h=>⟨h.1,.inl h.2⟩
theorem Kr:MQ C:=by
 intro f hf e off hb w b cells v l hk h1 hown hne hml
 have hf:f=35:=B0 hf
 subst hf
 obtain⟨rfl,rfl⟩:=Ko hb
 refine⟨⟨Tryz.f35,Tryz.func35,by kernel_rfl⟩,?_⟩
 rcases bO hown with ⟨rfl,h0,_⟩|⟨g,cap,cur,rfl,hg,hnc,hcm,hcs,ht,_⟩
 ·have h0:l=[]:=E5.1 h0
  subst h0
  exact Ui b cells w hk h1
 ·rw [Nat.mul_one] at hcs ht
  cases l with
  |nil=>
   by_cases hc:cap=0
   ·subst hc
    exact Gv b g cur cells w hk h1 hg
   ·exact Pt b g cap cells w hc hk h1
  |cons x l=>exact Pu b g cap cur (x::l) cells w hk h1 (by simp) hg hnc hcm hcs ht
end Claim
end Go.Proofs.YtalibicpmfbieaaGreatDoor
