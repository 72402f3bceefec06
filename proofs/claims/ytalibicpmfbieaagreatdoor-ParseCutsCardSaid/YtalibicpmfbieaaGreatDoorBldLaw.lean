import Derived.Test.YtalibicpmfbieaaGreatDoorAe0
import Derived.Tactics
import Derived.Tactics2
import Derived.StillTactics
import Derived.Laws.Pointers
import Derived.Lib.Walk
import Derived.Lib.Builder
import Derived.Lib.AppendStr
import Derived.Lib.UnsafeStr
import Derived.WalkKit
import Derived.Laws.Externs
import Derived.Laws.IdiomCopy
import Derived.Laws.BitsLemmas
import Derived.Shelf.RegionOpenPlain
set_option linter.all false
namespace Go.Proofs.YtalibicpmfbieaaGreatDoor
open Go.AE
open Go.RowKit
namespace Claim
set_option maxHeartbeats 1000000 in
set_option maxRecDepth 100000 in
def Va (b:Nat)(w:World)(h0:w.cell? ⟨b,0,none⟩=some (.pointer (some ⟨b,0,none⟩))) :Calls Tryz.prog 124 #[.pointer (some ⟨b,0,none⟩)] w fun e w'=>e = .returned (.tuple #[])∧w'=w:=by
 obtain⟨j,a,_⟩:=Option.map_eq_some_iff.1 (show (Tryz.prog.info? 88).map (·.size)=some 2 by kernel_rfl)
 go_enter Tryz.func124,Tryz.ntmps124
 go_wp2
 rw [Lib.run_neq_ptr_same w _ Tryz.underlying86 a]
 go_wp2
 go_end0
 exact⟨rfl,rfl⟩
set_option maxHeartbeats 1000000 in
set_option maxRecDepth 100000 in
def Pf (b:Nat)(w:World)(h0:w.cell? ⟨b,0,none⟩=some (.pointer none))(a:w.shape? b=some (90,3))(f:w.frozen? ⟨b,0,none⟩=false) :Calls Tryz.prog 124 #[.pointer (some ⟨b,0,none⟩)] w fun e w'=>e = .returned (.tuple #[])∧w'=w.setCell ⟨b,0,none⟩ (.pointer (some ⟨b,0,none⟩)):=by
 obtain⟨j,d,c⟩:=Option.map_eq_some_iff.1 (show (Tryz.prog.info? 88).map (·.size)=some 2 by kernel_rfl)
 go_enter Tryz.func124,Tryz.ntmps124
 go_wp2
 rw [Lib.run_to_unsafe w ⟨b,0,none⟩ Tryz.underlying86 Tryz.underlying217 d (by rw [c];decide) a (Nat.zero_lt_succ 2)];simp only [Result.andThen];rw [Oper.upon_value]
 go_wp2
 rw [run_callFunc_extern Tryz.func154 (by kernel_rfl) (by kernel_rfl) (by kernel_rfl) (e:=Extern.AbiNoEscape.same) (by kernel_rfl)];rw [Lib.run_noEscape];simp only [Result.andThen];rw [Oper.upon_value]
 go_wp2
 rw [Lib.run_from_unsafe w ⟨b,0,none⟩ Tryz.underlying217 Tryz.underlying86 d a (by kernel_rfl)];simp only [Result.andThen];rw [Oper.upon_value]
 go_wp2
 go_end0
 exact⟨rfl,rfl⟩
def Kept (w w':World)(v:Value):Prop:=w'.os=w.os∧w'.tape=w.tape∧w'.output=w.output∧w.heap.size≤w'.heap.size∧∀ k,k<w.heap.size→some k≠v.ownBlock→w'.heap[k]? = w.heap[k]?
def JT (w:World)(v:Value):Kept w w.drew v:=⟨rfl,rfl,rfl,B9 _,fun _ _ _=>rfl⟩
def Bc (w:World)(g n m cap:Nat):Kept w (w.drew.freeze ⟨g,0,none⟩ n) (.slice (some ⟨g,0,none⟩) m cap):=by
 unfold World.freeze;split
 ·exact JT w _
 ·refine⟨rfl,rfl,rfl,by show w.heap.size≤(Array.modify w.heap g _).size;rw [Array.size_modify];exact B9 _,fun k b a=>?_⟩;have a:k≠g:=fun e=>a (by rw [e];rfl);show (Array.modify w.heap g _)[k]? = w.heap[k]?;rw [Array.getElem?_modify,if_neg (fun e=>a e.symm)]
def YZ (W:World)(q:Option Addr):(Builtin.unsafeString_ #[119,3] 9 #[.pointer q,.int .i64 0]).run Tryz.prog W = .ok (.string .empty) W:=Lib.run_unsafeString_none W _ _ _ q
set_option maxHeartbeats 2000000 in
set_option maxRecDepth 100000 in
def Uz (b g cap:Nat)(cur:Array Value)(l:G1)(cells:Array Value)(w:World)(p:w.heap[b]? = some (.cells cells 90 (0,0)))(h1:cells.toList[1]? = some (.slice (some ⟨g,0,none⟩) l.length cap))(h0:l≠[]) (f:w.heap[g]? = some (.cells cur 5 (0,0))) (k:l.length≤cap) (d:cap≤maxLen) (o:cur.size=cap) (i:cur.toList.take l.length=l.map fun x=>Value.int .u8 x.toNat) :Calls Tryz.prog 35 #[.pointer (some ⟨b,0,none⟩)] w fun e w'=>e = .returned (.string ⟨l.toArray⟩)∧Kept w w' (.slice (some ⟨g,0,none⟩) l.length cap):=by
 have m:l.length≠0:=by simpa using h0
 have s:w.drew.cell? ⟨b,1,none⟩=some (.slice (some ⟨g,0,none⟩) l.length cap):=by have:w.drew.heap[b]? = some (.cells cells 90 (0,0)):=p;rw [Lib.cell_of_heap this];rw [← D0];exact h1
 have r:(Builtin.unsafeSliceData_ #[22] 119 #[.slice (some ⟨g,0,none⟩) l.length cap]).run Tryz.prog w.drew = .ok (.pointer (some ⟨g,0,none⟩)) w.drew:=Lib.run_unsafeSliceData_row _ _ _ _ _ _ (by omega);have q:(Builtin.unsafeString_ #[119,3] 9 #[.pointer (some ⟨g,0,none⟩),.int .i64 l.length]).run Tryz.prog w.drew = .ok (.string ⟨l.toArray⟩) (w.drew.freeze ⟨g,0,none⟩ l.length):=by
  refine Lib.run_unsafeString_row w.drew 119 3 9 5 Tryz.underlying119 (by kernel_rfl) g cur.size (by have a:w.drew.heap[g]? = some (.cells cur 5 (0,0)):=f;simp [World.shape?,a]) l h0 (by omega) (by unfold maxLen at d;omega) ?_;intro j x c;have a:w.drew.heap[g]? = some (.cells cur 5 (0,0)):=f;have n:j<l.length:=by
   rcases Nat.lt_or_ge j l.length with h|h
   ·exact h
   ·rw [List.getElem?_eq_none h] at c;cases c
  have:=congrArg (·[j]?) i;simp only [List.getElem?_take,if_pos n,List.getElem?_map,c,Option.map_some] at this;have e:((⟨g,0,none⟩:Addr).add j)=⟨g,j,none⟩:=by simp [Addr.add];intro h;exact h.symm
  rw [e,Lib.cell_of_heap a,← D0];simpa using this
 have mixed:Tryz.prog.follows .mixedOrders=true:=by kernel_rfl
 go_enter Tryz.func35,Tryz.ntmps35
 go_wp2
 go_region_o
 all_goals (go_wp2;go_ret;exact⟨rfl,Bc w g _ _ _⟩)
set_option maxHeartbeats 2000000 in
set_option maxRecDepth 100000 in
def aA8 (b:Nat)(cells:Array Value)(w:World)(a:w.heap[b]? = some (.cells cells 90 (0,0)))(h1:cells.toList[1]? = some (.slice none 0 0)) :Calls Tryz.prog 35 #[.pointer (some ⟨b,0,none⟩)] w fun e w'=>e = .returned (.string ⟨#[]⟩)∧Kept w w' (.slice none 0 0):=by
 have c:=YZ;have f:w.drew.cell? ⟨b,1,none⟩=some (.slice none 0 0):=by have:w.drew.heap[b]? = some (.cells cells 90 (0,0)):=a;rw [Lib.cell_of_heap this];rw [← D0];exact h1
 have d:(Builtin.unsafeSliceData_ #[22] 119 #[.slice none 0 0]).run Tryz.prog w.drew = .ok (.pointer none) w.drew:=rfl;have mixed:Tryz.prog.follows .mixedOrders=true:=by kernel_rfl
 go_enter Tryz.func35,Tryz.ntmps35
 go_wp2
 go_region_o
 all_goals (go_wp2;go_ret;exact⟨rfl,JT w _⟩)
set_option maxHeartbeats 2000000 in
set_option maxRecDepth 100000 in
def Uy (b g cap:Nat)(cells:Array Value)(w:World)(a:cap≠0)(c:w.heap[b]? = some (.cells cells 90 (0,0)))(h1:cells.toList[1]? = some (.slice (some ⟨g,0,none⟩) 0 cap)) :Calls Tryz.prog 35 #[.pointer (some ⟨b,0,none⟩)] w fun e w'=>e = .returned (.string ⟨#[]⟩)∧Kept w w' (.slice (some ⟨g,0,none⟩) 0 cap):=by
 have d:=YZ;have h:w.drew.cell? ⟨b,1,none⟩=some (.slice (some ⟨g,0,none⟩) 0 cap):=by have:w.drew.heap[b]? = some (.cells cells 90 (0,0)):=c;rw [Lib.cell_of_heap this];rw [← D0];exact h1
 have f:(Builtin.unsafeSliceData_ #[22] 119 #[.slice (some ⟨g,0,none⟩) 0 cap]).run Tryz.prog w.drew = .ok (.pointer (some ⟨g,0,none⟩)) w.drew:=Lib.run_unsafeSliceData_row _ _ _ _ _ _ a;clear a;have mixed:Tryz.prog.follows .mixedOrders=true:=by kernel_rfl
 go_enter Tryz.func35,Tryz.ntmps35
 go_wp2
 go_region_o
 all_goals (go_wp2;go_ret;exact⟨rfl,JT w _⟩)
set_option maxHeartbeats 2000000 in
set_option maxRecDepth 100000 in
def Ku (b g:Nat)(cur cells:Array Value)(w:World)(f:w.heap[b]? = some (.cells cells 90 (0,0)))(h1:cells.toList[1]? = some (.slice (some ⟨g,0,none⟩) 0 0))(h:w.heap[g]? = some (.cells cur 5 (0,0))) :Calls Tryz.prog 35 #[.pointer (some ⟨b,0,none⟩)] w fun e w'=>e = .returned (.string ⟨#[]⟩)∧Kept w w' (.slice (some ⟨g,0,none⟩) 0 0):=by
 have i:=YZ;have a:b<w.heap.size:=by
  rcases Nat.lt_or_ge b w.heap.size with h'|h'
  ·exact h'
  ·simp [Array.getElem?_eq_none h'] at f
 have m:w.drew.cell? ⟨b,1,none⟩=some (.slice (some ⟨g,0,none⟩) 0 0):=by have:w.drew.heap[b]? = some (.cells cells 90 (0,0)):=f;rw [Lib.cell_of_heap this];rw [← D0];exact h1
 have j:(Builtin.unsafeSliceData_ #[22] 119 #[.slice (some ⟨g,0,none⟩) 0 0]).run Tryz.prog w.drew = .ok (.pointer (some ⟨w.drew.heap.size,0,none⟩)) (w.drew.alloc (.view ⟨g,0,none⟩ 5)):=Lib.run_unsafeSliceData_zero w.drew _ _ 5 Tryz.underlying119 ⟨g,0,none⟩ 0 (5,cur.size) (by have d:w.drew.heap[g]? = some (.cells cur 5 (0,0)):=h;simp [World.shape?,d]);have l:(w.drew.alloc (.view ⟨g,0,none⟩ 5)).cell? ⟨b,1,none⟩=some (.slice (some ⟨g,0,none⟩) 0 0):=by have:(w.drew.alloc (.view ⟨g,0,none⟩ 5)).heap[b]? = _:=(Lib.alloc_old w.drew _ b a).trans f;rw [Lib.cell_of_heap this];rw [← D0];exact h1
 have n:(w.alloc (.view ⟨g,0,none⟩ 5)).drew.cell? ⟨b,1,none⟩=some (.slice (some ⟨g,0,none⟩) 0 0):=l;have o:w.cell? ⟨b,1,none⟩=some (.slice (some ⟨g,0,none⟩) 0 0):=m;have c:Kept w (w.drew.alloc (.view ⟨g,0,none⟩ 5)) (.slice (some ⟨g,0,none⟩) 0 0):=⟨rfl,rfl,rfl,by show w.heap.size≤(w.heap.push _).size;rw [Array.size_push];omega,fun k c _=>Lib.alloc_old w.drew _ k c⟩;have mixed:Tryz.prog.follows .mixedOrders=true:=by kernel_rfl
 go_enter Tryz.func35,Tryz.ntmps35
 go_wp2
 go_region_o
 all_goals (go_wp2;go_ret;exact⟨rfl,c⟩)
def Cv {w:World}{b off:Nat}{cells:Array Value}{e:TypeId}{c:Nat×Nat}(a:w.heap[b]? = some (.cells cells e c))(v:Value):w.setCell ⟨b,off,none⟩ v=w.setRow b (cells.setIfInBounds off v):=by
 unfold World.setCell World.setRow;refine congrArg (fun h=>({ w with heap:=h }:World)) (Array.ext_getElem? fun k=>?_);rw [Array.getElem?_modify,Array.getElem?_modify];by_cases h:b=k
 ·subst h;rw [if_pos rfl,if_pos rfl,a];rfl
 ·rw [if_neg h,if_neg h]
def Oz {e off:Nat}(h:Xi [(90,0)] e=some off):e=90∧off=0:=by
 unfold Xi at h
 cases hb:Nat.beq e 90 with
 |true=>rw [hb] at h;exact⟨B0 hb,(Option.some.inj h).symm⟩
 |false=>rw [hb] at h;cases h
def aH1:cA Tryz.prog 90=3:=by kernel_rfl
def aB0:Dv C:=by
 intro f d e off k w b cells i c a h0 j;have d:f=124:=B0 d;subst d;obtain⟨rfl,rfl⟩:=Oz k;have a:cells.size=3:=a.trans aH1;have g:w.cell? ⟨b,0,none⟩=some i:=by rw [Lib.cell_of_heap c,← D0];exact h0
 refine⟨⟨Tryz.f124,Tryz.func124,by kernel_rfl⟩,?_⟩;rcases j with rfl|rfl
 ·refine (Pf b w g (by simp [World.shape?,c,a]) (Lib.frozen_of_heap c 0)).mono ?_;rintro ex w' ⟨h1,rfl⟩;exact⟨h1,.inr (Cv c _)⟩
 ·exact (Va b w g).mono fun ex w' h=>⟨h.1,.inl h.2⟩
def Pc:NQ C:=by
 intro f i e off p w b cells v l d h1 a n o;have i:f=35:=B0 i;subst i;obtain⟨rfl,rfl⟩:=Oz p;refine⟨⟨Tryz.f35,Tryz.func35,by kernel_rfl⟩,?_⟩;rcases cP a with ⟨rfl,h0,_⟩|⟨g,cap,cur,rfl,m,h,j,c,k,_⟩
 ·have h0:l=[]:=E5.1 h0;subst h0;exact aA8 b cells w d h1
 ·rw [Nat.mul_one] at c k
  cases l with
  |nil=>
   by_cases hc:cap=0
   ·subst hc;exact Ku b g cur cells w d h1 m
   ·exact Uy b g cap cells w hc d h1
  |cons x l=>exact Uz b g cap cur (x::l) cells w d h1 (by simp) m h j c k
end Claim
end Go.Proofs.YtalibicpmfbieaaGreatDoor
