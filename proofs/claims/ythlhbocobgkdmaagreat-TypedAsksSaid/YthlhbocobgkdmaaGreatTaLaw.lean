import Derived.Test.YthlhbocobgkdmaaGreatRows
import Derived.Test.YthlhbocobgkdmaaGreatShelf
import Derived.Test.YthlhbocobgkdmaaGreatAe0
import Derived.Test.YthlhbocobgkdmaaGreatEng
import Derived.Shelf.Vars
import Derived.HandedShaped
set_option linter.all false
namespace Go.Proofs.YthlhbocobgkdmaaGreat
open Go.AE
open Go.ChangeShapes Go.WideShapes Go.ChangeAt Go.RowKit
namespace Claim
theorem FH:(Tryz.prog.funcs.all fun fn=>!(fn.name=="runtime.NumGoroutine"))=true:=by kernel_rfl
theorem names:fP C:=by
 refine⟨fun f fn hf=>?_,IF uD ?_ (fun f ds=>rfl),fun h h' hh k=>XP hh k,(fun _ _ h=>by cases h),(fun _ h=>by cases h),(fun _ h=>by cases h)⟩
 ·have h:Tryz.prog.funcs[f]? = some fn:=hf
  have:=Array.all_eq_true.1 FH f (Array.getElem?_eq_some_iff.1 h).1
  rw [(Array.getElem?_eq_some_iff.1 h).2] at this
  simpa using this
 ·intro p hp
  simp only [uD,B7,List.not_mem_nil,or_false] at hp
  rcases hp with rfl|rfl
  ·exact Gf (fn:=Tryz.f142) Tryz.func142 (by kernel_rfl) (by kernel_rfl) (by kernel_rfl) (by kernel_rfl)
  ·exact OT (fn:=Tryz.f214) Tryz.func214 (by kernel_rfl) (by kernel_rfl) (by kernel_rfl) (by kernel_rfl)
theorem Tj:cF C.P (C.dres 166) Tryz.f166.resultTypes.toList ⟨[(0,.d (.leaf .str)),(1,.d (.leaf .str))],[]⟩=⟨[(0,.d (.leaf .str)),(1,.d (.leaf .str)),(2,.d (.leaf .bool))],[]⟩:=by kernel_rfl
theorem Uy:cF C.P (C.dres 65) Tryz.f65.resultTypes.toList YthlhbocobgkdmaaGreatZ.Jo=YthlhbocobgkdmaaGreatZ.gV.H9:=by kernel_rfl
set_option maxRecDepth 100000 in
theorem Ti:∀ f sk ds r,C.CK f sk ds=some r→fO C f sk ds r:=by
 intro f sk ds r h
 refine IU EK (fun p hp=>?_) f sk ds r h
 simp only [EK,B7,List.not_mem_nil,or_false] at hp
 rcases hp with rfl|rfl|rfl|rfl
 ·refine GX (fun blk off cap zs w h1 h2 h3=>Tryz.slices_Compact_int blk off cap zs w h1 h2 h3) (fun p cap w=>Tryz.slices_Compact_int_empty p cap w) (fun fn hf=>?_) (by kernel_rfl) (by kernel_rfl)
  have:fn=Tryz.f91:=Option.some.inj (hf.symm.trans Tryz.func91)
  subst this
  exact⟨23,by kernel_rfl,by kernel_rfl⟩
 ·refine PC (fun blk off cap ss w h1 h2 h3=>Tryz.slices_Sort_int blk off cap ss w h1 h2 h3) (fun p cap w=>Tryz.slices_Sort_int_none p cap w) (fun fn hf=>?_)
  have:fn=Tryz.f90:=Option.some.inj (hf.symm.trans Tryz.func90)
  subst this
  exact (by kernel_rfl:Tryz.f90.resultTypes=#[])
 ·exact YthlhbocobgkdmaaGreatZ.YL (c:=C) rfl Uy
 ·refine YM (gv:=0) (fun h k=>k) (fun s sep m w h1 h2=>Tryz.strings_Cut s sep m w h1 h2) (fun fn hf=>?_)
  have:fn=Tryz.f166:=Option.some.inj (hf.symm.trans Tryz.func166)
  subst this
  exact Tj
theorem Jl {H:Type}(d:DataW H):1≤Rows.uptoBulk d:=by
 cases d with
 |lit l=>cases l<;>simp [Rows.uptoBulk]
 |nil=>simp [Rows.uptoBulk]
 |ptr d=>simp [Rows.uptoBulk]
 |slice elems spare=>simp [Rows.uptoBulk]
 |agg parts=>simp [Rows.uptoBulk]
 |iface t d=>simp [Rows.uptoBulk]
 |map entries=>simp [Rows.uptoBulk]
 |held h=>simp [Rows.uptoBulk]
theorem Vx {H:Type}:ZX (H:=H) Rows.uptoBulk Rows.uptoBulkAll:=
 ⟨Jl,fun b=>by simp [Rows.uptoBulk],fun e s=>by simp only [Rows.uptoBulk];omega,fun p=>by simp only [Rows.uptoBulk];omega,by simp [Rows.uptoBulkAll],fun d r=>by simp [Rows.uptoBulkAll]⟩
theorem CP:C.P=Tryz.prog:=rfl
theorem own:ownKnob Tryz.prog.godebug=none:=by kernel_rfl
theorem FD {W:World}(h:W.ShapedOpen Tryz.prog):C.FD (snap W):=by
 obtain⟨m,hm⟩:=cell_of_shapedOpen_int (g:=0) (t:=3) (zero:=#[.int .i64 0]) (k:= .i64) h (E5 (by kernel_rfl)) (by kernel_rfl) rfl (by kernel_rfl) (by kernel_rfl) Tryz.underlying3
 exact⟨m,hm⟩
end Claim
end Go.Proofs.YthlhbocobgkdmaaGreat
