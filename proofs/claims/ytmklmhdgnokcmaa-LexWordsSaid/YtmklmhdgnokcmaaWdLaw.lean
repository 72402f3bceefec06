/- What every claim over Lex needs: the program's functions without a body, the library's contracts, the library's variable. -/
import Derived.Test.YtmklmhdgnokcmaaRows
import Derived.Test.YtmklmhdgnokcmaaShelf
import Derived.Test.YtmklmhdgnokcmaaBe0
import Derived.Test.YtmklmhdgnokcmaaEng
import Derived.Shelf.Vars
import Derived.HandedShaped
namespace Go.Proofs.Ytmklmhdgnokcmaa
open Go.AE
set_option linter.unusedVariables false
open Go.ChangeShapes Go.WideShapes Go.ChangeAt Go.RowKit
namespace Claim
theorem all_names : (Try.prog.funcs.all fun fn => !(fn.name == "runtime.NumGoroutine")) = true := by kernel_rfl
theorem names : NamesOk C := by
  refine ⟨fun f fn hf => ?_, extTab_spec extList ?_ (fun f ds => rfl), fun h h' hh k => hasInt_mono hh k⟩
  · have h : Try.prog.funcs[f]? = some fn := hf
    have := Array.all_eq_true.1 all_names f (Array.getElem?_eq_some_iff.1 h).1
    rw [(Array.getElem?_eq_some_iff.1 h).2] at this
    simpa using this
  · intro p hp
    simp only [extList, List.mem_cons, List.not_mem_nil, or_false] at hp
    rcases hp with rfl | rfl
    · exact ext_add64 (fn := Try.f167) Try.func167 (by kernel_rfl) (by kernel_rfl) (by kernel_rfl) (by kernel_rfl)
    · exact ext_indexByte (fn := Try.f126) Try.func126 (by kernel_rfl) (by kernel_rfl) (by kernel_rfl) (by kernel_rfl)
theorem out135 : outSk C.P (C.dres 135) Try.f135.resultTypes.toList ⟨[(0, .d (.leaf .str)), (1, .d (.leaf .str))], []⟩ = ⟨[(0, .d (.leaf .bool))], []⟩ := by kernel_rfl
theorem out129 : outSk C.P (C.dres 129) Try.f129.resultTypes.toList ⟨[(0, .d (.leaf .str)), (1, .d (.leaf .str))], []⟩ = ⟨[(0, .d (.leaf .str)), (1, .d (.leaf .str)), (2, .d (.leaf .bool))], []⟩ := by kernel_rfl
theorem out52 : outSk C.P (C.dres 52) Try.f52.resultTypes.toList ⟨[(0, .d (.leaf (.lst 1))), (1, .d (.leaf .str))], []⟩ = ⟨[(0, .d (.leaf .str))], []⟩ := by kernel_rfl
set_option maxRecDepth 100000 in
theorem orcs : ∀ f sk ds r, C.orc f sk ds = some r → CallSpec C f sk ds r := by
  intro f sk ds r h
  refine orcTab_spec orcList (fun p hp => ?_) f sk ds r h
  simp only [orcList, List.mem_cons, List.not_mem_nil, or_false] at hp
  rcases hp with rfl | rfl | rfl
  · refine orcContains_spec (gv := 0) (fun h k => k) (fun s sub m w h1 h2 => Try.strings_Contains s sub m w h1 h2) (fun fn hf => ?_)
    have : fn = Try.f135 := Option.some.inj (hf.symm.trans Try.func135)
    subst this
    exact out135
  · refine orcCut_spec (gv := 0) (fun h k => k) (fun s sep m w h1 h2 => Try.strings_Cut s sep m w h1 h2) (fun fn hf => ?_)
    have : fn = Try.f129 := Option.some.inj (hf.symm.trans Try.func129)
    subst this
    exact out129
  · refine orcJoin_spec (fun a k sep w => Try.strings_Join_none a k sep w) (fun bk o k xs sep w h1 h2 h3 h4 h5 => Try.strings_Join bk o k xs sep w h1 h2 h3 h4 h5) (fun fn hf => ?_)
    have : fn = Try.f52 := Option.some.inj (hf.symm.trans Try.func52)
    subst this
    exact out52
theorem bulk_one {H : Type} (d : DataW H) : 1 ≤ Rows.uptoBulk d := by
  cases d with
  | lit l => cases l <;> simp [Rows.uptoBulk]
  | nil => simp [Rows.uptoBulk]
  | ptr d => simp [Rows.uptoBulk]
  | slice elems spare => simp [Rows.uptoBulk]
  | agg parts => simp [Rows.uptoBulk]
  | iface t d => simp [Rows.uptoBulk]
  | map entries => simp [Rows.uptoBulk]
  | held h => simp [Rows.uptoBulk]
theorem meas {H : Type} : Meas (H := H) Rows.uptoBulk Rows.uptoBulkAll :=
  ⟨bulk_one, fun b => by simp [Rows.uptoBulk], fun e s => by simp only [Rows.uptoBulk]; omega, fun p => by simp only [Rows.uptoBulk]; omega, by simp [Rows.uptoBulkAll], fun d r => by simp [Rows.uptoBulkAll]⟩
theorem CP : C.P = Try.prog := rfl
theorem own : ownKnob Try.prog.godebug = none := by kernel_rfl
/-- The library's variable holds an integer. -/
theorem gok {W : World} (h : W.ShapedOpen Try.prog) : C.gok (snap W) := by
  obtain ⟨m, hm⟩ := cell_of_shapedOpen_int (g := 0) (t := 3) (zero := #[.int .i64 0]) (k := .i64) h (of_decide_eq_true (by kernel_rfl)) (by kernel_rfl) rfl (by kernel_rfl) (by kernel_rfl) Try.underlying3
  exact ⟨m, hm⟩
end Claim
end Go.Proofs.Ytmklmhdgnokcmaa
