/- What the claims of this seat need: the program's functions without a body, the library's contracts. -/
import Derived.Test.YtfadegfceobogaaRows
import Derived.Test.YtfadegfceobogaaShelf
import Derived.Test.YtfadegfceobogaaAe0
import Derived.Test.YtfadegfceobogaaEng
import Derived.HandedShaped
namespace Go.Proofs.Ytfadegfceobogaa
open Go.AE
set_option linter.unusedVariables false
set_option linter.unusedSimpArgs false
open Go.ChangeShapes Go.WideShapes Go.ChangeAt Go.RowKit
namespace Claim
theorem all_names : (Try.prog.funcs.all fun fn => !(fn.name == "runtime.NumGoroutine")) = true := by kernel_rfl
theorem names : NamesOk C := by
  refine ⟨fun f fn hf => ?_, extTab_spec extList (fun p hp => by cases hp) (fun f ds => rfl), fun h h' hh k => k⟩
  have h : Try.prog.funcs[f]? = some fn := hf
  have := Array.all_eq_true.1 all_names f (Array.getElem?_eq_some_iff.1 h).1
  rw [(Array.getElem?_eq_some_iff.1 h).2] at this
  simpa using this
theorem orcs : ∀ f sk ds r, C.orc f sk ds = some r → CallSpec C f sk ds r := by
  intro f sk ds r h
  refine orcTab_spec orcList (fun p hp => ?_) f sk ds r h
  simp only [orcList, List.mem_cons, List.not_mem_nil, or_false] at hp
  rcases hp with rfl | rfl
  · refine orcCompact_spec (fun blk off cap zs w h1 h2 h3 => Try.slices_Compact_string blk off cap zs w h1 h2 h3) (fun p cap w => Try.slices_Compact_string_empty p cap w) (fun fn hf => ?_) (by kernel_rfl) (by kernel_rfl)
    have : fn = Try.f26 := Option.some.inj (hf.symm.trans Try.func26)
    subst this
    exact ⟨39, by kernel_rfl, by kernel_rfl⟩
  · refine orcSort_spec (fun blk off cap ss w h1 h2 h3 => Try.slices_Sort_string blk off cap ss w h1 h2 h3) (fun p cap w => Try.slices_Sort_string_none p cap w) (fun fn hf => ?_)
    have : fn = Try.f25 := Option.some.inj (hf.symm.trans Try.func25)
    subst this
    exact (by kernel_rfl : Try.f25.resultTypes = #[])
theorem bulk_one {H : Type} (d : DataW H) : 1 ≤ Rows.uptoBulk d := by
  cases d with
  | lit l => cases l <;> simp [Rows.uptoBulk]
  | nil => simp [Rows.uptoBulk]
  | ptr d => simp [Rows.uptoBulk]
  | slice elems spare => simp [Rows.uptoBulk]
  | agg parts => simp [Rows.uptoBulk]
  | iface t d => simp [Rows.uptoBulk]
  | map entries => simp [Rows.uptoBulk]
  | held h => simp [Rows.uptoBulk]
theorem meas {H : Type} : Meas (H := H) Rows.uptoBulk Rows.uptoBulkAll :=
  ⟨bulk_one, fun b => by simp [Rows.uptoBulk], fun e s => by simp only [Rows.uptoBulk]; omega, fun p => by simp only [Rows.uptoBulk]; omega, by simp [Rows.uptoBulkAll], fun d r => by simp [Rows.uptoBulkAll]⟩
theorem CP : C.P = Try.prog := rfl
theorem own : ownKnob Try.prog.godebug = none := by kernel_rfl
theorem gok {W : World} (_ : W.ShapedOpen Try.prog) : C.gok (snap W) := trivial
end Claim
end Go.Proofs.Ytfadegfceobogaa
