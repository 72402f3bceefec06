/- What the claim needs of the program: one function without a body, bits.Add64, no contract of the library is used. -/
import Derived.Test.YthlhbocobgkdmaaGreatRows
import Derived.Test.YthlhbocobgkdmaaGreatAe0
import Derived.Test.YthlhbocobgkdmaaGreatEng
import Derived.HandedShaped
namespace Go.Proofs.YthlhbocobgkdmaaGreat
open Go.AE
set_option linter.unusedVariables false
set_option linter.unusedSimpArgs false
open Go.ChangeShapes Go.WideShapes Go.ChangeAt Go.RowKit
namespace Claim
theorem all_names : (Tryz.prog.funcs.all fun fn => !(fn.name == "runtime.NumGoroutine")) = true := by kernel_rfl
theorem names : NamesOk C := by
  refine ⟨fun f fn hf => ?_, extTab_spec extList ?_ (fun f ds => rfl), fun h h' hh k => k, (fun _ _ h => by cases h), (fun _ h => by cases h), (fun _ h => by cases h)⟩
  · have h : Tryz.prog.funcs[f]? = some fn := hf
    have := Array.all_eq_true.1 all_names f (Array.getElem?_eq_some_iff.1 h).1
    rw [(Array.getElem?_eq_some_iff.1 h).2] at this
    simpa using this
  · intro p hp
    simp only [extList, List.mem_cons, List.not_mem_nil, or_false] at hp
    subst hp
    exact ext_add64 (fn := Tryz.f142) Tryz.func142 (by kernel_rfl) (by kernel_rfl) (by kernel_rfl) (by kernel_rfl)
theorem orcs : ∀ f sk ds r, C.orc f sk ds = some r → CallSpec C f sk ds r := by
  intro f sk ds r h
  have h : (none : Option (List D)) = some r := h
  cases h
theorem bulk_one {H : Type} (d : DataW H) : 1 ≤ Rows.uptoBulk d := by
  cases d with
  | lit l => cases l <;> simp [Rows.uptoBulk]
  | nil => simp [Rows.uptoBulk]
  | ptr d => simp [Rows.uptoBulk]
  | slice elems spare => simp [Rows.uptoBulk]
  | agg parts => simp [Rows.uptoBulk]
  | iface t d => simp [Rows.uptoBulk]
  | map entries => simp [Rows.uptoBulk]
  | held h => simp [Rows.uptoBulk]
theorem meas {H : Type} : Meas (H := H) Rows.uptoBulk Rows.uptoBulkAll :=
  ⟨bulk_one, fun b => by simp [Rows.uptoBulk], fun e s => by simp only [Rows.uptoBulk]; omega, fun p => by simp only [Rows.uptoBulk]; omega, by simp [Rows.uptoBulkAll], fun d r => by simp [Rows.uptoBulkAll]⟩
theorem CP : C.P = Tryz.prog := rfl
theorem own : ownKnob Tryz.prog.godebug = none := by kernel_rfl
theorem gok {W : World} (_ : W.ShapedOpen Tryz.prog) : C.gok (snap W) := trivial
end Claim
end Go.Proofs.YthlhbocobgkdmaaGreat
