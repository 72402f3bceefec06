/- What every claim of this seat needs: the program's functions without a body, the library's contracts, the library's variables, the laid tables. -/
import Derived.Test.YtkjocbdjenmegaaDoorRows
import Derived.Test.YtkjocbdjenmegaaDoorShelf
import Derived.Test.YtkjocbdjenmegaaDoorAe0
import Derived.Test.YtkjocbdjenmegaaDoorEng
import Derived.Shelf.Vars
import Derived.HandedShaped
import Derived.LaidLaws
import Derived.Stop.LaidErr
import Derived.Handed
import Derived.LaidHandle
namespace Go.Proofs.YtkjocbdjenmegaaDoor
open Go.AE
set_option linter.unusedVariables false
open Go.ChangeShapes Go.WideShapes Go.ChangeAt Go.RowKit
namespace Claim
theorem all_names : (Tryd.prog.funcs.all fun fn => !(fn.name == "runtime.NumGoroutine")) = true := by kernel_rfl
theorem names : NamesOk C := by
  refine ⟨fun f fn hf => ?_, extTab_spec extList ?_ (fun f ds => rfl), fun h h' hh k => ⟨hasInt_mono hh k.1, tabH_mono hh k.2⟩⟩
  · have h : Tryd.prog.funcs[f]? = some fn := hf
    have := Array.all_eq_true.1 all_names f (Array.getElem?_eq_some_iff.1 h).1
    rw [(Array.getElem?_eq_some_iff.1 h).2] at this
    simpa using this
  · intro p hp
    simp only [extList, List.mem_cons, List.not_mem_nil, or_false] at hp
    rcases hp with rfl | rfl
    · exact ext_add64 (fn := Tryd.f100) Tryd.func100 (by kernel_rfl) (by kernel_rfl) (by kernel_rfl) (by kernel_rfl)
    · exact ext_indexByte (fn := Tryd.f115) Tryd.func115 (by kernel_rfl) (by kernel_rfl) (by kernel_rfl) (by kernel_rfl)
theorem out42 : outSk C.P (C.dres 42) Tryd.f42.resultTypes.toList ⟨[(0, .d (.leaf (.int .i64)))], []⟩ = ⟨[(0, .d (.leaf .str))], []⟩ := by kernel_rfl
theorem out29 : outSk C.P (C.dres 29) Tryd.f29.resultTypes.toList ⟨[(0, .d (.leaf .str)), (1, .d (.leaf .str))], []⟩ = ⟨[(0, .d (.leaf .str)), (1, .d (.leaf .str)), (2, .d (.leaf .bool))], []⟩ := by kernel_rfl
set_option maxRecDepth 100000 in
theorem orcs : ∀ f sk ds r, C.orc f sk ds = some r → CallSpec C f sk ds r := by
  intro f sk ds r h
  refine orcTab_spec orcList (fun p hp => ?_) f sk ds r h
  simp only [orcList, List.mem_cons, List.not_mem_nil, or_false] at hp
  rcases hp with rfl | rfl
  · refine orcItoa_spec (name := "internal/strconv.uint64pow10") (gv := 1) (by kernel_rfl) (fun h k => k.2) (fun n h0 h1 w ht => Tryd.strconv_Itoa n h0 h1 w ht) (fun fn hf => ?_)
    have : fn = Tryd.f42 := Option.some.inj (hf.symm.trans Tryd.func42)
    subst this
    exact out42
  · refine orcCut_spec (gv := 0) (fun h k => k.1) (fun s sep m w h1 h2 => Tryd.strings_Cut s sep m w h1 h2) (fun fn hf => ?_)
    have : fn = Tryd.f29 := Option.some.inj (hf.symm.trans Tryd.func29)
    subst this
    exact out29
theorem bulk_one {H : Type} (d : DataW H) : 1 ≤ Rows.uptoBulk d := by
  cases d with
  | lit l => cases l <;> simp [Rows.uptoBulk]
  | nil => simp [Rows.uptoBulk]
  | ptr d => simp [Rows.uptoBulk]
  | slice elems spare => simp [Rows.uptoBulk]
  | agg parts => simp [Rows.uptoBulk]
  | iface t d => simp [Rows.uptoBulk]
  | map entries => simp [Rows.uptoBulk]
  | held h => simp [Rows.uptoBulk]
theorem meas {H : Type} : Meas (H := H) Rows.uptoBulk Rows.uptoBulkAll :=
  ⟨bulk_one, fun b => by simp [Rows.uptoBulk], fun e s => by simp only [Rows.uptoBulk]; omega, fun p => by simp only [Rows.uptoBulk]; omega, by simp [Rows.uptoBulkAll], fun d r => by simp [Rows.uptoBulkAll]⟩
theorem CP : C.P = Tryd.prog := rfl
theorem own : ownKnob Tryd.prog.godebug = none := by kernel_rfl
/-- The tables that are laid. -/
def laidL : List (String × DataW Unit) := [("math/bits.deBruijn32tab", Rows.laid_math_bits_deBruijn32tab), ("math/bits.deBruijn64tab", Rows.laid_math_bits_deBruijn64tab), ("internal/strconv.uint64pow10", Rows.laid_internal_strconv_uint64pow10)]
theorem pow_tab : (Rows.laid_internal_strconv_uint64pow10 : DataW Unit) = Lib.tabData .u64 Lib.pow10Tab := by kernel_rfl
theorem gok {W : World} (h : W.ShapedOpen Tryd.prog) (hL : laidMet Tryd.prog laidL W) : C.gok (snap W) := by
  obtain ⟨m, hm⟩ := cell_of_shapedOpen_int (g := 0) (t := 3) (zero := #[.int .i64 0]) (k := .i64) h (of_decide_eq_true (by kernel_rfl)) (by kernel_rfl) rfl (by kernel_rfl) (by kernel_rfl) Tryd.underlying3
  have h3 := hL.tail.tail
  rw [pow_tab] at h3
  have ht := Lib.tabIs_of_head (g := 1) (t := 152) (n := 20) (by kernel_rfl) (by kernel_rfl) Tryd.underlying152 (by kernel_rfl) (by kernel_rfl) (by kernel_rfl) h3
  exact ⟨⟨m, hm⟩, tabH_of (by kernel_rfl) ht⟩
/-- A start in which the tables lie. -/
def put (zs : Array Value) : Obj → Obj
  | .cells _ t frozen => .cells zs t frozen
  | x => x
noncomputable def laidWorld (os : Os) : World := { World.holding Tryd.prog os ⟨#[], #[], []⟩ with heap := (((World.holding Tryd.prog os ⟨#[], #[], []⟩).heap.modify 2 (put #[.int .u8 0, .int .u8 1, .int .u8 28, .int .u8 2, .int .u8 29, .int .u8 14, .int .u8 24, .int .u8 3, .int .u8 30, .int .u8 22, .int .u8 20, .int .u8 15, .int .u8 25, .int .u8 17, .int .u8 4, .int .u8 8, .int .u8 31, .int .u8 27, .int .u8 13, .int .u8 23, .int .u8 21, .int .u8 19, .int .u8 16, .int .u8 7, .int .u8 26, .int .u8 12, .int .u8 18, .int .u8 6, .int .u8 11, .int .u8 5, .int .u8 10, .int .u8 9])).modify 3 (put #[.int .u8 0, .int .u8 1, .int .u8 56, .int .u8 2, .int .u8 57, .int .u8 49, .int .u8 28, .int .u8 3, .int .u8 61, .int .u8 58, .int .u8 42, .int .u8 50, .int .u8 38, .int .u8 29, .int .u8 17, .int .u8 4, .int .u8 62, .int .u8 47, .int .u8 59, .int .u8 36, .int .u8 45, .int .u8 43, .int .u8 51, .int .u8 22, .int .u8 53, .int .u8 39, .int .u8 33, .int .u8 30, .int .u8 24, .int .u8 18, .int .u8 12, .int .u8 5, .int .u8 63, .int .u8 55, .int .u8 48, .int .u8 27, .int .u8 60, .int .u8 41, .int .u8 37, .int .u8 16, .int .u8 46, .int .u8 35, .int .u8 44, .int .u8 21, .int .u8 52, .int .u8 32, .int .u8 23, .int .u8 11, .int .u8 54, .int .u8 26, .int .u8 40, .int .u8 15, .int .u8 34, .int .u8 20, .int .u8 31, .int .u8 10, .int .u8 25, .int .u8 14, .int .u8 19, .int .u8 9, .int .u8 13, .int .u8 8, .int .u8 7, .int .u8 6])).modify 1 (put #[.int .u64 1, .int .u64 10, .int .u64 100, .int .u64 1000, .int .u64 10000, .int .u64 100000, .int .u64 1000000, .int .u64 10000000, .int .u64 100000000, .int .u64 1000000000, .int .u64 10000000000, .int .u64 100000000000, .int .u64 1000000000000, .int .u64 10000000000000, .int .u64 100000000000000, .int .u64 1000000000000000, .int .u64 10000000000000000, .int .u64 100000000000000000, .int .u64 1000000000000000000, .int .u64 10000000000000000000]) }
theorem laid_start (os : Os) (args : Array Value) : laidMet Tryd.prog laidL ((laidWorld os).forCall (fun _ _ => 0) ⟨#[], args, []⟩).memory :=
  laidMet_of_run' 8 (by kernel_rfl) (by kernel_rfl)
/-- A contract that may use that the world is shaped and that the tables are laid. -/
theorem returns_laid {a : Assume} {P : Checked} {os : Os} {f : FuncId} {fn : Func} {H : Type} {enc : TypeId × Value → H} {s : ChangeSpec} {conds : List PathCond} {apart fresh handsOn again : Bool} {X : World → Array Value → Prop}
    (hX : ∀ (w w' : World) (args : Array Value), w.heap = w'.heap → X w args → X w' args)
    (own : ownKnob P.prog.godebug = none) (started : os.Started) (noInit : P.prog.inits.idxOf? f = none) (hfn : P.prog.funcs[f]? = some fn)
    (witness : ∃ (w : World) (tape : Tape) (i : Input), w.os = os ∧ (w.forCall tape i).Shaped P.prog ∧ i.vars = [] ∧ Input.okWide P.prog (w.forCall tape i) .any w.heap.size f i ∧
      ((s.pre enc P.prog fn conds apart (w.forCall tape i).memory i.args ∧ X (w.forCall tape i).memory i.args) ∧ sizedMet enc P.prog fn (OpenSpec.ofChange s) apart (w.forCall tape i).memory i.args) ∧ a.holds P.prog (lone (Frame.enter P.prog f i.args .normal) [] (w.forCall tape i)))
    (contract : ∀ (W : World) (base : Nat) (args : Array Value) (ds gs : List (DataW H)) (before : List MemPlace),
      (∀ (j : Nat) t v, fn.params[j]? = some t → args[j]? = some v → Value.okWide P.prog W .any base t v) →
      DataW.Whole enc P.prog fn.params.toList s.vars apart W args.toList ds gs before → W.ShapedOpen P.prog → X W args →
      Calls P.prog f args W fun e W' => ∃ v, e = .returned v ∧ s.post enc P.prog fn apart fresh handsOn again W args v W') :
    ReturnsInHanded a P os f .any (fun w args => (s.pre enc P.prog fn conds apart w args ∧ X w args) ∧ sizedMet enc P.prog fn (OpenSpec.ofChange s) apart w args) (s.post enc P.prog fn apart fresh handsOn again) := by
  refine returnsInHanded_of_calls own started noInit witness ?_
  intro w tape i _ hsh _ hok hpre hholds
  obtain ⟨_, _, _, fn', hfn', _, _, _, _, hval⟩ := hok
  have e : fn' = fn := Option.some.inj (hfn'.symm.trans hfn)
  subst e
  obtain ⟨⟨⟨ds, gs, before, hw, hc⟩, hx⟩, hz⟩ := hpre
  have hw' := DataW.Whole.of_heap (w' := w.forCall tape i) (by rfl) hw
  refine (contract (w.forCall tape i) w.heap.size i.args ds gs before hval hw' hsh (hX _ _ _ (by rfl) hx)).mono fun e W' ⟨v, he, hp⟩ => ?_
  subst he
  exact ChangeSpec.post_blind hp
end Claim
end Go.Proofs.YtkjocbdjenmegaaDoor
