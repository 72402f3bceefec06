/- What every claim of this seat needs: the program's functions without a body, the library's contracts, the library's variables, the laid tables. -/
import Derived.Test.YtalibicpmfbieaaGreatDoorRows
import Derived.Test.YtalibicpmfbieaaGreatDoorShelf
import Derived.Test.YtalibicpmfbieaaGreatDoorAe0
import Derived.Test.YtalibicpmfbieaaGreatDoorEng
import Derived.Shelf.Vars
import Derived.HandedShaped
import Derived.LaidLaws
import Derived.Stop.LaidErr
import Derived.Handed
import Derived.LaidHandle
namespace Go.Proofs.YtalibicpmfbieaaGreatDoor
open Go.AE
set_option linter.unusedVariables false
set_option linter.unusedSimpArgs false
open Go.ChangeShapes Go.WideShapes Go.ChangeAt Go.RowKit
namespace Claim
theorem all_names : (Tryz.prog.funcs.all fun fn => !(fn.name == "runtime.NumGoroutine")) = true := by kernel_rfl
theorem names : NamesOk C := by
  refine ⟨fun f fn hf => ?_, extTab_spec extList ?_ (fun f ds => rfl), fun h h' hh k => ⟨hasInt_mono hh k.1, fun n xs hn => VDr_mono hh 1 xs _ (k.2 n xs hn)⟩, fun n xs hn h hk => hk.2 n xs hn, (fun _ h => by cases h), (fun _ h => by cases h)⟩
  · have h : Tryz.prog.funcs[f]? = some fn := hf
    have := Array.all_eq_true.1 all_names f (Array.getElem?_eq_some_iff.1 h).1
    rw [(Array.getElem?_eq_some_iff.1 h).2] at this
    simpa using this
  · intro p hp
    simp only [extList, List.mem_cons, List.not_mem_nil, or_false] at hp
    rcases hp with rfl | rfl
    · exact ext_add64 (fn := Tryz.f224) Tryz.func224 (by kernel_rfl) (by kernel_rfl) (by kernel_rfl) (by kernel_rfl)
    · exact ext_indexByte (fn := Tryz.f161) Tryz.func161 (by kernel_rfl) (by kernel_rfl) (by kernel_rfl) (by kernel_rfl)
theorem out170 : outSk C.P (C.dres 170) Tryz.f170.resultTypes.toList ⟨[(0, .d (.leaf .str)), (1, .d (.leaf .str))], []⟩ = ⟨[(0, .d (.leaf .bool))], []⟩ := by kernel_rfl
theorem out164 : outSk C.P (C.dres 164) Tryz.f164.resultTypes.toList ⟨[(0, .d (.leaf .str)), (1, .d (.leaf .str))], []⟩ = ⟨[(0, .d (.leaf .str)), (1, .d (.leaf .str)), (2, .d (.leaf .bool))], []⟩ := by kernel_rfl
set_option maxRecDepth 100000 in
theorem orcs : ∀ f sk ds r, C.orc f sk ds = some r → CallSpec C f sk ds r := by
  intro f sk ds r h
  refine orcTab_spec orcList (fun p hp => ?_) f sk ds r h
  simp only [orcList, List.mem_cons, List.not_mem_nil, or_false] at hp
  rcases hp with rfl | rfl
  · refine orcContains_spec (gv := 0) (fun h k => k.1) (fun s sub m w h1 h2 => Tryz.strings_Contains s sub m w h1 h2) (fun fn hf => ?_)
    have : fn = Tryz.f170 := Option.some.inj (hf.symm.trans Tryz.func170)
    subst this
    exact out170
  · refine orcCut_spec (gv := 0) (fun h k => k.1) (fun s sep m w h1 h2 => Tryz.strings_Cut s sep m w h1 h2) (fun fn hf => ?_)
    have : fn = Tryz.f164 := Option.some.inj (hf.symm.trans Tryz.func164)
    subst this
    exact out164
theorem bulk_one {H : Type} (d : DataW H) : 1 ≤ Rows.uptoBulk d := by
  cases d with
  | lit l => cases l <;> simp [Rows.uptoBulk]
  | nil => simp [Rows.uptoBulk]
  | ptr d => simp [Rows.uptoBulk]
  | slice elems spare => simp [Rows.uptoBulk]
  | agg parts => simp [Rows.uptoBulk]
  | iface t d => simp [Rows.uptoBulk]
  | map entries => simp [Rows.uptoBulk]
  | held h => simp [Rows.uptoBulk]
theorem meas {H : Type} : Meas (H := H) Rows.uptoBulk Rows.uptoBulkAll :=
  ⟨bulk_one, fun b => by simp [Rows.uptoBulk], fun e s => by simp only [Rows.uptoBulk]; omega, fun p => by simp only [Rows.uptoBulk]; omega, by simp [Rows.uptoBulkAll], fun d r => by simp [Rows.uptoBulkAll]⟩
theorem CP : C.P = Tryz.prog := rfl
theorem own : ownKnob Tryz.prog.godebug = none := by kernel_rfl
/-- Strings from a place on, told by the cells. -/
theorem VDr_of_strs {h : Nat → Option Obj} {g : Nat} : ∀ (l : List (List UInt8)) (k : Nat), (∀ (j : Nat) (s : List UInt8), l[j]? = some s → ∃ b : ByteArray, cellIn h ⟨g, k + j, none⟩ = some (.string b) ∧ b.data.toList = s) → VDr h 1 (l.map D.str) ⟨g, k, none⟩
  | [], _, _ => trivial
  | s :: l, k, H => by
    obtain ⟨b, h1, h2⟩ := H 0 s rfl
    refine ⟨⟨.string b, rfl, fun j u hj => ?_, fun u hu => ?_, b, rfl, h2⟩, ?_⟩
    · cases j with
      | zero => simp [Value.cells] at hj; subst hj; exact h1
      | succ j => simp [Value.cells] at hj
    · simp [Value.cells] at hu; subst hu; rfl
    · refine VDr_of_strs l (k + 1) fun j s' hj => ?_
      have := H (j + 1) s' (by simpa using hj)
      rwa [show k + 1 + j = k + (j + 1) from by omega]
theorem strs_of_head {P : Program} {W : World} {name : String} {ss : List (List UInt8)} {rest : List (String × DataW Unit)} {g : Nat} {t e : TypeId} {n : Nat}
    (hg : P.globalNamed name = some g) (hty : (P.globals[g]?).map (·.type) = some t) (ht : P.underlying t = some (.array n e)) (he : P.underlying e = some .string) (hce : P.cellsOf e = 1) (hn : ss.length = n)
    (h : laidMet P ((name, .agg (ss.map fun s => .lit (.string s))) :: rest) W) : VDr (snap W) 1 (ss.map D.str) ⟨g, 0, none⟩ := by
  obtain ⟨ps, ⟨g', t', cs, fuel, p, q, hg', ht', hvar, hd, _, _⟩, _⟩ := h
  obtain rfl := Option.some.inj (hg.symm.trans hg')
  obtain rfl := Option.some.inj (hty.symm.trans ht')
  obtain ⟨xs, m, rfl, hx, hcl, hxl, hget⟩ := DataW.trod_array ht hd
  have hxs : xs.map (·.1) = ss.map fun s => (DataW.lit (.string s) : DataW Unit) := by
    have := congrArg Prod.fst hx
    simpa using this.symm
  refine VDr_of_strs ss 0 fun j s hj => ?_
  have hjn : j < n := by
    rcases Nat.lt_or_ge j ss.length with h | h
    · omega
    · rw [List.getElem?_eq_none h] at hj; cases hj
  have hr := hget j hjn
  have hxj : xs[j]? = some xs[j] := List.getElem?_eq_getElem (by omega)
  rw [hxj, hce, Nat.mul_one] at hr
  obtain ⟨b, hc, hb, _⟩ := DataW.trod_string he hr
  have h1 : cs.toList[j]? = some (.string b) := by
    have := congrArg (·[0]?) hc
    simpa [List.getElem?_take, List.getElem?_drop] using this
  have h2 : (xs.map (·.1))[j]? = some (DataW.lit (.string b.data.toList)) := by rw [List.getElem?_map, hxj, hb]; rfl
  rw [hxs, List.getElem?_map, hj] at h2
  simp only [Option.map_some, Option.some.injEq, DataW.lit.injEq, Lit.string.injEq] at h2
  refine ⟨b, ?_, h2.symm⟩
  have := World.var?_cell hg hvar j
  rw [Nat.zero_add]
  exact this.trans (by rw [← Array.getElem?_toList]; exact h1)
/-- The table that is laid. -/
def laidL : List (String × DataW Unit) := [("sluicegate/parse.levels", Rows.laid_sluicegate_parse_levels)]
theorem lev_tab : (Rows.laid_sluicegate_parse_levels : DataW Unit) = .agg ((([[32, 124, 124, 32], [32, 38, 38, 32], [32, 124, 32], [32, 94, 32, 126, 94, 32, 94, 126, 32], [32, 38, 32], [32, 61, 61, 32, 33, 61, 32], [32, 60, 32, 60, 61, 32, 62, 32, 62, 61, 32], [32, 60, 60, 32, 62, 62, 32, 60, 60, 60, 32, 62, 62, 62, 32], [32, 43, 32, 45, 32], [32, 42, 32, 47, 32, 37, 32]] : List (List UInt8))).map fun s => .lit (.string s)) := by kernel_rfl
theorem gok {W : World} (h : W.ShapedOpen Tryz.prog) (hL : laidMet Tryz.prog laidL W) : C.gok (snap W) := by
  obtain ⟨m, hm⟩ := cell_of_shapedOpen_int (g := 0) (t := 3) (zero := #[.int .i64 0]) (k := .i64) h (of_decide_eq_true (by kernel_rfl)) (by kernel_rfl) rfl (by kernel_rfl) (by kernel_rfl) Tryz.underlying3
  have h3 := hL
  unfold laidL at h3
  rw [lev_tab] at h3
  have ht := strs_of_head (g := 1) (t := 247) (n := 10) (by kernel_rfl) (by kernel_rfl) Tryz.underlying247 (by kernel_rfl) (by kernel_rfl) rfl h3
  refine ⟨⟨m, hm⟩, fun n xs hn => ?_⟩
  by_cases h1 : n = 1
  · subst h1
    obtain rfl := Option.some.inj (hn.symm.trans (rfl : tabG globTab 1 = some _))
    exact ht
  · have : tabG globTab n = none := by
      unfold globTab tabG
      rw [show Nat.beq n 1 = false from by cases hb : Nat.beq n 1 with | false => rfl | true => exact absurd (Nat.eq_of_beq_eq_true hb) h1]
      rfl
    rw [this] at hn; cases hn
/-- A start in which the table lies. -/
def put (zs : Array Value) : Obj → Obj
  | .cells _ t frozen => .cells zs t frozen
  | x => x
noncomputable def laidWorld (os : Os) : World := { World.holding Tryz.prog os ⟨#[], #[], []⟩ with heap := (World.holding Tryz.prog os ⟨#[], #[], []⟩).heap.modify 1 (put #[.string ⟨#[32, 124, 124, 32]⟩, .string ⟨#[32, 38, 38, 32]⟩, .string ⟨#[32, 124, 32]⟩, .string ⟨#[32, 94, 32, 126, 94, 32, 94, 126, 32]⟩, .string ⟨#[32, 38, 32]⟩, .string ⟨#[32, 61, 61, 32, 33, 61, 32]⟩, .string ⟨#[32, 60, 32, 60, 61, 32, 62, 32, 62, 61, 32]⟩, .string ⟨#[32, 60, 60, 32, 62, 62, 32, 60, 60, 60, 32, 62, 62, 62, 32]⟩, .string ⟨#[32, 43, 32, 45, 32]⟩, .string ⟨#[32, 42, 32, 47, 32, 37, 32]⟩]) }
theorem laid_start (os : Os) (args : Array Value) : laidMet Tryz.prog laidL ((laidWorld os).forCall (fun _ _ => 0) ⟨#[], args, []⟩).memory :=
  laidMet_of_run' 8 (by kernel_rfl) (by kernel_rfl)
/-- A contract that may use that the world is shaped and that the tables are laid. -/
theorem returns_laid {a : Assume} {P : Checked} {os : Os} {f : FuncId} {fn : Func} {H : Type} {enc : TypeId × Value → H} {s : ChangeSpec} {conds : List PathCond} {apart fresh handsOn again : Bool} {X : World → Array Value → Prop}
    (hX : ∀ (w w' : World) (args : Array Value), w.heap = w'.heap → X w args → X w' args)
    (own : ownKnob P.prog.godebug = none) (started : os.Started) (noInit : P.prog.inits.idxOf? f = none) (hfn : P.prog.funcs[f]? = some fn)
    (witness : ∃ (w : World) (tape : Tape) (i : Input), w.os = os ∧ (w.forCall tape i).Shaped P.prog ∧ i.vars = [] ∧ Input.okWide P.prog (w.forCall tape i) .any w.heap.size f i ∧
      ((s.pre enc P.prog fn conds apart (w.forCall tape i).memory i.args ∧ X (w.forCall tape i).memory i.args) ∧ sizedMet enc P.prog fn (OpenSpec.ofChange s) apart (w.forCall tape i).memory i.args) ∧ a.holds P.prog (lone (Frame.enter P.prog f i.args .normal) [] (w.forCall tape i)))
    (contract : ∀ (W : World) (base : Nat) (args : Array Value) (ds gs : List (DataW H)) (before : List MemPlace),
      (∀ (j : Nat) t v, fn.params[j]? = some t → args[j]? = some v → Value.okWide P.prog W .any base t v) →
      DataW.Whole enc P.prog fn.params.toList s.vars apart W args.toList ds gs before → W.ShapedOpen P.prog → X W args →
      Calls P.prog f args W fun e W' => ∃ v, e = .returned v ∧ s.post enc P.prog fn apart fresh handsOn again W args v W') :
    ReturnsInHanded a P os f .any (fun w args => (s.pre enc P.prog fn conds apart w args ∧ X w args) ∧ sizedMet enc P.prog fn (OpenSpec.ofChange s) apart w args) (s.post enc P.prog fn apart fresh handsOn again) := by
  refine returnsInHanded_of_calls own started noInit witness ?_
  intro w tape i _ hsh _ hok hpre hholds
  obtain ⟨_, _, _, fn', hfn', _, _, _, _, hval⟩ := hok
  have e : fn' = fn := Option.some.inj (hfn'.symm.trans hfn)
  subst e
  obtain ⟨⟨⟨ds, gs, before, hw, hc⟩, hx⟩, hz⟩ := hpre
  have hw' := DataW.Whole.of_heap (w' := w.forCall tape i) (by rfl) hw
  refine (contract (w.forCall tape i) w.heap.size i.args ds gs before hval hw' hsh (hX _ _ _ (by rfl) hx)).mono fun e W' ⟨v, he, hp⟩ => ?_
  subst he
  exact ChangeSpec.post_blind hp
end Claim
end Go.Proofs.YtalibicpmfbieaaGreatDoor
