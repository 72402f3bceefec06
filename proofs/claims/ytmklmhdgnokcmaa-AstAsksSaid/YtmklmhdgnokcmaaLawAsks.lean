/- For every slice of bytes AstAsks returns true and leaves its argument as it was. No condition. -/
import Derived.Test.YtmklmhdgnokcmaaRows
import Derived.Test.YtmklmhdgnokcmaaShelf
import Derived.Test.YtmklmhdgnokcmaaAstAsks
import Derived.Test.YtmklmhdgnokcmaaEng
namespace Go.Proofs.Ytmklmhdgnokcmaa
open Go.AE
set_option linter.unusedVariables false
open Go.ChangeShapes Go.WideShapes Go.ChangeAt Go.RowKit
namespace Claim
theorem all_names : (Try.prog.funcs.all fun fn => !(fn.name == "runtime.NumGoroutine")) = true := by kernel_rfl
theorem names : NamesOk C := by
  refine ⟨fun f fn hf => ?_, extTab_spec extList ?_ fun f ds => rfl⟩
  · have h : Try.prog.funcs[f]? = some fn := hf
    have := Array.all_eq_true.1 all_names f (Array.getElem?_eq_some_iff.1 h).1
    rw [(Array.getElem?_eq_some_iff.1 h).2] at this
    simpa using this
  · intro p hp
    simp only [extList, List.mem_cons, List.not_mem_nil, or_false] at hp
    rcases hp with rfl | rfl
    · exact ext_add64 (fn := Try.f167) Try.func167 (by kernel_rfl) (by kernel_rfl) (by kernel_rfl) (by kernel_rfl)
    · exact ext_indexByte (fn := Try.f126) Try.func126 (by kernel_rfl) (by kernel_rfl) (by kernel_rfl) (by kernel_rfl)
theorem orcs : ∀ f sk ds r, C.orc f sk ds = some r → CallSpec C f sk ds r := by
  intro f sk ds r h
  refine orcTab_spec orcList (fun p hp => ?_) f sk ds r h
  simp only [orcList, List.mem_cons, List.not_mem_nil, or_false] at hp
  rcases hp with rfl | rfl
  · refine orcCompact_spec (fun blk off cap zs w h1 h2 h3 => Try.slices_Compact_string blk off cap zs w h1 h2 h3) (fun p cap w => Try.slices_Compact_string_empty p cap w) (fun fn hf => ?_) (by kernel_rfl) (by kernel_rfl)
    have : fn = Try.f40 := Option.some.inj (hf.symm.trans Try.func40)
    subst this
    exact ⟨38, by kernel_rfl, by kernel_rfl⟩
  · refine orcSort_spec (fun blk off cap ss w h1 h2 h3 => Try.slices_Sort_string blk off cap ss w h1 h2 h3) (fun p cap w => Try.slices_Sort_string_none p cap w) (fun fn hf => ?_)
    have : fn = Try.f39 := Option.some.inj (hf.symm.trans Try.func39)
    subst this
    exact (by kernel_rfl : Try.f39.resultTypes = #[])
theorem bulk_one {H : Type} (d : DataW H) : 1 ≤ Rows.uptoBulk d := by
  cases d with
  | lit l => cases l <;> simp [Rows.uptoBulk]
  | nil => simp [Rows.uptoBulk]
  | ptr d => simp [Rows.uptoBulk]
  | slice elems spare => simp [Rows.uptoBulk]
  | agg parts => simp [Rows.uptoBulk]
  | iface t d => simp [Rows.uptoBulk]
  | map entries => simp [Rows.uptoBulk]
  | held h => simp [Rows.uptoBulk]
theorem meas {H : Type} : Meas (H := H) Rows.uptoBulk Rows.uptoBulkAll :=
  ⟨bulk_one, fun b => by simp [Rows.uptoBulk], fun e s => by simp only [Rows.uptoBulk]; omega, fun p => by simp only [Rows.uptoBulk]; omega, by simp [Rows.uptoBulkAll], fun d r => by simp [Rows.uptoBulkAll]⟩
theorem CP : C.P = Try.prog := rfl
set_option maxRecDepth 100000 in
theorem bytes_of {n : Nat} {x : D} (h : wtV Try.prog (n + 2) 22 x) : ∃ b, x = .lst 1 b ∧ Bytes b := by
  obtain ⟨ys, e, hy⟩ := wtV_slice Try.underlying22 h
  have hs : szT Try.prog 5 = 1 := by kernel_rfl
  rw [hs] at e
  refine ⟨ys, e, fun y h' => ?_⟩
  obtain ⟨i, e1, e2⟩ := wtV_int Try.underlying5 (hy y h')
  obtain ⟨h1, h2⟩ := wf_u8 e2
  exact ⟨i, e1, h1, h2⟩
theorem own : ownKnob Try.prog.godebug = none := by kernel_rfl
theorem params3 : Try.f3.params.toList = [22] := by kernel_rfl
theorem sk3 : lawSk C.P [22] = law09_AstAsks.sk := by kernel_rfl
set_option maxRecDepth 100000 in
theorem runs (xs : List D) (h : F2 (wtV C.P 8) Try.f3.params.toList xs) : ∃ n, run C n (.call 3 (lawSk C.P Try.f3.params.toList) xs) = some (true, [.bool true]) := by
  rw [params3, CP] at h
  rw [params3]
  cases h with
  | cons h1 h2 =>
    cases h2
    obtain ⟨b, rfl, hb⟩ := bytes_of h1
    obtain ⟨r, hr, n, hn⟩ := (astAsks_plain hb).run
    rw [hr] at hn
    exact ⟨n, by rw [sk3]; exact hn⟩
set_option maxRecDepth 100000 in
theorem contract (H : Type) (enc : TypeId × Value → H) (W : World) (base : Nat) (args : Array Value) (ds gs : List (DataW H)) (before : List MemPlace)
    (hval : ∀ (j : Nat) t v, Try.f3.params[j]? = some t → args[j]? = some v → Value.okWide Try.prog W .any base t v)
    (hW : DataW.Whole enc Try.prog Try.f3.params.toList Rows.astAsksSpec.vars false W args.toList ds gs before) :
    Calls Try.prog 3 args W fun e W' => ∃ v, e = .returned v ∧ Rows.astAsksSpec.post enc Try.prog Try.f3 false true false false W args v W' := by
  refine law_calls (c := C) (fn := Try.f3) names orcs Try.func3 (tb := 4) (by kernel_rfl) Try.underlying4 (by kernel_rfl) (by kernel_rfl) (by kernel_rfl) (B := Rows.uptoBulkAll (ds ++ gs)) (fun xs h _ => runs xs h) meas hval rfl hW (Nat.le_refl _) ?_
  intro hg
  subst hg
  obtain ⟨p, q, hA, _⟩ := hW
  rw [params3] at hA
  obtain ⟨v0, vs0, d0, ds0, p0, q0, _, hd, _, _, r0⟩ := trodAll_cons hA
  obtain ⟨_, h0, _⟩ := trodAll_nil r0
  rw [hd, h0]
  rfl
set_option maxRecDepth 100000 in
theorem lifted (os : Os) (started : os.Started) (H : Type) (enc : TypeId × Value → H) :
    ReturnsInHanded {} Try.checked os 3 .any (Rows.astAsksSpec.pre6 enc Try.prog Try.f3 Rows.astAsksRow.domain false) (Rows.astAsksSpec.post enc Try.prog Try.f3 false true false false) := by
  refine returnsInHanded_of_change (C := Try.checked) own started (by kernel_rfl) Try.func3
    (ChangeSpec.witness6 (enc := enc) (C := Try.checked) false ⟨#[], #[.slice none 0 0], []⟩ 8 (by kernel_rfl) (by kernel_rfl) (by kernel_rfl) (by kernel_rfl)) ?_
  intro W base args ds gs before hval hW _ _
  exact contract H enc W base args ds gs before hval hW
theorem over : Rows.astAsksRow.holds Try.pinned (OpenSpec.ofChange Rows.astAsksSpec) :=
  OpenClaim.holds_of_wide 3 Try.f3 rfl rfl rfl rfl rfl rfl rfl ⟨rfl, rfl, rfl, rfl, rfl⟩ rfl rfl rfl rfl rfl (by kernel_rfl) Try.func3 (by kernel_rfl)
    (of_decide_eq_true (by kernel_rfl)) (by unfold Func.isWrapper; first | (rw [if_pos (by decide +kernel)]; kernel_rfl) | (rw [if_neg (by decide +kernel)]; exact ⟨rfl, rfl⟩))
    (fun os started H enc _ => lifted os started H enc)
end Claim
theorem astAsks_holds : Rows.AstAsksSaid := Claim.over
end Go.Proofs.Ytmklmhdgnokcmaa
