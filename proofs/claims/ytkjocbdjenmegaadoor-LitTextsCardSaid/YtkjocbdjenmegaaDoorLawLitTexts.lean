/- For every literal LitTexts returns true and leaves its argument as it was; the three laid tables are tied to the program. No condition. -/
import Derived.Test.YtkjocbdjenmegaaDoorDoorLawD
import Derived.Test.YtkjocbdjenmegaaDoorLitLaws
import Derived.Test.YtkjocbdjenmegaaDoorTie
import Derived.Test.YtkjocbdjenmegaaDoorCards
namespace Go.Proofs.YtkjocbdjenmegaaDoor
open Go.AE
set_option linter.unusedVariables false
open Go.ChangeShapes Go.WideShapes Go.ChangeAt Go.RowKit
namespace Claim
theorem wtL_structG {P : Program} {n : Nat} {t : TypeId} {xs : List D} {fs : Array Field} (ht : P.underlying t = some (.struct fs)) (h : wtL P (n + 1) t xs) : ∃ parts : List (List D), xs = parts.flatten ∧ F2 (fun f p => wtL P n f.type p) fs.toList parts := by
  simp only [wtL, ht] at h
  exact h
theorem wtL_boolG {P : Program} {n : Nat} {t : TypeId} {xs : List D} (ht : P.underlying t = some .bool) (h : wtL P (n + 1) t xs) : ∃ b, xs = [.bool b] := by
  simp only [wtL, ht] at h
  exact h
theorem bools_of : ∀ {ys : List D}, (∀ y ∈ ys, ∃ b, y = .bool b) → ∃ l : List Bool, ys = l.map bD
  | [], _ => ⟨[], rfl⟩
  | y :: ys, h => by
    obtain ⟨b, rfl⟩ := h y (List.mem_cons_self ..)
    obtain ⟨l, rfl⟩ := bools_of (ys := ys) fun z hz => h z (List.mem_cons_of_mem _ hz)
    exact ⟨b :: l, rfl⟩
set_option maxRecDepth 100000 in
theorem lit_of {n : Nat} {x : D} (h : wtV Tryd.prog (n + 4) 33 x) : ∃ (l : List Bool) (sg sz : Bool), x = litR l sg sz := by
  obtain ⟨parts, rfl, g⟩ := wtV_struct Tryd.underlying33 h
  cases g with | cons h1 g => cases g with | cons h2 g => cases g with | cons h3 g =>
  cases g
  simp only [wtL, Tryd.underlying31] at h1
  obtain ⟨ys, rfl, hy⟩ := h1
  have hs : szT Tryd.prog 4 = 1 := by kernel_rfl
  have ha : isAggT Tryd.prog 4 = false := by kernel_rfl
  rw [hs]
  obtain ⟨sg, rfl⟩ := wtL_boolG (n := n + 2) (t := 4) Tryd.underlying4 h2
  obtain ⟨sz, rfl⟩ := wtL_boolG (n := n + 2) (t := 4) Tryd.underlying4 h3
  obtain ⟨l, rfl⟩ := bools_of (ys := ys) fun y hm => by
    have := hy y hm
    rw [ha, if_neg (by simp)] at this
    obtain ⟨b, e⟩ := wtL_boolG (n := n + 1) (t := 4) Tryd.underlying4 this
    exact ⟨b, by simpa using e⟩
  exact ⟨l, sg, sz, rfl⟩
theorem params6 : Tryd.f6.params.toList = [33] := by kernel_rfl
theorem sk6 : lawSk C.P [33] = law02_LitTexts.sk := by kernel_rfl
set_option maxRecDepth 100000 in
theorem runs (xs : List D) (h : F2 (wtV C.P 8) Tryd.f6.params.toList xs) : ∃ n, run C n (.call 6 (lawSk C.P Tryd.f6.params.toList) xs) = some (true, [.bool true]) := by
  rw [params6, CP] at h
  rw [params6]
  cases h with | cons h1 h =>
  cases h
  obtain ⟨a, s1, z1, rfl⟩ := lit_of (n := 4) h1
  obtain ⟨r, hr, n, hn⟩ := (litTexts_plain a s1 z1).run
  rw [hr] at hn
  exact ⟨n, by rw [sk6]; exact hn⟩
set_option maxRecDepth 100000 in
theorem contract (H : Type) (enc : TypeId × Value → H) (W : World) (base : Nat) (args : Array Value) (ds gs : List (DataW H)) (before : List MemPlace)
    (hval : ∀ (j : Nat) t v, Tryd.f6.params[j]? = some t → args[j]? = some v → Value.okWide Tryd.prog W .any base t v)
    (hW : DataW.Whole enc Tryd.prog Tryd.f6.params.toList Rows.litTextsSpec.vars false W args.toList ds gs before) (hsh : W.ShapedOpen Tryd.prog) (hL : laidMet Tryd.prog laidL W) :
    Calls Tryd.prog 6 args W fun e W' => ∃ v, e = .returned v ∧ Rows.litTextsSpec.post enc Tryd.prog Tryd.f6 false true false false W args v W' := by
  refine law_calls (c := C) (fn := Tryd.f6) names orcs Tryd.func6 (tb := 4) (by kernel_rfl) Tryd.underlying4 (by kernel_rfl) (gok hsh hL) (by kernel_rfl) (by kernel_rfl) (B := Rows.uptoBulkAll (ds ++ gs)) (fun xs h _ => runs xs h) meas hval rfl hW (Nat.le_refl _) ?_
  intro hg
  subst hg
  obtain ⟨p, q, hA, _⟩ := hW
  rw [params6] at hA
  obtain ⟨v0, vs0, d0, ds0, p0, q0, _, hd0, _, _, r0⟩ := trodAll_cons hA
  obtain ⟨_, h0, _⟩ := trodAll_nil r0
  rw [hd0, h0]
  rfl
set_option maxRecDepth 100000 in
theorem lifted (os : Os) (started : os.Started) (H : Type) (enc : TypeId × Value → H) :
    ReturnsInHanded {} Tryd.checked os 6 .any (fun w args => (Rows.litTextsSpec.pre enc Tryd.prog Tryd.f6 [] false w args ∧ laidMet Tryd.prog laidL w) ∧ sizedMet enc Tryd.prog Tryd.f6 (OpenSpec.ofChange Rows.litTextsSpec) false w args) (Rows.litTextsSpec.post enc Tryd.prog Tryd.f6 false true false false) := by
  refine returns_laid (P := Tryd.checked) (X := fun w _ => laidMet Tryd.prog laidL w) (fun _ _ _ hh h => h.of_heap hh) own started (by kernel_rfl) Tryd.func6
    (ChangeSpec.witness_at (enc := enc) (C := Tryd.checked) (os := os) (X := fun w _ => laidMet Tryd.prog laidL w) false (laidWorld os) #[.agg #[.slice none 0 0, .bool false, .bool false]] 8 rfl (by kernel_rfl) (by kernel_rfl) (by kernel_rfl) (by kernel_rfl) (by kernel_rfl) (laid_start os #[.agg #[.slice none 0 0, .bool false, .bool false]])) ?_
  intro W base args ds gs before hval hW hsh hL
  exact contract H enc W base args ds gs before hval hW hsh hL
theorem over : Rows.litTextsRow.holds Tryd.pinned (OpenSpec.ofChange Rows.litTextsSpec) :=
  OpenClaim.holds_of_wide 6 Tryd.f6 rfl rfl rfl rfl rfl rfl rfl ⟨rfl, rfl, rfl, rfl, rfl⟩ rfl rfl rfl rfl rfl (by kernel_rfl) Tryd.func6 (by kernel_rfl)
    (of_decide_eq_true (by kernel_rfl)) (by unfold Func.isWrapper; first | (rw [if_pos (by decide +kernel)]; kernel_rfl) | (rw [if_neg (by decide +kernel)]; exact ⟨rfl, rfl⟩))
    (fun os started H enc _ => lifted os started H enc)
theorem no_standin : (Tryd.f6.params.toList.all fun t => !(Tryd.prog.wantsStandIn t)) = true := by kernel_rfl
end Claim
theorem litTexts_holds : Rows.LitTextsCardSaid :=
  Claim7.holds_tied_plain_at .later [] [.data, .data, .data] true (true, "a0a8ad18c30f4d1da7f8f4f08caf43ffef321054548cf3439bd248915d28439b") false
    Claim.over (fun _ h => by cases h) (by kernel_rfl) (fun _ h => by cases h) litTexts_row_tie rfl ⟨rfl, rfl⟩ (by kernel_rfl) rfl
    (fun f fn hf hfn => by
      obtain rfl : f = 6 := Option.some.inj ((show Tryd.prog.funcNamed "sluicegate/sluicegatelaw02.LitTexts" = some 6 by kernel_rfl).symm.trans hf) |>.symm
      obtain rfl : fn = Tryd.f6 := (Option.some.inj (Tryd.func6.symm.trans hfn)).symm
      refine ⟨by kernel_rfl, fun j t ht => ?_⟩
      have hm : t ∈ Tryd.f6.params.toList := List.mem_of_getElem? (by rw [Array.getElem?_toList]; exact ht)
      have := List.all_eq_true.1 Claim.no_standin t hm
      exact (by simpa using this : Tryd.prog.wantsStandIn t = false))
    (by kernel_rfl)
end Go.Proofs.YtkjocbdjenmegaaDoor
