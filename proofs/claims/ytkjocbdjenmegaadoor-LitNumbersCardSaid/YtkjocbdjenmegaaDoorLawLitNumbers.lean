/- For every int LitNumbers returns true; the three laid tables are tied to the program. No condition. -/
import Derived.Test.YtkjocbdjenmegaaDoorDoorLawD
import Derived.Test.YtkjocbdjenmegaaDoorLitLaws
import Derived.Test.YtkjocbdjenmegaaDoorTie
import Derived.Test.YtkjocbdjenmegaaDoorCards
namespace Go.Proofs.YtkjocbdjenmegaaDoor
open Go.AE
set_option linter.unusedVariables false
open Go.ChangeShapes Go.WideShapes Go.ChangeAt Go.RowKit
namespace Claim
theorem params5 : Tryd.f5.params.toList = [3] := by kernel_rfl
theorem sk5 : lawSk C.P [3] = law02_LitNumbers.sk := by kernel_rfl
set_option maxRecDepth 100000 in
theorem runs (xs : List D) (h : F2 (wtV C.P 8) Tryd.f5.params.toList xs) : ∃ n, run C n (.call 5 (lawSk C.P Tryd.f5.params.toList) xs) = some (true, [.bool true]) := by
  rw [params5, CP] at h
  rw [params5]
  cases h with | cons h1 h =>
  cases h
  obtain ⟨i, rfl, hi⟩ := wtV_int Tryd.underlying3 h1
  have hi := wf_i64 hi
  obtain ⟨r, hr, n, hn⟩ := (litNumbers_plain (x := i) (by omega)).run
  rw [hr] at hn
  exact ⟨n, by rw [sk5]; exact hn⟩
set_option maxRecDepth 100000 in
theorem contract (H : Type) (enc : TypeId × Value → H) (W : World) (base : Nat) (args : Array Value) (ds gs : List (DataW H)) (before : List MemPlace)
    (hval : ∀ (j : Nat) t v, Tryd.f5.params[j]? = some t → args[j]? = some v → Value.okWide Tryd.prog W .any base t v)
    (hW : DataW.Whole enc Tryd.prog Tryd.f5.params.toList Rows.litNumbersSpec.vars false W args.toList ds gs before) (hsh : W.ShapedOpen Tryd.prog) (hL : laidMet Tryd.prog laidL W) :
    Calls Tryd.prog 5 args W fun e W' => ∃ v, e = .returned v ∧ Rows.litNumbersSpec.post enc Tryd.prog Tryd.f5 false true false false W args v W' := by
  refine law_calls (c := C) (fn := Tryd.f5) names orcs Tryd.func5 (tb := 4) (by kernel_rfl) Tryd.underlying4 (by kernel_rfl) (gok hsh hL) (by kernel_rfl) (by kernel_rfl) (B := Rows.uptoBulkAll (ds ++ gs)) (fun xs h _ => runs xs h) meas hval rfl hW (Nat.le_refl _) ?_
  intro hg
  subst hg
  obtain ⟨p, q, hA, _⟩ := hW
  rw [params5] at hA
  obtain ⟨v0, vs0, d0, ds0, p0, q0, _, hd0, _, _, r0⟩ := trodAll_cons hA
  obtain ⟨_, h0, _⟩ := trodAll_nil r0
  rw [hd0, h0]
  rfl
set_option maxRecDepth 100000 in
theorem lifted (os : Os) (started : os.Started) (H : Type) (enc : TypeId × Value → H) :
    ReturnsInHanded {} Tryd.checked os 5 .any (fun w args => (Rows.litNumbersSpec.pre enc Tryd.prog Tryd.f5 [] false w args ∧ laidMet Tryd.prog laidL w) ∧ sizedMet enc Tryd.prog Tryd.f5 (OpenSpec.ofChange Rows.litNumbersSpec) false w args) (Rows.litNumbersSpec.post enc Tryd.prog Tryd.f5 false true false false) := by
  refine returns_laid (P := Tryd.checked) (X := fun w _ => laidMet Tryd.prog laidL w) (fun _ _ _ hh h => h.of_heap hh) own started (by kernel_rfl) Tryd.func5
    (ChangeSpec.witness_at (enc := enc) (C := Tryd.checked) (os := os) (X := fun w _ => laidMet Tryd.prog laidL w) false (laidWorld os) #[.int .i64 0] 8 rfl (by kernel_rfl) (by kernel_rfl) (by kernel_rfl) (by kernel_rfl) (by kernel_rfl) (laid_start os #[.int .i64 0])) ?_
  intro W base args ds gs before hval hW hsh hL
  exact contract H enc W base args ds gs before hval hW hsh hL
theorem over : Rows.litNumbersRow.holds Tryd.pinned (OpenSpec.ofChange Rows.litNumbersSpec) :=
  OpenClaim.holds_of_wide 5 Tryd.f5 rfl rfl rfl rfl rfl rfl rfl ⟨rfl, rfl, rfl, rfl, rfl⟩ rfl rfl rfl rfl rfl (by kernel_rfl) Tryd.func5 (by kernel_rfl)
    (of_decide_eq_true (by kernel_rfl)) (by unfold Func.isWrapper; first | (rw [if_pos (by decide +kernel)]; kernel_rfl) | (rw [if_neg (by decide +kernel)]; exact ⟨rfl, rfl⟩))
    (fun os started H enc _ => lifted os started H enc)
theorem no_standin : (Tryd.f5.params.toList.all fun t => !(Tryd.prog.wantsStandIn t)) = true := by kernel_rfl
end Claim
theorem litNumbers_holds : Rows.LitNumbersCardSaid :=
  Claim7.holds_tied_plain_at .later [] [.data, .data, .data] true (true, "a0a8ad18c30f4d1da7f8f4f08caf43ffef321054548cf3439bd248915d28439b") false
    Claim.over (fun _ h => by cases h) (by kernel_rfl) (fun _ h => by cases h) litNumbers_row_tie rfl ⟨rfl, rfl⟩ (by kernel_rfl) rfl
    (fun f fn hf hfn => by
      obtain rfl : f = 5 := Option.some.inj ((show Tryd.prog.funcNamed "sluicegate/sluicegatelaw02.LitNumbers" = some 5 by kernel_rfl).symm.trans hf) |>.symm
      obtain rfl : fn = Tryd.f5 := (Option.some.inj (Tryd.func5.symm.trans hfn)).symm
      refine ⟨by kernel_rfl, fun j t ht => ?_⟩
      have hm : t ∈ Tryd.f5.params.toList := List.mem_of_getElem? (by rw [Array.getElem?_toList]; exact ht)
      have := List.all_eq_true.1 Claim.no_standin t hm
      exact (by simpa using this : Tryd.prog.wantsStandIn t = false))
    (by kernel_rfl)
end Go.Proofs.YtkjocbdjenmegaaDoor
