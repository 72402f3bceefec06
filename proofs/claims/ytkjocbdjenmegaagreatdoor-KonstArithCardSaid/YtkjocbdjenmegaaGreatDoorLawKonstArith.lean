/- For all op, a, b KonstArith returns true; the three laid tables are tied to the program. No condition. -/
import Derived.Test.YtkjocbdjenmegaaGreatDoorDoorLawZ
import Derived.Test.YtkjocbdjenmegaaGreatDoorKnH
import Derived.Test.YtkjocbdjenmegaaGreatDoorTie
import Derived.Test.YtkjocbdjenmegaaGreatDoorCards
namespace Go.Proofs.YtkjocbdjenmegaaGreatDoor
open Go.AE
set_option linter.unusedVariables false
open Go.ChangeShapes Go.WideShapes Go.ChangeAt Go.RowKit
namespace Claim
theorem params4 : Tryz.f4.params.toList = [3, 3, 3] := by kernel_rfl
theorem sk4 : lawSk C.P [3, 3, 3] = law11_KonstArith.sk := by kernel_rfl
set_option maxRecDepth 100000 in
theorem runs (xs : List D) (h : F2 (wtV C.P 8) Tryz.f4.params.toList xs) : ∃ n, run C n (.call 4 (lawSk C.P Tryz.f4.params.toList) xs) = some (true, [.bool true]) := by
  rw [params4, CP] at h
  rw [params4]
  cases h with | cons h1 h =>
  cases h with | cons h2 h =>
  cases h with | cons h3 h =>
  cases h
  obtain ⟨i, rfl, _⟩ := wtV_int Tryz.underlying3 h1
  obtain ⟨j, rfl, _⟩ := wtV_int Tryz.underlying3 h2
  obtain ⟨k, rfl, _⟩ := wtV_int Tryz.underlying3 h3
  obtain ⟨r, hr, n, hn⟩ := (konstArith_plain i j k).run
  rw [hr] at hn
  exact ⟨n, by rw [sk4]; exact hn⟩
set_option maxRecDepth 100000 in
theorem contract (H : Type) (enc : TypeId × Value → H) (W : World) (base : Nat) (args : Array Value) (ds gs : List (DataW H)) (before : List MemPlace)
    (hval : ∀ (j : Nat) t v, Tryz.f4.params[j]? = some t → args[j]? = some v → Value.okWide Tryz.prog W .any base t v)
    (hW : DataW.Whole enc Tryz.prog Tryz.f4.params.toList Rows.konstArithSpec.vars false W args.toList ds gs before) (hsh : W.ShapedOpen Tryz.prog) (hL : laidMet Tryz.prog laidL W) :
    Calls Tryz.prog 4 args W fun e W' => ∃ v, e = .returned v ∧ Rows.konstArithSpec.post enc Tryz.prog Tryz.f4 false true false false W args v W' := by
  refine law_calls (c := C) (fn := Tryz.f4) names orcs Tryz.func4 (tb := 4) (by kernel_rfl) Tryz.underlying4 (by kernel_rfl) (gok hsh hL) (by kernel_rfl) (by kernel_rfl) (B := Rows.uptoBulkAll (ds ++ gs)) (fun xs h _ => runs xs h) meas hval rfl hW (Nat.le_refl _) ?_
  intro hg
  subst hg
  obtain ⟨p, q, hA, _⟩ := hW
  rw [params4] at hA
  obtain ⟨v0, vs0, d0, ds0, p0, q0, _, hd0, _, _, r0⟩ := trodAll_cons hA
  obtain ⟨v1, vs1, d1, ds1, p1, q1, _, hd1, _, _, r1⟩ := trodAll_cons r0
  obtain ⟨v2, vs2, d2, ds2, p2, q2, _, hd2, _, _, r2⟩ := trodAll_cons r1
  obtain ⟨_, h0, _⟩ := trodAll_nil r2
  rw [hd0, hd1, hd2, h0]
  rfl
set_option maxRecDepth 100000 in
theorem lifted (os : Os) (started : os.Started) (H : Type) (enc : TypeId × Value → H) :
    ReturnsInHanded {} Tryz.checked os 4 .any (fun w args => (Rows.konstArithSpec.pre enc Tryz.prog Tryz.f4 [] false w args ∧ laidMet Tryz.prog laidL w) ∧ sizedMet enc Tryz.prog Tryz.f4 (OpenSpec.ofChange Rows.konstArithSpec) false w args) (Rows.konstArithSpec.post enc Tryz.prog Tryz.f4 false true false false) := by
  refine returns_laid (P := Tryz.checked) (X := fun w _ => laidMet Tryz.prog laidL w) (fun _ _ _ hh h => h.of_heap hh) own started (by kernel_rfl) Tryz.func4
    (ChangeSpec.witness_at (enc := enc) (C := Tryz.checked) (os := os) (X := fun w _ => laidMet Tryz.prog laidL w) false (laidWorld os) #[.int .i64 0, .int .i64 0, .int .i64 0] 8 rfl (by kernel_rfl) (by kernel_rfl) (by kernel_rfl) (by kernel_rfl) (by kernel_rfl) (laid_start os #[.int .i64 0, .int .i64 0, .int .i64 0])) ?_
  intro W base args ds gs before hval hW hsh hL
  exact contract H enc W base args ds gs before hval hW hsh hL
theorem over : Rows.konstArithRow.holds Tryz.pinned (OpenSpec.ofChange Rows.konstArithSpec) :=
  OpenClaim.holds_of_wide 4 Tryz.f4 rfl rfl rfl rfl rfl rfl rfl ⟨rfl, rfl, rfl, rfl, rfl⟩ rfl rfl rfl rfl rfl (by kernel_rfl) Tryz.func4 (by kernel_rfl)
    (of_decide_eq_true (by kernel_rfl)) (by unfold Func.isWrapper; first | (rw [if_pos (by decide +kernel)]; kernel_rfl) | (rw [if_neg (by decide +kernel)]; exact ⟨rfl, rfl⟩))
    (fun os started H enc _ => lifted os started H enc)
theorem no_standin : (Tryz.f4.params.toList.all fun t => !(Tryz.prog.wantsStandIn t)) = true := by kernel_rfl
end Claim
theorem konstArith_holds : Rows.KonstArithCardSaid :=
  Claim7.holds_tied_plain_at .later [] [.data, .data, .data] true (true, "d3b8e5d393fff10850cbb6a3cfd4a6dfc098be39429070e8c039228da935defd") false
    Claim.over (fun _ h => by cases h) (by kernel_rfl) (fun _ h => by cases h) konstArith_row_tie rfl ⟨rfl, rfl⟩ (by kernel_rfl) rfl
    (fun f fn hf hfn => by
      obtain rfl : f = 4 := Option.some.inj ((show Tryz.prog.funcNamed "sluicegate/sluicegatelaw11.KonstArith" = some 4 by kernel_rfl).symm.trans hf) |>.symm
      obtain rfl : fn = Tryz.f4 := (Option.some.inj (Tryz.func4.symm.trans hfn)).symm
      refine ⟨by kernel_rfl, fun j t ht => ?_⟩
      have hm : t ∈ Tryz.f4.params.toList := List.mem_of_getElem? (by rw [Array.getElem?_toList]; exact ht)
      have := List.all_eq_true.1 Claim.no_standin t hm
      exact (by simpa using this : Tryz.prog.wantsStandIn t = false))
    (by kernel_rfl)
end Go.Proofs.YtkjocbdjenmegaaGreatDoor
