/- For each depth and each number of modules ParseDeep returns true; the laid table parse.levels is tied to the program. No condition. -/
import Derived.Test.YtalibicpmfbieaaGreatDoorDoorLawQ
import Derived.Test.YtalibicpmfbieaaGreatDoorYeD
import Derived.Test.YtalibicpmfbieaaGreatDoorTie
import Derived.Test.YtalibicpmfbieaaGreatDoorCards
namespace Go.Proofs.YtalibicpmfbieaaGreatDoor
open Go.AE
set_option linter.unusedVariables false
set_option linter.unusedSimpArgs false
open Go.ChangeShapes Go.WideShapes Go.ChangeAt Go.RowKit
namespace Claim
set_option maxRecDepth 100000 in
theorem int_of {n : Nat} {x : D} (h : wtV Tryz.prog (n + 1) 3 x) : ∃ i : Int, x = .int .i64 i := by
  obtain ⟨i, e, _⟩ := wtV_int Tryz.underlying3 h
  exact ⟨i, e⟩
theorem params5 : Tryz.f5.params.toList = [3, 3] := by kernel_rfl
theorem sk5 : lawSk C.P [3, 3] = law10_ParseDeep.sk := by kernel_rfl
set_option maxRecDepth 100000 in
theorem runs (xs : List D) (h : F2 (wtV C.P 8) Tryz.f5.params.toList xs) : ∃ n, run C n (.call 5 (lawSk C.P Tryz.f5.params.toList) xs) = some (true, [.bool true]) := by
  rw [params5, CP] at h
  rw [params5]
  cases h with | cons h1 h =>
  cases h with | cons h2 h =>
  cases h
  obtain ⟨n, rfl⟩ := int_of h1
  obtain ⟨t, rfl⟩ := int_of h2
  obtain ⟨r, hr, n, hn⟩ := (parseDeep_plain n t).run
  rw [hr] at hn
  exact ⟨n, by rw [sk5]; exact hn⟩
set_option maxRecDepth 100000 in
theorem contract (H : Type) (enc : TypeId × Value → H) (W : World) (base : Nat) (args : Array Value) (ds gs : List (DataW H)) (before : List MemPlace)
    (hval : ∀ (j : Nat) t v, Tryz.f5.params[j]? = some t → args[j]? = some v → Value.okWide Tryz.prog W .any base t v)
    (hW : DataW.Whole enc Tryz.prog Tryz.f5.params.toList Rows.parseDeepSpec.vars false W args.toList ds gs before) (hsh : W.ShapedOpen Tryz.prog) (hL : laidMet Tryz.prog laidL W) :
    Calls Tryz.prog 5 args W fun e W' => ∃ v, e = .returned v ∧ Rows.parseDeepSpec.post enc Tryz.prog Tryz.f5 false true false false W args v W' := by
  refine law_calls (c := C) (fn := Tryz.f5) names orcs Tryz.func5 (tb := 4) (by kernel_rfl) Tryz.underlying4 (by kernel_rfl) (gok hsh hL) (by kernel_rfl) (by kernel_rfl) (B := Rows.uptoBulkAll (ds ++ gs)) (fun xs h _ => runs xs h) meas hval rfl hW (Nat.le_refl _) ?_
  intro hg
  subst hg
  obtain ⟨p, q, hA, _⟩ := hW
  rw [params5] at hA
  obtain ⟨v0, vs0, d0, ds0, p0, q0, _, hd0, _, _, r0⟩ := trodAll_cons hA
  obtain ⟨v1, vs1, d1, ds1, p1, q1, _, hd1, _, _, r1⟩ := trodAll_cons r0
  obtain ⟨_, h0, _⟩ := trodAll_nil r1
  rw [hd0, hd1, h0]
  rfl
set_option maxRecDepth 100000 in
theorem lifted (os : Os) (started : os.Started) (H : Type) (enc : TypeId × Value → H) :
    ReturnsInHanded {} Tryz.checked os 5 .any (fun w args => (Rows.parseDeepSpec.pre enc Tryz.prog Tryz.f5 [] false w args ∧ laidMet Tryz.prog laidL w) ∧ sizedMet enc Tryz.prog Tryz.f5 (OpenSpec.ofChange Rows.parseDeepSpec) false w args) (Rows.parseDeepSpec.post enc Tryz.prog Tryz.f5 false true false false) := by
  refine returns_laid (P := Tryz.checked) (X := fun w _ => laidMet Tryz.prog laidL w) (fun _ _ _ hh h => h.of_heap hh) own started (by kernel_rfl) Tryz.func5
    (ChangeSpec.witness_at (enc := enc) (C := Tryz.checked) (os := os) (X := fun w _ => laidMet Tryz.prog laidL w) false (laidWorld os) #[.int .i64 0, .int .i64 0] 8 rfl (by kernel_rfl) (by kernel_rfl) (by kernel_rfl) (by kernel_rfl) (by kernel_rfl) (laid_start os #[.int .i64 0, .int .i64 0])) ?_
  intro W base args ds gs before hval hW hsh hL
  exact contract H enc W base args ds gs before hval hW hsh hL
theorem over : Rows.parseDeepRow.holds Tryz.pinned (OpenSpec.ofChange Rows.parseDeepSpec) :=
  OpenClaim.holds_of_wide 5 Tryz.f5 rfl rfl rfl rfl rfl rfl rfl ⟨rfl, rfl, rfl, rfl, rfl⟩ rfl rfl rfl rfl rfl (by kernel_rfl) Tryz.func5 (by kernel_rfl)
    (of_decide_eq_true (by kernel_rfl)) (by unfold Func.isWrapper; first | (rw [if_pos (by decide +kernel)]; kernel_rfl) | (rw [if_neg (by decide +kernel)]; exact ⟨rfl, rfl⟩))
    (fun os started H enc _ => lifted os started H enc)
theorem no_standin : (Tryz.f5.params.toList.all fun t => !(Tryz.prog.wantsStandIn t)) = true := by kernel_rfl
end Claim
theorem parseDeep_holds : Rows.ParseDeepCardSaid :=
  Claim7.holds_tied_plain_at .later [] [.data] true (true, "278d277594453031122dac758a069a8c800bad646047491acf910157d533b717") false
    Claim.over (fun _ h => by cases h) (by kernel_rfl) (fun _ h => by cases h) parseDeep_row_tie rfl ⟨rfl, rfl⟩ (by kernel_rfl) rfl
    (fun f fn hf hfn => by
      obtain rfl : f = 5 := Option.some.inj ((show Tryz.prog.funcNamed "sluicegate/sluicegatelaw10.ParseDeep" = some 5 by kernel_rfl).symm.trans hf) |>.symm
      obtain rfl : fn = Tryz.f5 := (Option.some.inj (Tryz.func5.symm.trans hfn)).symm
      refine ⟨by kernel_rfl, fun j t ht => ?_⟩
      have hm : t ∈ Tryz.f5.params.toList := List.mem_of_getElem? (by rw [Array.getElem?_toList]; exact ht)
      have := List.all_eq_true.1 Claim.no_standin t hm
      exact (by simpa using this : Tryz.prog.wantsStandIn t = false))
    (by kernel_rfl)
end Go.Proofs.YtalibicpmfbieaaGreatDoor
