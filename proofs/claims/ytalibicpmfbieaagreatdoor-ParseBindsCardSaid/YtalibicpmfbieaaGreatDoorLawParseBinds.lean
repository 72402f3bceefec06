/- For all lists of numbers ParseBinds returns true and leaves its argument as it was; the laid table parse.levels is tied to the program. No condition. -/
import Derived.Test.YtalibicpmfbieaaGreatDoorDoorLawP
import Derived.Test.YtalibicpmfbieaaGreatDoorPaM
import Derived.Test.YtalibicpmfbieaaGreatDoorTie
import Derived.Test.YtalibicpmfbieaaGreatDoorCards
namespace Go.Proofs.YtalibicpmfbieaaGreatDoor
open Go.AE
set_option linter.unusedVariables false
set_option linter.unusedSimpArgs false
open Go.ChangeShapes Go.WideShapes Go.ChangeAt Go.RowKit
namespace Claim
set_option maxRecDepth 100000 in
theorem ints_of {n : Nat} {x : D} (h : wtV Tryz.prog (n + 2) 34 x) : ∃ xs, x = .lst 1 xs ∧ ∀ y ∈ xs, ∃ i, y = D.int .i64 i := by
  obtain ⟨ys, e, hy⟩ := wtV_slice Tryz.underlying34 h
  have hs : szT Tryz.prog 3 = 1 := by kernel_rfl
  rw [hs] at e
  exact ⟨ys, e, fun y h' => by obtain ⟨i, e1, _⟩ := wtV_int Tryz.underlying3 (hy y h'); exact ⟨i, e1⟩⟩
theorem params4 : Tryz.f4.params.toList = [34] := by kernel_rfl
theorem sk4 : lawSk C.P [34] = law10_ParseBinds.sk := by kernel_rfl
set_option maxRecDepth 100000 in
theorem runs (xs : List D) (h : F2 (wtV C.P 8) Tryz.f4.params.toList xs) : ∃ n, run C n (.call 4 (lawSk C.P Tryz.f4.params.toList) xs) = some (true, [.bool true]) := by
  rw [params4, CP] at h
  rw [params4]
  cases h with | cons h1 h =>
  cases h
  obtain ⟨xs, rfl, hp⟩ := ints_of h1
  obtain ⟨r, hr, n, hn⟩ := (parseBinds_plain hp).run
  rw [hr] at hn
  exact ⟨n, by rw [sk4]; exact hn⟩
set_option maxRecDepth 100000 in
theorem contract (H : Type) (enc : TypeId × Value → H) (W : World) (base : Nat) (args : Array Value) (ds gs : List (DataW H)) (before : List MemPlace)
    (hval : ∀ (j : Nat) t v, Tryz.f4.params[j]? = some t → args[j]? = some v → Value.okWide Tryz.prog W .any base t v)
    (hW : DataW.Whole enc Tryz.prog Tryz.f4.params.toList Rows.parseBindsSpec.vars false W args.toList ds gs before) (hsh : W.ShapedOpen Tryz.prog) (hL : laidMet Tryz.prog laidL W) :
    Calls Tryz.prog 4 args W fun e W' => ∃ v, e = .returned v ∧ Rows.parseBindsSpec.post enc Tryz.prog Tryz.f4 false true false false W args v W' := by
  refine law_calls (c := C) (fn := Tryz.f4) names orcs Tryz.func4 (tb := 4) (by kernel_rfl) Tryz.underlying4 (by kernel_rfl) (gok hsh hL) (by kernel_rfl) (by kernel_rfl) (B := Rows.uptoBulkAll (ds ++ gs)) (fun xs h _ => runs xs h) meas hval rfl hW (Nat.le_refl _) ?_
  intro hg
  subst hg
  obtain ⟨p, q, hA, _⟩ := hW
  rw [params4] at hA
  obtain ⟨v0, vs0, d0, ds0, p0, q0, _, hd0, _, _, r0⟩ := trodAll_cons hA
  obtain ⟨_, h0, _⟩ := trodAll_nil r0
  rw [hd0, h0]
  rfl
set_option maxRecDepth 100000 in
theorem lifted (os : Os) (started : os.Started) (H : Type) (enc : TypeId × Value → H) :
    ReturnsInHanded {} Tryz.checked os 4 .any (fun w args => (Rows.parseBindsSpec.pre enc Tryz.prog Tryz.f4 [] false w args ∧ laidMet Tryz.prog laidL w) ∧ sizedMet enc Tryz.prog Tryz.f4 (OpenSpec.ofChange Rows.parseBindsSpec) false w args) (Rows.parseBindsSpec.post enc Tryz.prog Tryz.f4 false true false false) := by
  refine returns_laid (P := Tryz.checked) (X := fun w _ => laidMet Tryz.prog laidL w) (fun _ _ _ hh h => h.of_heap hh) own started (by kernel_rfl) Tryz.func4
    (ChangeSpec.witness_at (enc := enc) (C := Tryz.checked) (os := os) (X := fun w _ => laidMet Tryz.prog laidL w) false (laidWorld os) #[.slice none 0 0] 8 rfl (by kernel_rfl) (by kernel_rfl) (by kernel_rfl) (by kernel_rfl) (by kernel_rfl) (laid_start os #[.slice none 0 0])) ?_
  intro W base args ds gs before hval hW hsh hL
  exact contract H enc W base args ds gs before hval hW hsh hL
theorem over : Rows.parseBindsRow.holds Tryz.pinned (OpenSpec.ofChange Rows.parseBindsSpec) :=
  OpenClaim.holds_of_wide 4 Tryz.f4 rfl rfl rfl rfl rfl rfl rfl ⟨rfl, rfl, rfl, rfl, rfl⟩ rfl rfl rfl rfl rfl (by kernel_rfl) Tryz.func4 (by kernel_rfl)
    (of_decide_eq_true (by kernel_rfl)) (by unfold Func.isWrapper; first | (rw [if_pos (by decide +kernel)]; kernel_rfl) | (rw [if_neg (by decide +kernel)]; exact ⟨rfl, rfl⟩))
    (fun os started H enc _ => lifted os started H enc)
theorem no_standin : (Tryz.f4.params.toList.all fun t => !(Tryz.prog.wantsStandIn t)) = true := by kernel_rfl
end Claim
theorem parseBinds_holds : Rows.ParseBindsCardSaid :=
  Claim7.holds_tied_plain_at .later [] [.data] true (true, "278d277594453031122dac758a069a8c800bad646047491acf910157d533b717") false
    Claim.over (fun _ h => by cases h) (by kernel_rfl) (fun _ h => by cases h) parseBinds_row_tie rfl ⟨rfl, rfl⟩ (by kernel_rfl) rfl
    (fun f fn hf hfn => by
      obtain rfl : f = 4 := Option.some.inj ((show Tryz.prog.funcNamed "sluicegate/sluicegatelaw10.ParseBinds" = some 4 by kernel_rfl).symm.trans hf) |>.symm
      obtain rfl : fn = Tryz.f4 := (Option.some.inj (Tryz.func4.symm.trans hfn)).symm
      refine ⟨by kernel_rfl, fun j t ht => ?_⟩
      have hm : t ∈ Tryz.f4.params.toList := List.mem_of_getElem? (by rw [Array.getElem?_toList]; exact ht)
      have := List.all_eq_true.1 Claim.no_standin t hm
      exact (by simpa using this : Tryz.prog.wantsStandIn t = false))
    (by kernel_rfl)
end Go.Proofs.YtalibicpmfbieaaGreatDoor
