/- For all slices of bytes AstTexts returns true and leaves its argument as it was; the laid tables are tied to the program. No condition. -/
import Derived.Test.YtalibicpmfbieaaGreatDoorDoorLawT
import Derived.Test.YtalibicpmfbieaaGreatDoorXpK
import Derived.Test.YtalibicpmfbieaaGreatDoorTie
import Derived.Test.YtalibicpmfbieaaGreatDoorCards
namespace Go.Proofs.YtalibicpmfbieaaGreatDoor
open Go.AE
set_option linter.unusedVariables false
set_option linter.unusedSimpArgs false
open Go.ChangeShapes Go.WideShapes Go.ChangeAt Go.RowKit
namespace Claim
set_option maxRecDepth 100000 in
theorem bytes_of {n : Nat} {x : D} (h : wtV Tryz.prog (n + 2) 22 x) : ∃ b, x = .lst 1 b ∧ Bytes b := by
  obtain ⟨ys, e, hy⟩ := wtV_slice Tryz.underlying22 h
  have hs : szT Tryz.prog 5 = 1 := by kernel_rfl
  rw [hs] at e
  refine ⟨ys, e, fun y h' => ?_⟩
  obtain ⟨i, e1, e2⟩ := wtV_int Tryz.underlying5 (hy y h')
  obtain ⟨h1, h2⟩ := wf_u8 e2
  exact ⟨i, e1, h1, h2⟩
theorem params3 : Tryz.f3.params.toList = [22] := by kernel_rfl
theorem sk3 : lawSk C.P [22] = law09_AstTexts.sk := by kernel_rfl
set_option maxRecDepth 100000 in
theorem runs (xs : List D) (h : F2 (wtV C.P 8) Tryz.f3.params.toList xs) : ∃ n, run C n (.call 3 (lawSk C.P Tryz.f3.params.toList) xs) = some (true, [.bool true]) := by
  rw [params3, CP] at h
  rw [params3]
  cases h with | cons h1 h =>
  cases h
  obtain ⟨b, rfl, hb⟩ := bytes_of h1
  obtain ⟨r, hr, n, hn⟩ := (astTexts_plain hb).run
  rw [hr] at hn
  exact ⟨n, by rw [sk3]; exact hn⟩
set_option maxRecDepth 100000 in
theorem contract (H : Type) (enc : TypeId × Value → H) (W : World) (base : Nat) (args : Array Value) (ds gs : List (DataW H)) (before : List MemPlace)
    (hval : ∀ (j : Nat) t v, Tryz.f3.params[j]? = some t → args[j]? = some v → Value.okWide Tryz.prog W .any base t v)
    (hW : DataW.Whole enc Tryz.prog Tryz.f3.params.toList Rows.astTextsSpec.vars false W args.toList ds gs before) (hsh : W.ShapedOpen Tryz.prog) (hL : laidMet Tryz.prog laidL W) :
    Calls Tryz.prog 3 args W fun e W' => ∃ v, e = .returned v ∧ Rows.astTextsSpec.post enc Tryz.prog Tryz.f3 false true false false W args v W' := by
  refine law_calls (c := C) (fn := Tryz.f3) names orcs Tryz.func3 (tb := 4) (by kernel_rfl) Tryz.underlying4 (by kernel_rfl) (gok hsh hL) (by kernel_rfl) (by kernel_rfl) (B := Rows.uptoBulkAll (ds ++ gs)) (fun xs h _ => runs xs h) meas hval rfl hW (Nat.le_refl _) ?_
  intro hg
  subst hg
  obtain ⟨p, q, hA, _⟩ := hW
  rw [params3] at hA
  obtain ⟨v0, vs0, d0, ds0, p0, q0, _, hd0, _, _, r0⟩ := trodAll_cons hA
  obtain ⟨_, h0, _⟩ := trodAll_nil r0
  rw [hd0, h0]
  rfl
set_option maxRecDepth 100000 in
theorem lifted (os : Os) (started : os.Started) (H : Type) (enc : TypeId × Value → H) :
    ReturnsInHanded {} Tryz.checked os 3 .any (fun w args => (Rows.astTextsSpec.pre enc Tryz.prog Tryz.f3 [] false w args ∧ laidMet Tryz.prog laidL w) ∧ sizedMet enc Tryz.prog Tryz.f3 (OpenSpec.ofChange Rows.astTextsSpec) false w args) (Rows.astTextsSpec.post enc Tryz.prog Tryz.f3 false true false false) := by
  refine returns_laid (P := Tryz.checked) (X := fun w _ => laidMet Tryz.prog laidL w) (fun _ _ _ hh h => h.of_heap hh) own started (by kernel_rfl) Tryz.func3
    (ChangeSpec.witness_at (enc := enc) (C := Tryz.checked) (os := os) (X := fun w _ => laidMet Tryz.prog laidL w) false (laidWorld os) #[.slice none 0 0] 8 rfl (by kernel_rfl) (by kernel_rfl) (by kernel_rfl) (by kernel_rfl) (by kernel_rfl) (laid_start os #[.slice none 0 0])) ?_
  intro W base args ds gs before hval hW hsh hL
  exact contract H enc W base args ds gs before hval hW hsh hL
theorem over : Rows.astTextsRow.holds Tryz.pinned (OpenSpec.ofChange Rows.astTextsSpec) :=
  OpenClaim.holds_of_wide 3 Tryz.f3 rfl rfl rfl rfl rfl rfl rfl ⟨rfl, rfl, rfl, rfl, rfl⟩ rfl rfl rfl rfl rfl (by kernel_rfl) Tryz.func3 (by kernel_rfl)
    (of_decide_eq_true (by kernel_rfl)) (by unfold Func.isWrapper; first | (rw [if_pos (by decide +kernel)]; kernel_rfl) | (rw [if_neg (by decide +kernel)]; exact ⟨rfl, rfl⟩))
    (fun os started H enc _ => lifted os started H enc)
theorem no_standin : (Tryz.f3.params.toList.all fun t => !(Tryz.prog.wantsStandIn t)) = true := by kernel_rfl
end Claim
theorem astTexts_holds : Rows.AstTextsCardSaid :=
  Claim7.holds_tied_plain_at .later [] [.data, .pinned] true (true, "278d277594453031122dac758a069a8c800bad646047491acf910157d533b717") false
    Claim.over (fun _ h => by cases h) (by kernel_rfl) (fun _ h => by cases h) astTexts_row_tie rfl ⟨rfl, rfl⟩ (by kernel_rfl) rfl
    (fun f fn hf hfn => by
      obtain rfl : f = 3 := Option.some.inj ((show Tryz.prog.funcNamed "sluicegate/sluicegatelaw09.AstTexts" = some 3 by kernel_rfl).symm.trans hf) |>.symm
      obtain rfl : fn = Tryz.f3 := (Option.some.inj (Tryz.func3.symm.trans hfn)).symm
      refine ⟨by kernel_rfl, fun j t ht => ?_⟩
      have hm : t ∈ Tryz.f3.params.toList := List.mem_of_getElem? (by rw [Array.getElem?_toList]; exact ht)
      have := List.all_eq_true.1 Claim.no_standin t hm
      exact (by simpa using this : Tryz.prog.wantsStandIn t = false))
    (by kernel_rfl)
end Go.Proofs.YtalibicpmfbieaaGreatDoor
