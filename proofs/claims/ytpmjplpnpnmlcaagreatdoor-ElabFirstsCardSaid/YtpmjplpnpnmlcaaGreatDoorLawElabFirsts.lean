/- For all numbers and widths ElabFirsts returns true and leaves its arguments as they were; the laid tables are tied to the program. No condition. -/
import Derived.Test.YtpmjplpnpnmlcaaGreatDoorDoorLawF
import Derived.Test.YtpmjplpnpnmlcaaGreatDoorM4
import Derived.Test.YtpmjplpnpnmlcaaGreatDoorFlC
import Derived.Test.YtpmjplpnpnmlcaaGreatDoorTie
import Derived.Test.YtpmjplpnpnmlcaaGreatDoorCards
set_option linter.all false
namespace Go.Proofs.YtpmjplpnpnmlcaaGreatDoor
open Go.AE
open Go.ChangeShapes Go.WideShapes Go.ChangeAt Go.RowKit
namespace Claim
set_option maxRecDepth 100000 in
theorem int_of {n : Nat} {x : D} (h : wtV Tryz.prog (n + 1) 3 x) : ∃ i : Int, x = .int .i64 i := by
  obtain ⟨i, e, _⟩ := wtV_int Tryz.underlying3 h
  exact ⟨i, e⟩
theorem params3 : Tryz.f6.params.toList = [3, 3] := by kernel_rfl
theorem sk3 : lawSk C.P [3, 3] = ⟨sl [dI, dI], []⟩ := by kernel_rfl
set_option maxRecDepth 100000 in
theorem runs (xs : List D) (h : F2 (wtV C.P 8) Tryz.f6.params.toList xs) : ∃ n, run C n (.call 6 (lawSk C.P Tryz.f6.params.toList) xs) = some (true, [.bool true]) := by
  rw [params3, CP] at h
  rw [params3]
  cases h with | cons h1 h =>
  cases h with | cons h2 h =>
  cases h
  obtain ⟨a, rfl⟩ := int_of h1
  obtain ⟨b, rfl⟩ := int_of h2
  obtain ⟨n, hn⟩ := elabFirsts_plain a b
  exact ⟨n, by rw [sk3]; exact hn n (Nat.le_refl _)⟩
set_option maxRecDepth 100000 in
theorem contract (H : Type) (enc : TypeId × Value → H) (W : World) (base : Nat) (args : Array Value) (ds gs : List (DataW H)) (before : List MemPlace)
    (hval : ∀ (j : Nat) t v, Tryz.f6.params[j]? = some t → args[j]? = some v → Value.okWide Tryz.prog W .any base t v)
    (hW : DataW.Whole enc Tryz.prog Tryz.f6.params.toList Rows.elabFirstsSpec.vars false W args.toList ds gs before) (hsh : W.ShapedOpen Tryz.prog) (hL : laidMet Tryz.prog laidL W) :
    Calls Tryz.prog 6 args W fun e W' => ∃ v, e = .returned v ∧ Rows.elabFirstsSpec.post enc Tryz.prog Tryz.f6 false true false false W args v W' := by
  refine law_calls (c := C) (fn := Tryz.f6) names orcs Tryz.func6 (tb := 4) (by kernel_rfl) Tryz.underlying4 ⟨by kernel_rfl, by kernel_rfl⟩ (gok hsh hL) (by kernel_rfl) (by kernel_rfl) (B := Rows.uptoBulkAll (ds ++ gs)) (fun xs h _ => runs xs h) meas hval rfl hW (Nat.le_refl _) ?_
  intro hg
  subst hg
  obtain ⟨p, q, hA, _⟩ := hW
  rw [params3] at hA
  obtain ⟨v0, vs0, d0, ds0, p0, q0, _, hd0, _, _, r0⟩ := trodAll_cons hA
  obtain ⟨v1, vs1, d1, ds1, p1, q1, _, hd1, _, _, r1⟩ := trodAll_cons r0
  obtain ⟨_, h0, _⟩ := trodAll_nil r1
  rw [hd0, hd1, h0]
  rfl
set_option maxRecDepth 100000 in
theorem lifted (os : Os) (started : os.Started) (H : Type) (enc : TypeId × Value → H) :
    ReturnsInHanded {} Tryz.checked os 6 .any (fun w args => (Rows.elabFirstsSpec.pre enc Tryz.prog Tryz.f6 [] false w args ∧ laidMet Tryz.prog laidL w) ∧ sizedMet enc Tryz.prog Tryz.f6 (OpenSpec.ofChange Rows.elabFirstsSpec) false w args) (Rows.elabFirstsSpec.post enc Tryz.prog Tryz.f6 false true false false) := by
  refine returns_laid (P := Tryz.checked) (X := fun w _ => laidMet Tryz.prog laidL w) (fun _ _ _ hh h => h.of_heap hh) own started (by kernel_rfl) Tryz.func6
    (ChangeSpec.witness_at (enc := enc) (C := Tryz.checked) (os := os) (X := fun w _ => laidMet Tryz.prog laidL w) false (laidWorld os) #[.int .i64 0, .int .i64 0] 8 rfl (by kernel_rfl) (by kernel_rfl) (by kernel_rfl) (by kernel_rfl) (by kernel_rfl) (laid_start os #[.int .i64 0, .int .i64 0])) ?_
  intro W base args ds gs before hval hW hsh hL
  exact contract H enc W base args ds gs before hval hW hsh hL
theorem over : Rows.elabFirstsRow.holds Tryz.pinned (OpenSpec.ofChange Rows.elabFirstsSpec) :=
  OpenClaim.holds_of_wide 6 Tryz.f6 rfl rfl rfl rfl rfl rfl rfl ⟨rfl, rfl, rfl, rfl, rfl⟩ rfl rfl rfl rfl rfl f_name Tryz.func6 joined f_inst f_wrap
    (fun os started H enc _ => lifted os started H enc)
theorem no_standin : (Tryz.f6.params.toList.all fun t => !(Tryz.prog.wantsStandIn t)) = true := by kernel_rfl
end Claim
theorem elabFirsts_holds : Rows.ElabFirstsCardSaid :=
  Claim7.holds_tied_plain_at .later [] [.data, .data, .data, .data] true (true, "16a04560f04ee2d2d31e39f31ee3eeabb448da85cdc95d70a2d66cfb2a1bfef6") false
    Claim.over (fun _ h => by cases h) Claim.f_wf (fun _ h => by cases h) elabFirsts_row_tie rfl ⟨rfl, rfl⟩ Claim.f_main rfl
    (fun f fn hf hfn => by
      obtain rfl : f = 6 := Option.some.inj (Claim.f_name2.symm.trans hf) |>.symm
      obtain rfl : fn = Tryz.f6 := (Option.some.inj (Tryz.func6.symm.trans hfn)).symm
      refine ⟨Claim.f_looks, fun j t ht => ?_⟩
      have hm : t ∈ Tryz.f6.params.toList := List.mem_of_getElem? (by rw [Array.getElem?_toList]; exact ht)
      have := List.all_eq_true.1 Claim.no_standin t hm
      exact (by simpa using this : Tryz.prog.wantsStandIn t = false))
    Claim.f_goes
end Go.Proofs.YtpmjplpnpnmlcaaGreatDoor
