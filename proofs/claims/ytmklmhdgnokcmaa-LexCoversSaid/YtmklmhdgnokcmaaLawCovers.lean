/- For every string LexCovers returns true and leaves its argument as it was. No condition. -/
import Derived.Test.YtmklmhdgnokcmaaLexLaw
import Derived.Test.YtmklmhdgnokcmaaCovLoop
namespace Go.Proofs.Ytmklmhdgnokcmaa
open Go.AE
set_option linter.unusedVariables false
open Go.ChangeShapes Go.WideShapes Go.ChangeAt Go.RowKit
namespace Claim
theorem params8 : Try.f8.params.toList = [9] := by kernel_rfl
theorem sk8 : lawSk C.P [9] = law08_LexCovers.sk := by kernel_rfl
set_option maxRecDepth 100000 in
theorem runs (xs : List D) (h : F2 (wtV C.P 8) Try.f8.params.toList xs) : ∃ n, run C n (.call 8 (lawSk C.P Try.f8.params.toList) xs) = some (true, [.bool true]) := by
  rw [params8, CP] at h
  rw [params8]
  cases h with
  | cons h1 h2 =>
    cases h2
    obtain ⟨t, rfl⟩ := wtV_str Try.underlying9 h1
    obtain ⟨r, hr, n, hn⟩ := (lexCovers_plain t).run
    rw [hr] at hn
    exact ⟨n, by rw [sk8]; exact hn⟩
set_option maxRecDepth 100000 in
theorem contract (H : Type) (enc : TypeId × Value → H) (W : World) (base : Nat) (args : Array Value) (ds gs : List (DataW H)) (before : List MemPlace)
    (hval : ∀ (j : Nat) t v, Try.f8.params[j]? = some t → args[j]? = some v → Value.okWide Try.prog W .any base t v)
    (hW : DataW.Whole enc Try.prog Try.f8.params.toList Rows.lexCoversSpec.vars false W args.toList ds gs before) (hsh : W.ShapedOpen Try.prog) :
    Calls Try.prog 8 args W fun e W' => ∃ v, e = .returned v ∧ Rows.lexCoversSpec.post enc Try.prog Try.f8 false true false false W args v W' := by
  refine law_calls (c := C) (fn := Try.f8) names orcs Try.func8 (tb := 4) (by kernel_rfl) Try.underlying4 (by kernel_rfl) (gok hsh) (by kernel_rfl) (by kernel_rfl) (B := Rows.uptoBulkAll (ds ++ gs)) (fun xs h _ => runs xs h) meas hval rfl hW (Nat.le_refl _) ?_
  intro hg
  subst hg
  obtain ⟨p, q, hA, _⟩ := hW
  rw [params8] at hA
  obtain ⟨v0, vs0, d0, ds0, p0, q0, _, hd, _, _, r0⟩ := trodAll_cons hA
  obtain ⟨_, h0, _⟩ := trodAll_nil r0
  rw [hd, h0]
  rfl
set_option maxRecDepth 100000 in
theorem lifted (os : Os) (started : os.Started) (H : Type) (enc : TypeId × Value → H) :
    ReturnsInHanded {} Try.checked os 8 .any (Rows.lexCoversSpec.pre6 enc Try.prog Try.f8 Rows.lexCoversRow.domain false) (Rows.lexCoversSpec.post enc Try.prog Try.f8 false true false false) := by
  refine returnsInHanded_of_change_shaped (C := Try.checked) own started (by kernel_rfl) Try.func8
    (ChangeSpec.witness6 (enc := enc) (C := Try.checked) false ⟨#[], #[.string ⟨#[]⟩], []⟩ 8 (by kernel_rfl) (by kernel_rfl) (by kernel_rfl) (by kernel_rfl)) ?_
  intro W base args ds gs before hval hW _ _ hsh _
  exact contract H enc W base args ds gs before hval hW hsh
theorem over : Rows.lexCoversRow.holds Try.pinned (OpenSpec.ofChange Rows.lexCoversSpec) :=
  OpenClaim.holds_of_wide 8 Try.f8 rfl rfl rfl rfl rfl rfl rfl ⟨rfl, rfl, rfl, rfl, rfl⟩ rfl rfl rfl rfl rfl (by kernel_rfl) Try.func8 (by kernel_rfl)
    (of_decide_eq_true (by kernel_rfl)) (by unfold Func.isWrapper; first | (rw [if_pos (by decide +kernel)]; kernel_rfl) | (rw [if_neg (by decide +kernel)]; exact ⟨rfl, rfl⟩))
    (fun os started H enc _ => lifted os started H enc)
end Claim
theorem lexCovers_holds : Rows.LexCoversSaid := Claim.over
end Go.Proofs.Ytmklmhdgnokcmaa
