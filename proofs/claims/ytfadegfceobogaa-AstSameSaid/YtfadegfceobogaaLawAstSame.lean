/- For all slices of bytes AstSame returns true and leaves its arguments as they were. No condition. -/
import Derived.Test.YtfadegfceobogaaAstLaw
import Derived.Test.YtfadegfceobogaaAjS
namespace Go.Proofs.Ytfadegfceobogaa
open Go.AE
set_option linter.unusedVariables false
set_option linter.unusedSimpArgs false
open Go.ChangeShapes Go.WideShapes Go.ChangeAt Go.RowKit
namespace Claim
set_option maxRecDepth 100000 in
theorem bytes_of {n : Nat} {x : D} (h : wtV Try.prog (n + 2) 22 x) : ∃ b, x = .lst 1 b ∧ Bytes b := by
  obtain ⟨ys, e, hy⟩ := wtV_slice Try.underlying22 h
  have hs : szT Try.prog 5 = 1 := by kernel_rfl
  rw [hs] at e
  refine ⟨ys, e, fun y h' => ?_⟩
  obtain ⟨i, e1, e2⟩ := wtV_int Try.underlying5 (hy y h')
  obtain ⟨h1, h2⟩ := wf_u8 e2
  exact ⟨i, e1, h1, h2⟩
theorem params4 : Try.f4.params.toList = [22, 22] := by kernel_rfl
theorem sk4 : lawSk C.P [22, 22] = law09_AstSame.sk := by kernel_rfl
set_option maxRecDepth 100000 in
theorem runs (xs : List D) (h : F2 (wtV C.P 8) Try.f4.params.toList xs) : ∃ n, run C n (.call 4 (lawSk C.P Try.f4.params.toList) xs) = some (true, [.bool true]) := by
  rw [params4, CP] at h
  rw [params4]
  cases h with | cons h1 h =>
  cases h with | cons h2 h =>
  cases h
  obtain ⟨b1, rfl, hb1⟩ := bytes_of h1
  obtain ⟨b2, rfl, hb2⟩ := bytes_of h2
  obtain ⟨r, hr, n, hn⟩ := (astSame_plain hb1 hb2).run
  rw [hr] at hn
  exact ⟨n, by rw [sk4]; exact hn⟩
set_option maxRecDepth 100000 in
theorem contract (H : Type) (enc : TypeId × Value → H) (W : World) (base : Nat) (args : Array Value) (ds gs : List (DataW H)) (before : List MemPlace)
    (hval : ∀ (j : Nat) t v, Try.f4.params[j]? = some t → args[j]? = some v → Value.okWide Try.prog W .any base t v)
    (hW : DataW.Whole enc Try.prog Try.f4.params.toList Rows.astSameSpec.vars false W args.toList ds gs before) (hsh : W.ShapedOpen Try.prog) :
    Calls Try.prog 4 args W fun e W' => ∃ v, e = .returned v ∧ Rows.astSameSpec.post enc Try.prog Try.f4 false true false false W args v W' := by
  refine law_calls (c := C) (fn := Try.f4) names orcs Try.func4 (tb := 4) (by kernel_rfl) Try.underlying4 (by kernel_rfl) (gok hsh) (by kernel_rfl) (by kernel_rfl) (B := Rows.uptoBulkAll (ds ++ gs)) (fun xs h _ => runs xs h) meas hval rfl hW (Nat.le_refl _) ?_
  intro hg
  subst hg
  obtain ⟨p, q, hA, _⟩ := hW
  rw [params4] at hA
  obtain ⟨v0, vs0, d0, ds0, p0, q0, _, hd0, _, _, r0⟩ := trodAll_cons hA
  obtain ⟨v1, vs1, d1, ds1, p1, q1, _, hd1, _, _, r1⟩ := trodAll_cons r0
  obtain ⟨_, h0, _⟩ := trodAll_nil r1
  rw [hd0, hd1, h0]
  rfl
set_option maxRecDepth 100000 in
theorem lifted (os : Os) (started : os.Started) (H : Type) (enc : TypeId × Value → H) :
    ReturnsInHanded {} Try.checked os 4 .any (Rows.astSameSpec.pre6 enc Try.prog Try.f4 Rows.astSameRow.domain false) (Rows.astSameSpec.post enc Try.prog Try.f4 false true false false) := by
  refine returnsInHanded_of_change_shaped (C := Try.checked) own started (by kernel_rfl) Try.func4
    (ChangeSpec.witness6 (enc := enc) (C := Try.checked) false ⟨#[], #[.slice none 0 0, .slice none 0 0], []⟩ 8 (by kernel_rfl) (by kernel_rfl) (by kernel_rfl) (by kernel_rfl)) ?_
  intro W base args ds gs before hval hW _ _ hsh _
  exact contract H enc W base args ds gs before hval hW hsh
theorem over : Rows.astSameRow.holds Try.pinned (OpenSpec.ofChange Rows.astSameSpec) :=
  OpenClaim.holds_of_wide 4 Try.f4 rfl rfl rfl rfl rfl rfl rfl ⟨rfl, rfl, rfl, rfl, rfl⟩ rfl rfl rfl rfl rfl (by kernel_rfl) Try.func4 (by kernel_rfl)
    (of_decide_eq_true (by kernel_rfl)) (by unfold Func.isWrapper; first | (rw [if_pos (by decide +kernel)]; kernel_rfl) | (rw [if_neg (by decide +kernel)]; exact ⟨rfl, rfl⟩))
    (fun os started H enc _ => lifted os started H enc)
end Claim
theorem astSame_holds : Rows.AstSameSaid := Claim.over
end Go.Proofs.Ytfadegfceobogaa
