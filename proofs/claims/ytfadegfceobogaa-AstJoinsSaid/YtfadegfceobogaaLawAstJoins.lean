/- For all slices of bytes AstJoins returns true and leaves its arguments as they were. No condition. -/
import Derived.Test.YtfadegfceobogaaAstLaw
import Derived.Test.YtfadegfceobogaaAjA
namespace Go.Proofs.Ytfadegfceobogaa
open Go.AE
set_option linter.unusedVariables false
open Go.ChangeShapes Go.WideShapes Go.ChangeAt Go.RowKit
namespace Claim
set_option maxRecDepth 100000 in
theorem bytes_of {n : Nat} {x : D} (h : wtV Try.prog (n + 2) 22 x) : ∃ b, x = .lst 1 b ∧ Bytes b := by
  obtain ⟨ys, e, hy⟩ := wtV_slice Try.underlying22 h
  have hs : szT Try.prog 5 = 1 := by kernel_rfl
  rw [hs] at e
  refine ⟨ys, e, fun y h' => ?_⟩
  obtain ⟨i, e1, e2⟩ := wtV_int Try.underlying5 (hy y h')
  obtain ⟨h1, h2⟩ := wf_u8 e2
  exact ⟨i, e1, h1, h2⟩
theorem params3 : Try.f3.params.toList = [22, 22] := by kernel_rfl
theorem sk3 : lawSk C.P [22, 22] = law09_AstJoins.sk := by kernel_rfl
set_option maxRecDepth 100000 in
theorem runs (xs : List D) (h : F2 (wtV C.P 8) Try.f3.params.toList xs) : ∃ n, run C n (.call 3 (lawSk C.P Try.f3.params.toList) xs) = some (true, [.bool true]) := by
  rw [params3, CP] at h
  rw [params3]
  cases h with | cons h1 h =>
  cases h with | cons h2 h =>
  cases h
  obtain ⟨b1, rfl, hb1⟩ := bytes_of h1
  obtain ⟨b2, rfl, hb2⟩ := bytes_of h2
  obtain ⟨r, hr, n, hn⟩ := (astJoins_plain hb1 hb2).run
  rw [hr] at hn
  exact ⟨n, by rw [sk3]; exact hn⟩
set_option maxRecDepth 100000 in
theorem contract (H : Type) (enc : TypeId × Value → H) (W : World) (base : Nat) (args : Array Value) (ds gs : List (DataW H)) (before : List MemPlace)
    (hval : ∀ (j : Nat) t v, Try.f3.params[j]? = some t → args[j]? = some v → Value.okWide Try.prog W .any base t v)
    (hW : DataW.Whole enc Try.prog Try.f3.params.toList Rows.astJoinsSpec.vars false W args.toList ds gs before) (hsh : W.ShapedOpen Try.prog) :
    Calls Try.prog 3 args W fun e W' => ∃ v, e = .returned v ∧ Rows.astJoinsSpec.post enc Try.prog Try.f3 false true false false W args v W' := by
  refine law_calls (c := C) (fn := Try.f3) names orcs Try.func3 (tb := 4) (by kernel_rfl) Try.underlying4 (by kernel_rfl) (gok hsh) (by kernel_rfl) (by kernel_rfl) (B := Rows.uptoBulkAll (ds ++ gs)) (fun xs h _ => runs xs h) meas hval rfl hW (Nat.le_refl _) ?_
  intro hg
  subst hg
  obtain ⟨p, q, hA, _⟩ := hW
  rw [params3] at hA
  obtain ⟨v0, vs0, d0, ds0, p0, q0, _, hd0, _, _, r0⟩ := trodAll_cons hA
  obtain ⟨v1, vs1, d1, ds1, p1, q1, _, hd1, _, _, r1⟩ := trodAll_cons r0
  obtain ⟨_, h0, _⟩ := trodAll_nil r1
  rw [hd0, hd1, h0]
  rfl
set_option maxRecDepth 100000 in
theorem lifted (os : Os) (started : os.Started) (H : Type) (enc : TypeId × Value → H) :
    ReturnsInHanded {} Try.checked os 3 .any (Rows.astJoinsSpec.pre6 enc Try.prog Try.f3 Rows.astJoinsRow.domain false) (Rows.astJoinsSpec.post enc Try.prog Try.f3 false true false false) := by
  refine returnsInHanded_of_change_shaped (C := Try.checked) own started (by kernel_rfl) Try.func3
    (ChangeSpec.witness6 (enc := enc) (C := Try.checked) false ⟨#[], #[.slice none 0 0, .slice none 0 0], []⟩ 8 (by kernel_rfl) (by kernel_rfl) (by kernel_rfl) (by kernel_rfl)) ?_
  intro W base args ds gs before hval hW _ _ hsh _
  exact contract H enc W base args ds gs before hval hW hsh
theorem over : Rows.astJoinsRow.holds Try.pinned (OpenSpec.ofChange Rows.astJoinsSpec) :=
  OpenClaim.holds_of_wide 3 Try.f3 rfl rfl rfl rfl rfl rfl rfl ⟨rfl, rfl, rfl, rfl, rfl⟩ rfl rfl rfl rfl rfl (by kernel_rfl) Try.func3 (by kernel_rfl)
    (of_decide_eq_true (by kernel_rfl)) (by unfold Func.isWrapper; first | (rw [if_pos (by decide +kernel)]; kernel_rfl) | (rw [if_neg (by decide +kernel)]; exact ⟨rfl, rfl⟩))
    (fun os started H enc _ => lifted os started H enc)
end Claim
theorem astJoins_holds : Rows.AstJoinsSaid := Claim.over
end Go.Proofs.Ytfadegfceobogaa
