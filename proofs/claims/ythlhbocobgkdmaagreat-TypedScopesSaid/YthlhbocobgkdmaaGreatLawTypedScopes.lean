/- For all lists of names and of integers TypedScopes returns true and leaves its arguments as they were. No condition. -/
import Derived.Test.YthlhbocobgkdmaaGreatTsLaw
import Derived.Test.YthlhbocobgkdmaaGreatZsD
namespace Go.Proofs.YthlhbocobgkdmaaGreat
open Go.AE
set_option linter.unusedVariables false
set_option linter.unusedSimpArgs false
open Go.ChangeShapes Go.WideShapes Go.ChangeAt Go.RowKit
namespace Claim
set_option maxRecDepth 100000 in
theorem strs_of {n : Nat} {x : D} (h : wtV Tryz.prog (n + 2) 22 x) : ∃ xs, x = .lst 1 xs ∧ ∀ y ∈ xs, ∃ s : List UInt8, y = .str s := by
  obtain ⟨ys, e, hy⟩ := wtV_slice Tryz.underlying22 h
  have hs : szT Tryz.prog 9 = 1 := by kernel_rfl
  rw [hs] at e
  exact ⟨ys, e, fun y h' => wtV_str Tryz.underlying9 (hy y h')⟩
set_option maxRecDepth 100000 in
theorem ints_of {n : Nat} {x : D} (h : wtV Tryz.prog (n + 2) 23 x) : ∃ xs, x = .lst 1 xs ∧ ∀ y ∈ xs, ∃ m : Int, y = .int .i64 m := by
  obtain ⟨ys, e, hy⟩ := wtV_slice Tryz.underlying23 h
  have hs : szT Tryz.prog 3 = 1 := by kernel_rfl
  rw [hs] at e
  refine ⟨ys, e, fun y h' => ?_⟩
  obtain ⟨i, e1, _⟩ := wtV_int Tryz.underlying3 (hy y h')
  exact ⟨i, e1⟩
theorem params3 : Tryz.f3.params.toList = [22, 23] := by kernel_rfl
theorem sk3 : lawSk C.P [22, 23] = law12_TypedScopes.sk := by kernel_rfl
set_option maxRecDepth 100000 in
theorem runs (xs : List D) (h : F2 (wtV C.P 8) Tryz.f3.params.toList xs) : ∃ n, run C n (.call 3 (lawSk C.P Tryz.f3.params.toList) xs) = some (true, [.bool true]) := by
  rw [params3, CP] at h
  rw [params3]
  cases h with | cons h1 h =>
  cases h with | cons h2 h =>
  cases h
  obtain ⟨xs, rfl, hx⟩ := strs_of h1
  obtain ⟨ys, rfl, hy⟩ := ints_of h2
  obtain ⟨r, hr, n, hn⟩ := (typedScopes_plain hx hy).run
  rw [hr] at hn
  exact ⟨n, by rw [sk3]; exact hn⟩
set_option maxRecDepth 100000 in
theorem contract (H : Type) (enc : TypeId × Value → H) (W : World) (base : Nat) (args : Array Value) (ds gs : List (DataW H)) (before : List MemPlace)
    (hval : ∀ (j : Nat) t v, Tryz.f3.params[j]? = some t → args[j]? = some v → Value.okWide Tryz.prog W .any base t v)
    (hW : DataW.Whole enc Tryz.prog Tryz.f3.params.toList Rows.typedScopesSpec.vars false W args.toList ds gs before) (hsh : W.ShapedOpen Tryz.prog) :
    Calls Tryz.prog 3 args W fun e W' => ∃ v, e = .returned v ∧ Rows.typedScopesSpec.post enc Tryz.prog Tryz.f3 false true false false W args v W' := by
  refine law_calls (c := C) (fn := Tryz.f3) names orcs Tryz.func3 (tb := 4) (by kernel_rfl) Tryz.underlying4 (by kernel_rfl) (gok hsh) (by kernel_rfl) (by kernel_rfl) (B := Rows.uptoBulkAll (ds ++ gs)) (fun xs h _ => runs xs h) meas hval rfl hW (Nat.le_refl _) ?_
  intro hg
  subst hg
  obtain ⟨p, q, hA, _⟩ := hW
  rw [params3] at hA
  obtain ⟨v0, vs0, d0, ds0, p0, q0, _, hd0, _, _, r0⟩ := trodAll_cons hA
  obtain ⟨v1, vs1, d1, ds1, p1, q1, _, hd1, _, _, r1⟩ := trodAll_cons r0
  obtain ⟨_, h0, _⟩ := trodAll_nil r1
  rw [hd0, hd1, h0]
  rfl
set_option maxRecDepth 100000 in
theorem lifted (os : Os) (started : os.Started) (H : Type) (enc : TypeId × Value → H) :
    ReturnsInHanded {} Tryz.checked os 3 .any (Rows.typedScopesSpec.pre6 enc Tryz.prog Tryz.f3 Rows.typedScopesRow.domain false) (Rows.typedScopesSpec.post enc Tryz.prog Tryz.f3 false true false false) := by
  refine returnsInHanded_of_change_shaped (C := Tryz.checked) own started (by kernel_rfl) Tryz.func3
    (ChangeSpec.witness6 (enc := enc) (C := Tryz.checked) false ⟨#[], #[.slice none 0 0, .slice none 0 0], []⟩ 8 (by kernel_rfl) (by kernel_rfl) (by kernel_rfl) (by kernel_rfl)) ?_
  intro W base args ds gs before hval hW _ _ hsh _
  exact contract H enc W base args ds gs before hval hW hsh
theorem over : Rows.typedScopesRow.holds Tryz.pinned (OpenSpec.ofChange Rows.typedScopesSpec) :=
  OpenClaim.holds_of_wide 3 Tryz.f3 rfl rfl rfl rfl rfl rfl rfl ⟨rfl, rfl, rfl, rfl, rfl⟩ rfl rfl rfl rfl rfl (by kernel_rfl) Tryz.func3 (by kernel_rfl)
    (of_decide_eq_true (by kernel_rfl)) (by unfold Func.isWrapper; first | (rw [if_pos (by decide +kernel)]; kernel_rfl) | (rw [if_neg (by decide +kernel)]; exact ⟨rfl, rfl⟩))
    (fun os started H enc _ => lifted os started H enc)
end Claim
theorem typedScopes_holds : Rows.TypedScopesSaid := Claim.over
end Go.Proofs.YthlhbocobgkdmaaGreat
