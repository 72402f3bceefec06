/- For all slices of bools and arrays of three integers TypedMakers returns true and leaves its arguments as they were. No condition. -/
import Derived.Test.YthlhbocobgkdmaaGreatTmLaw
import Derived.Test.YthlhbocobgkdmaaGreatMkM
namespace Go.Proofs.YthlhbocobgkdmaaGreat
open Go.AE
set_option linter.unusedVariables false
set_option linter.unusedSimpArgs false
open Go.ChangeShapes Go.WideShapes Go.ChangeAt Go.RowKit
namespace Claim
theorem bools_map : ∀ ys : List D, (∀ y ∈ ys, ∃ b, y = D.bool b) → ∃ l : List Bool, ys = l.map bD
  | [], _ => ⟨[], rfl⟩
  | y :: ys, h => by
    obtain ⟨b, hb⟩ := h y (List.mem_cons_self ..)
    obtain ⟨l, hl⟩ := bools_map ys fun z hz => h z (List.mem_cons_of_mem _ hz)
    exact ⟨b :: l, by rw [hb, hl]; rfl⟩
set_option maxRecDepth 100000 in
theorem bools_of {n : Nat} {x : D} (h : wtV Tryz.prog (n + 2) 53 x) : ∃ l : List Bool, x = .lst 1 (l.map bD) := by
  obtain ⟨ys, e, hy⟩ := wtV_slice Tryz.underlying53 h
  have hs : szT Tryz.prog 4 = 1 := by kernel_rfl
  rw [hs] at e
  obtain ⟨l, hl⟩ := bools_map ys fun y h' => wtV_bool Tryz.underlying4 (hy y h')
  exact ⟨l, by rw [e, hl]⟩
theorem wtL_intG {P : Program} {n : Nat} {t : TypeId} {xs : List D} {k : IntKind} (ht : P.underlying t = some (.int k)) (h : wtL P (n + 1) t xs) : ∃ i : Int, xs = [.int k i] := by
  simp only [wtL, ht] at h
  obtain ⟨i, e, _⟩ := h
  exact ⟨i, e⟩
set_option maxRecDepth 100000 in
theorem three_of {n : Nat} {x : D} (h : wtV Tryz.prog (n + 2) 54 x) : ∃ p q s : Int, x = .agg [.int .i64 p, .int .i64 q, .int .i64 s] := by
  obtain ⟨parts, rfl, hl, hp⟩ := wtV_array Tryz.underlying54 h
  match parts, hl, hp with
  | [a, b, c], _, hp =>
    obtain ⟨p, rfl⟩ := wtL_intG (n := n) Tryz.underlying3 (hp a (by simp))
    obtain ⟨q, rfl⟩ := wtL_intG (n := n) Tryz.underlying3 (hp b (by simp))
    obtain ⟨s, rfl⟩ := wtL_intG (n := n) Tryz.underlying3 (hp c (by simp))
    exact ⟨p, q, s, rfl⟩
theorem params4 : Tryz.f4.params.toList = [53, 53, 54] := by kernel_rfl
theorem sk4 : lawSk C.P [53, 53, 54] = law12_TypedMakers.sk := by kernel_rfl
set_option maxRecDepth 100000 in
theorem runs (xs : List D) (h : F2 (wtV C.P 8) Tryz.f4.params.toList xs) : ∃ n, run C n (.call 4 (lawSk C.P Tryz.f4.params.toList) xs) = some (true, [.bool true]) := by
  rw [params4, CP] at h
  rw [params4]
  cases h with | cons h1 h =>
  cases h with | cons h2 h =>
  cases h with | cons h3 h =>
  cases h
  obtain ⟨la, rfl⟩ := bools_of h1
  obtain ⟨lb, rfl⟩ := bools_of h2
  obtain ⟨p, q, s, rfl⟩ := three_of h3
  obtain ⟨r, hr, n, hn⟩ := (typedMakers_plain la lb p q s).run
  rw [hr] at hn
  exact ⟨n, by rw [sk4]; exact hn⟩
set_option maxRecDepth 100000 in
theorem contract (H : Type) (enc : TypeId × Value → H) (W : World) (base : Nat) (args : Array Value) (ds gs : List (DataW H)) (before : List MemPlace)
    (hval : ∀ (j : Nat) t v, Tryz.f4.params[j]? = some t → args[j]? = some v → Value.okWide Tryz.prog W .any base t v)
    (hW : DataW.Whole enc Tryz.prog Tryz.f4.params.toList Rows.typedMakersSpec.vars false W args.toList ds gs before) (hsh : W.ShapedOpen Tryz.prog) :
    Calls Tryz.prog 4 args W fun e W' => ∃ v, e = .returned v ∧ Rows.typedMakersSpec.post enc Tryz.prog Tryz.f4 false true false false W args v W' := by
  refine law_calls (c := C) (fn := Tryz.f4) names orcs Tryz.func4 (tb := 4) (by kernel_rfl) Tryz.underlying4 (by kernel_rfl) (gok hsh) (by kernel_rfl) (by kernel_rfl) (B := Rows.uptoBulkAll (ds ++ gs)) (fun xs h _ => runs xs h) meas hval rfl hW (Nat.le_refl _) ?_
  intro hg
  subst hg
  obtain ⟨p, q, hA, _⟩ := hW
  rw [params4] at hA
  obtain ⟨v0, vs0, d0, ds0, p0, q0, _, hd0, _, _, r0⟩ := trodAll_cons hA
  obtain ⟨v1, vs1, d1, ds1, p1, q1, _, hd1, _, _, r1⟩ := trodAll_cons r0
  obtain ⟨v2, vs2, d2, ds2, p2, q2, _, hd2, _, _, r2⟩ := trodAll_cons r1
  obtain ⟨_, h0, _⟩ := trodAll_nil r2
  rw [hd0, hd1, hd2, h0]
  rfl
set_option maxRecDepth 100000 in
theorem lifted (os : Os) (started : os.Started) (H : Type) (enc : TypeId × Value → H) :
    ReturnsInHanded {} Tryz.checked os 4 .any (Rows.typedMakersSpec.pre6 enc Tryz.prog Tryz.f4 Rows.typedMakersRow.domain false) (Rows.typedMakersSpec.post enc Tryz.prog Tryz.f4 false true false false) := by
  refine returnsInHanded_of_change_shaped (C := Tryz.checked) own started (by kernel_rfl) Tryz.func4
    (ChangeSpec.witness6 (enc := enc) (C := Tryz.checked) false ⟨#[], #[.slice none 0 0, .slice none 0 0, .agg #[.int .i64 0, .int .i64 0, .int .i64 0]], []⟩ 8 (by kernel_rfl) (by kernel_rfl) (by kernel_rfl) (by kernel_rfl)) ?_
  intro W base args ds gs before hval hW _ _ hsh _
  exact contract H enc W base args ds gs before hval hW hsh
theorem over : Rows.typedMakersRow.holds Tryz.pinned (OpenSpec.ofChange Rows.typedMakersSpec) :=
  OpenClaim.holds_of_wide 4 Tryz.f4 rfl rfl rfl rfl rfl rfl rfl ⟨rfl, rfl, rfl, rfl, rfl⟩ rfl rfl rfl rfl rfl (by kernel_rfl) Tryz.func4 (by kernel_rfl)
    (of_decide_eq_true (by kernel_rfl)) (by unfold Func.isWrapper; first | (rw [if_pos (by decide +kernel)]; kernel_rfl) | (rw [if_neg (by decide +kernel)]; exact ⟨rfl, rfl⟩))
    (fun os started H enc _ => lifted os started H enc)
end Claim
theorem typedMakers_holds : Rows.TypedMakersSaid := Claim.over
end Go.Proofs.YthlhbocobgkdmaaGreat
