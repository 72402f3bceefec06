/- For all numbers, lists of names and names KonstValues returns true and leaves its arguments as they were; the three laid tables are tied to the program. No condition. -/
import Derived.Test.YtkjocbdjenmegaaDoorDoorLawD
import Derived.Test.YtkjocbdjenmegaaDoorKnP
import Derived.Test.YtkjocbdjenmegaaDoorTie
import Derived.Test.YtkjocbdjenmegaaDoorCards
namespace Go.Proofs.YtkjocbdjenmegaaDoor
open Go.AE
set_option linter.unusedVariables false
open Go.ChangeShapes Go.WideShapes Go.ChangeAt Go.RowKit
namespace Claim
theorem wtL_structG {P : Program} {n : Nat} {t : TypeId} {xs : List D} {fs : Array Field} (ht : P.underlying t = some (.struct fs)) (h : wtL P (n + 1) t xs) : ∃ parts : List (List D), xs = parts.flatten ∧ F2 (fun f p => wtL P n f.type p) fs.toList parts := by
  simp only [wtL, ht] at h
  exact h
theorem wtL_intG {P : Program} {n : Nat} {t : TypeId} {xs : List D} {k : IntKind} (ht : P.underlying t = some (.int k)) (h : wtL P (n + 1) t xs) : ∃ i : Int, xs = [.int k i] ∧ (Lit.int k i).wf = true := by
  simp only [wtL, ht] at h
  exact h
theorem wtL_boolG {P : Program} {n : Nat} {t : TypeId} {xs : List D} (ht : P.underlying t = some .bool) (h : wtL P (n + 1) t xs) : ∃ b, xs = [.bool b] := by
  simp only [wtL, ht] at h
  exact h
theorem wtL_strG {P : Program} {n : Nat} {t : TypeId} {xs : List D} (ht : P.underlying t = some .string) (h : wtL P (n + 1) t xs) : ∃ s, xs = [.str s] := by
  simp only [wtL, ht] at h
  exact h
set_option maxRecDepth 100000 in
theorem named_of {n : Nat} {x : D} (h : wtV Tryd.prog (n + 4) 68 x) : IsNm x := by
  obtain ⟨parts, rfl, g⟩ := wtV_struct Tryd.underlying68 h
  cases g with | cons h1 g => cases g with | cons h2 g =>
  cases g
  obtain ⟨t, rfl⟩ := wtL_strG (n := n + 2) (t := 9) Tryd.underlying9 h1
  obtain ⟨v, rfl, _⟩ := wtL_intG (n := n + 2) (t := 3) Tryd.underlying3 h2
  exact ⟨t, v, rfl⟩
set_option maxRecDepth 100000 in
theorem nameds_of {n : Nat} {x : D} (h : wtV Tryd.prog (n + 5) 52 x) : ∃ ps, x = .lst 2 ps ∧ ∀ y ∈ ps, IsNm y := by
  obtain ⟨ys, e, hy⟩ := wtV_slice Tryd.underlying52 h
  have hs : szT Tryd.prog 68 = 2 := by kernel_rfl
  rw [hs] at e
  exact ⟨ys, e, fun y h' => named_of (hy y h')⟩
theorem params7 : Tryd.f7.params.toList = [3, 52, 9] := by kernel_rfl
theorem sk7 : lawSk C.P [3, 52, 9] = law11_KonstValues.sk := by kernel_rfl
set_option maxRecDepth 100000 in
theorem runs (xs : List D) (h : F2 (wtV C.P 8) Tryd.f7.params.toList xs) : ∃ n, run C n (.call 7 (lawSk C.P Tryd.f7.params.toList) xs) = some (true, [.bool true]) := by
  rw [params7, CP] at h
  rw [params7]
  cases h with | cons h1 h =>
  cases h with | cons h2 h =>
  cases h with | cons h3 h =>
  cases h
  obtain ⟨i, rfl, _⟩ := wtV_int Tryd.underlying3 h1
  obtain ⟨ps, rfl, hp⟩ := nameds_of h2
  obtain ⟨t, rfl⟩ := wtV_str Tryd.underlying9 h3
  obtain ⟨r, hr, n, hn⟩ := (konstValues_plain hp i t).run
  rw [hr] at hn
  exact ⟨n, by rw [sk7]; exact hn⟩
set_option maxRecDepth 100000 in
theorem contract (H : Type) (enc : TypeId × Value → H) (W : World) (base : Nat) (args : Array Value) (ds gs : List (DataW H)) (before : List MemPlace)
    (hval : ∀ (j : Nat) t v, Tryd.f7.params[j]? = some t → args[j]? = some v → Value.okWide Tryd.prog W .any base t v)
    (hW : DataW.Whole enc Tryd.prog Tryd.f7.params.toList Rows.konstValuesSpec.vars false W args.toList ds gs before) (hsh : W.ShapedOpen Tryd.prog) (hL : laidMet Tryd.prog laidL W) :
    Calls Tryd.prog 7 args W fun e W' => ∃ v, e = .returned v ∧ Rows.konstValuesSpec.post enc Tryd.prog Tryd.f7 false true false false W args v W' := by
  refine law_calls (c := C) (fn := Tryd.f7) names orcs Tryd.func7 (tb := 4) (by kernel_rfl) Tryd.underlying4 (by kernel_rfl) (gok hsh hL) (by kernel_rfl) (by kernel_rfl) (B := Rows.uptoBulkAll (ds ++ gs)) (fun xs h _ => runs xs h) meas hval rfl hW (Nat.le_refl _) ?_
  intro hg
  subst hg
  obtain ⟨p, q, hA, _⟩ := hW
  rw [params7] at hA
  obtain ⟨v0, vs0, d0, ds0, p0, q0, _, hd0, _, _, r0⟩ := trodAll_cons hA
  obtain ⟨v1, vs1, d1, ds1, p1, q1, _, hd1, _, _, r1⟩ := trodAll_cons r0
  obtain ⟨v2, vs2, d2, ds2, p2, q2, _, hd2, _, _, r2⟩ := trodAll_cons r1
  obtain ⟨_, h0, _⟩ := trodAll_nil r2
  rw [hd0, hd1, hd2, h0]
  rfl
set_option maxRecDepth 100000 in
theorem lifted (os : Os) (started : os.Started) (H : Type) (enc : TypeId × Value → H) :
    ReturnsInHanded {} Tryd.checked os 7 .any (fun w args => (Rows.konstValuesSpec.pre enc Tryd.prog Tryd.f7 [] false w args ∧ laidMet Tryd.prog laidL w) ∧ sizedMet enc Tryd.prog Tryd.f7 (OpenSpec.ofChange Rows.konstValuesSpec) false w args) (Rows.konstValuesSpec.post enc Tryd.prog Tryd.f7 false true false false) := by
  refine returns_laid (P := Tryd.checked) (X := fun w _ => laidMet Tryd.prog laidL w) (fun _ _ _ hh h => h.of_heap hh) own started (by kernel_rfl) Tryd.func7
    (ChangeSpec.witness_at (enc := enc) (C := Tryd.checked) (os := os) (X := fun w _ => laidMet Tryd.prog laidL w) false (laidWorld os) #[.int .i64 0, .slice none 0 0, .string ⟨#[]⟩] 8 rfl (by kernel_rfl) (by kernel_rfl) (by kernel_rfl) (by kernel_rfl) (by kernel_rfl) (laid_start os #[.int .i64 0, .slice none 0 0, .string ⟨#[]⟩])) ?_
  intro W base args ds gs before hval hW hsh hL
  exact contract H enc W base args ds gs before hval hW hsh hL
theorem over : Rows.konstValuesRow.holds Tryd.pinned (OpenSpec.ofChange Rows.konstValuesSpec) :=
  OpenClaim.holds_of_wide 7 Tryd.f7 rfl rfl rfl rfl rfl rfl rfl ⟨rfl, rfl, rfl, rfl, rfl⟩ rfl rfl rfl rfl rfl (by kernel_rfl) Tryd.func7 (by kernel_rfl)
    (of_decide_eq_true (by kernel_rfl)) (by unfold Func.isWrapper; first | (rw [if_pos (by decide +kernel)]; kernel_rfl) | (rw [if_neg (by decide +kernel)]; exact ⟨rfl, rfl⟩))
    (fun os started H enc _ => lifted os started H enc)
theorem no_standin : (Tryd.f7.params.toList.all fun t => !(Tryd.prog.wantsStandIn t)) = true := by kernel_rfl
end Claim
theorem konstValues_holds : Rows.KonstValuesCardSaid :=
  Claim7.holds_tied_plain_at .later [] [.data, .data, .data] true (true, "a0a8ad18c30f4d1da7f8f4f08caf43ffef321054548cf3439bd248915d28439b") false
    Claim.over (fun _ h => by cases h) (by kernel_rfl) (fun _ h => by cases h) konstValues_row_tie rfl ⟨rfl, rfl⟩ (by kernel_rfl) rfl
    (fun f fn hf hfn => by
      obtain rfl : f = 7 := Option.some.inj ((show Tryd.prog.funcNamed "sluicegate/sluicegatelaw11.KonstValues" = some 7 by kernel_rfl).symm.trans hf) |>.symm
      obtain rfl : fn = Tryd.f7 := (Option.some.inj (Tryd.func7.symm.trans hfn)).symm
      refine ⟨by kernel_rfl, fun j t ht => ?_⟩
      have hm : t ∈ Tryd.f7.params.toList := List.mem_of_getElem? (by rw [Array.getElem?_toList]; exact ht)
      have := List.all_eq_true.1 Claim.no_standin t hm
      exact (by simpa using this : Tryd.prog.wantsStandIn t = false))
    (by kernel_rfl)
end Go.Proofs.YtkjocbdjenmegaaDoor
