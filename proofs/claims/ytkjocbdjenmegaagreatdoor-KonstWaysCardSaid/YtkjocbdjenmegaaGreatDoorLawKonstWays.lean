/- For all bytes, numbers and lists of names KonstWays returns true and leaves its arguments as they were; the three laid tables are tied to the program. No condition. -/
import Derived.Test.YtkjocbdjenmegaaGreatDoorDoorLawZ
import Derived.Test.YtkjocbdjenmegaaGreatDoorKnO
import Derived.Test.YtkjocbdjenmegaaGreatDoorTie
import Derived.Test.YtkjocbdjenmegaaGreatDoorCards
namespace Go.Proofs.YtkjocbdjenmegaaGreatDoor
open Go.AE
set_option linter.unusedVariables false
open Go.ChangeShapes Go.WideShapes Go.ChangeAt Go.RowKit
namespace Claim
theorem wtL_structG {P : Program} {n : Nat} {t : TypeId} {xs : List D} {fs : Array Field} (ht : P.underlying t = some (.struct fs)) (h : wtL P (n + 1) t xs) : ∃ parts : List (List D), xs = parts.flatten ∧ F2 (fun f p => wtL P n f.type p) fs.toList parts := by
  simp only [wtL, ht] at h
  exact h
theorem wtL_intG {P : Program} {n : Nat} {t : TypeId} {xs : List D} {k : IntKind} (ht : P.underlying t = some (.int k)) (h : wtL P (n + 1) t xs) : ∃ i : Int, xs = [.int k i] ∧ (Lit.int k i).wf = true := by
  simp only [wtL, ht] at h
  exact h
theorem wtL_boolG {P : Program} {n : Nat} {t : TypeId} {xs : List D} (ht : P.underlying t = some .bool) (h : wtL P (n + 1) t xs) : ∃ b, xs = [.bool b] := by
  simp only [wtL, ht] at h
  exact h
theorem wtL_strG {P : Program} {n : Nat} {t : TypeId} {xs : List D} (ht : P.underlying t = some .string) (h : wtL P (n + 1) t xs) : ∃ s, xs = [.str s] := by
  simp only [wtL, ht] at h
  exact h
set_option maxRecDepth 100000 in
theorem bytes_of {n : Nat} {x : D} (h : wtV Tryz.prog (n + 2) 22 x) : ∃ b, x = .lst 1 b ∧ Bytes b := by
  obtain ⟨ys, e, hy⟩ := wtV_slice Tryz.underlying22 h
  have hs : szT Tryz.prog 5 = 1 := by kernel_rfl
  rw [hs] at e
  refine ⟨ys, e, fun y h' => ?_⟩
  obtain ⟨i, e1, e2⟩ := wtV_int Tryz.underlying5 (hy y h')
  obtain ⟨h1, h2⟩ := wf_u8 e2
  exact ⟨i, e1, h1, h2⟩
set_option maxRecDepth 100000 in
theorem named_of {n : Nat} {x : D} (h : wtV Tryz.prog (n + 4) 58 x) : IsNm x := by
  obtain ⟨parts, rfl, g⟩ := wtV_struct Tryz.underlying58 h
  cases g with | cons h1 g => cases g with | cons h2 g =>
  cases g
  obtain ⟨t, rfl⟩ := wtL_strG (n := n + 2) (t := 9) Tryz.underlying9 h1
  obtain ⟨v, rfl, _⟩ := wtL_intG (n := n + 2) (t := 3) Tryz.underlying3 h2
  exact ⟨t, v, rfl⟩
set_option maxRecDepth 100000 in
theorem nameds_of {n : Nat} {x : D} (h : wtV Tryz.prog (n + 5) 23 x) : ∃ ps, x = .lst 2 ps ∧ ∀ y ∈ ps, IsNm y := by
  obtain ⟨ys, e, hy⟩ := wtV_slice Tryz.underlying23 h
  have hs : szT Tryz.prog 58 = 2 := by kernel_rfl
  rw [hs] at e
  exact ⟨ys, e, fun y h' => named_of (hy y h')⟩
theorem params5 : Tryz.f5.params.toList = [22, 3, 23] := by kernel_rfl
theorem sk5 : lawSk C.P [22, 3, 23] = law11_KonstWays.sk := by kernel_rfl
set_option maxRecDepth 100000 in
theorem runs (xs : List D) (h : F2 (wtV C.P 8) Tryz.f5.params.toList xs) : ∃ n, run C n (.call 5 (lawSk C.P Tryz.f5.params.toList) xs) = some (true, [.bool true]) := by
  rw [params5, CP] at h
  rw [params5]
  cases h with | cons h1 h =>
  cases h with | cons h2 h =>
  cases h with | cons h3 h =>
  cases h
  obtain ⟨b, rfl, hb⟩ := bytes_of h1
  obtain ⟨i, rfl, _⟩ := wtV_int Tryz.underlying3 h2
  obtain ⟨ps, rfl, hp⟩ := nameds_of h3
  obtain ⟨r, hr, n, hn⟩ := (konstWays_plain hb hp i).run
  rw [hr] at hn
  exact ⟨n, by rw [sk5]; exact hn⟩
set_option maxRecDepth 100000 in
theorem contract (H : Type) (enc : TypeId × Value → H) (W : World) (base : Nat) (args : Array Value) (ds gs : List (DataW H)) (before : List MemPlace)
    (hval : ∀ (j : Nat) t v, Tryz.f5.params[j]? = some t → args[j]? = some v → Value.okWide Tryz.prog W .any base t v)
    (hW : DataW.Whole enc Tryz.prog Tryz.f5.params.toList Rows.konstWaysSpec.vars false W args.toList ds gs before) (hsh : W.ShapedOpen Tryz.prog) (hL : laidMet Tryz.prog laidL W) :
    Calls Tryz.prog 5 args W fun e W' => ∃ v, e = .returned v ∧ Rows.konstWaysSpec.post enc Tryz.prog Tryz.f5 false true false false W args v W' := by
  refine law_calls (c := C) (fn := Tryz.f5) names orcs Tryz.func5 (tb := 4) (by kernel_rfl) Tryz.underlying4 (by kernel_rfl) (gok hsh hL) (by kernel_rfl) (by kernel_rfl) (B := Rows.uptoBulkAll (ds ++ gs)) (fun xs h _ => runs xs h) meas hval rfl hW (Nat.le_refl _) ?_
  intro hg
  subst hg
  obtain ⟨p, q, hA, _⟩ := hW
  rw [params5] at hA
  obtain ⟨v0, vs0, d0, ds0, p0, q0, _, hd0, _, _, r0⟩ := trodAll_cons hA
  obtain ⟨v1, vs1, d1, ds1, p1, q1, _, hd1, _, _, r1⟩ := trodAll_cons r0
  obtain ⟨v2, vs2, d2, ds2, p2, q2, _, hd2, _, _, r2⟩ := trodAll_cons r1
  obtain ⟨_, h0, _⟩ := trodAll_nil r2
  rw [hd0, hd1, hd2, h0]
  rfl
set_option maxRecDepth 100000 in
theorem lifted (os : Os) (started : os.Started) (H : Type) (enc : TypeId × Value → H) :
    ReturnsInHanded {} Tryz.checked os 5 .any (fun w args => (Rows.konstWaysSpec.pre enc Tryz.prog Tryz.f5 [] false w args ∧ laidMet Tryz.prog laidL w) ∧ sizedMet enc Tryz.prog Tryz.f5 (OpenSpec.ofChange Rows.konstWaysSpec) false w args) (Rows.konstWaysSpec.post enc Tryz.prog Tryz.f5 false true false false) := by
  refine returns_laid (P := Tryz.checked) (X := fun w _ => laidMet Tryz.prog laidL w) (fun _ _ _ hh h => h.of_heap hh) own started (by kernel_rfl) Tryz.func5
    (ChangeSpec.witness_at (enc := enc) (C := Tryz.checked) (os := os) (X := fun w _ => laidMet Tryz.prog laidL w) false (laidWorld os) #[.slice none 0 0, .int .i64 0, .slice none 0 0] 8 rfl (by kernel_rfl) (by kernel_rfl) (by kernel_rfl) (by kernel_rfl) (by kernel_rfl) (laid_start os #[.slice none 0 0, .int .i64 0, .slice none 0 0])) ?_
  intro W base args ds gs before hval hW hsh hL
  exact contract H enc W base args ds gs before hval hW hsh hL
theorem over : Rows.konstWaysRow.holds Tryz.pinned (OpenSpec.ofChange Rows.konstWaysSpec) :=
  OpenClaim.holds_of_wide 5 Tryz.f5 rfl rfl rfl rfl rfl rfl rfl ⟨rfl, rfl, rfl, rfl, rfl⟩ rfl rfl rfl rfl rfl (by kernel_rfl) Tryz.func5 (by kernel_rfl)
    (of_decide_eq_true (by kernel_rfl)) (by unfold Func.isWrapper; first | (rw [if_pos (by decide +kernel)]; kernel_rfl) | (rw [if_neg (by decide +kernel)]; exact ⟨rfl, rfl⟩))
    (fun os started H enc _ => lifted os started H enc)
theorem no_standin : (Tryz.f5.params.toList.all fun t => !(Tryz.prog.wantsStandIn t)) = true := by kernel_rfl
end Claim
theorem konstWays_holds : Rows.KonstWaysCardSaid :=
  Claim7.holds_tied_plain_at .later [] [.data, .data, .data] true (true, "d3b8e5d393fff10850cbb6a3cfd4a6dfc098be39429070e8c039228da935defd") false
    Claim.over (fun _ h => by cases h) (by kernel_rfl) (fun _ h => by cases h) konstWays_row_tie rfl ⟨rfl, rfl⟩ (by kernel_rfl) rfl
    (fun f fn hf hfn => by
      obtain rfl : f = 5 := Option.some.inj ((show Tryz.prog.funcNamed "sluicegate/sluicegatelaw11.KonstWays" = some 5 by kernel_rfl).symm.trans hf) |>.symm
      obtain rfl : fn = Tryz.f5 := (Option.some.inj (Tryz.func5.symm.trans hfn)).symm
      refine ⟨by kernel_rfl, fun j t ht => ?_⟩
      have hm : t ∈ Tryz.f5.params.toList := List.mem_of_getElem? (by rw [Array.getElem?_toList]; exact ht)
      have := List.all_eq_true.1 Claim.no_standin t hm
      exact (by simpa using this : Tryz.prog.wantsStandIn t = false))
    (by kernel_rfl)
end Go.Proofs.YtkjocbdjenmegaaGreatDoor
