/- For every slice of pieces LexWords returns true and leaves its argument as it was. No condition. -/
import Derived.Test.YtmklmhdgnokcmaaWdLaw
import Derived.Test.YtmklmhdgnokcmaaWdD
namespace Go.Proofs.Ytmklmhdgnokcmaa
open Go.AE
set_option linter.unusedVariables false
open Go.ChangeShapes Go.WideShapes Go.ChangeAt Go.RowKit
namespace Claim
theorem wtL_structG {P : Program} {n : Nat} {t : TypeId} {xs : List D} {fs : Array Field} (ht : P.underlying t = some (.struct fs)) (h : wtL P (n + 1) t xs) : ∃ parts : List (List D), xs = parts.flatten ∧ F2 (fun f p => wtL P n f.type p) fs.toList parts := by
  simp only [wtL, ht] at h
  exact h
theorem wtL_intG {P : Program} {n : Nat} {t : TypeId} {xs : List D} {k : IntKind} (ht : P.underlying t = some (.int k)) (h : wtL P (n + 1) t xs) : ∃ i : Int, xs = [.int k i] ∧ (Lit.int k i).wf = true := by
  simp only [wtL, ht] at h
  exact h
theorem wtL_boolG {P : Program} {n : Nat} {t : TypeId} {xs : List D} (ht : P.underlying t = some .bool) (h : wtL P (n + 1) t xs) : ∃ b, xs = [.bool b] := by
  simp only [wtL, ht] at h
  exact h
theorem wtL_strG {P : Program} {n : Nat} {t : TypeId} {xs : List D} (ht : P.underlying t = some .string) (h : wtL P (n + 1) t xs) : ∃ s, xs = [.str s] := by
  simp only [wtL, ht] at h
  exact h
set_option maxRecDepth 100000 in
theorem pos_of {n : Nat} {p : List D} (h : wtL Try.prog (n + 2) 29 p) : ∃ a b c : Int, p = [.int .i64 a, .int .i64 b, .int .i64 c] := by
  obtain ⟨parts, rfl, g⟩ := wtL_structG Try.underlying29 h
  cases g with | cons h1 g => cases g with | cons h2 g => cases g with | cons h3 g =>
  cases g
  obtain ⟨a, rfl, _⟩ := wtL_intG (n := n) (t := 3) Try.underlying3 h1
  obtain ⟨b, rfl, _⟩ := wtL_intG (n := n) (t := 3) Try.underlying3 h2
  obtain ⟨c, rfl, _⟩ := wtL_intG (n := n) (t := 3) Try.underlying3 h3
  exact ⟨a, b, c, rfl⟩
set_option maxRecDepth 100000 in
theorem piece_of {n : Nat} {x : D} (h : wtV Try.prog (n + 4) 104 x) : ∃ L, IsP L x := by
  obtain ⟨parts, rfl, g⟩ := wtV_struct Try.underlying104 h
  cases g with | cons h1 g => cases g with | cons h2 g => cases g with | cons h3 g =>
  cases g
  obtain ⟨t, rfl⟩ := wtL_strG (n := n + 2) (t := 9) Try.underlying9 h1
  obtain ⟨a, b, c, rfl⟩ := pos_of (n := n + 1) h2
  obtain ⟨f, rfl⟩ := wtL_boolG (n := n + 2) (t := 4) Try.underlying4 h3
  exact ⟨t.length, t, a, b, c, f, rfl, Nat.le_refl _⟩
set_option maxRecDepth 100000 in
theorem pieces_of {n : Nat} {x : D} (h : wtV Try.prog (n + 5) 56 x) : ∃ ps, x = .lst 5 ps ∧ ∀ y ∈ ps, ∃ L, IsP L y := by
  obtain ⟨ys, e, hy⟩ := wtV_slice Try.underlying56 h
  have hs : szT Try.prog 104 = 5 := by kernel_rfl
  rw [hs] at e
  exact ⟨ys, e, fun y h' => piece_of (hy y h')⟩
theorem params6 : Try.f6.params.toList = [56] := by kernel_rfl
theorem sk6 : lawSk C.P [56] = law08_LexWords.sk := by kernel_rfl
set_option maxRecDepth 100000 in
theorem runs (xs : List D) (h : F2 (wtV C.P 8) Try.f6.params.toList xs) : ∃ n, run C n (.call 6 (lawSk C.P Try.f6.params.toList) xs) = some (true, [.bool true]) := by
  rw [params6, CP] at h
  rw [params6]
  cases h with | cons h1 h =>
  cases h
  obtain ⟨ps, rfl, hp⟩ := pieces_of h1
  obtain ⟨r, hr, n, hn⟩ := (lexWords_plain hp).run
  rw [hr] at hn
  exact ⟨n, by rw [sk6]; exact hn⟩
set_option maxRecDepth 100000 in
theorem contract (H : Type) (enc : TypeId × Value → H) (W : World) (base : Nat) (args : Array Value) (ds gs : List (DataW H)) (before : List MemPlace)
    (hval : ∀ (j : Nat) t v, Try.f6.params[j]? = some t → args[j]? = some v → Value.okWide Try.prog W .any base t v)
    (hW : DataW.Whole enc Try.prog Try.f6.params.toList Rows.lexWordsSpec.vars false W args.toList ds gs before) (hsh : W.ShapedOpen Try.prog) :
    Calls Try.prog 6 args W fun e W' => ∃ v, e = .returned v ∧ Rows.lexWordsSpec.post enc Try.prog Try.f6 false true false false W args v W' := by
  refine law_calls (c := C) (fn := Try.f6) names orcs Try.func6 (tb := 4) (by kernel_rfl) Try.underlying4 (by kernel_rfl) (gok hsh) (by kernel_rfl) (by kernel_rfl) (B := Rows.uptoBulkAll (ds ++ gs)) (fun xs h _ => runs xs h) meas hval rfl hW (Nat.le_refl _) ?_
  intro hg
  subst hg
  obtain ⟨p, q, hA, _⟩ := hW
  rw [params6] at hA
  obtain ⟨v0, vs0, d0, ds0, p0, q0, _, hd0, _, _, r0⟩ := trodAll_cons hA
  obtain ⟨_, h0, _⟩ := trodAll_nil r0
  rw [hd0, h0]
  rfl
set_option maxRecDepth 100000 in
theorem lifted (os : Os) (started : os.Started) (H : Type) (enc : TypeId × Value → H) :
    ReturnsInHanded {} Try.checked os 6 .any (Rows.lexWordsSpec.pre6 enc Try.prog Try.f6 Rows.lexWordsRow.domain false) (Rows.lexWordsSpec.post enc Try.prog Try.f6 false true false false) := by
  refine returnsInHanded_of_change_shaped (C := Try.checked) own started (by kernel_rfl) Try.func6
    (ChangeSpec.witness6 (enc := enc) (C := Try.checked) false ⟨#[], #[.slice none 0 0], []⟩ 8 (by kernel_rfl) (by kernel_rfl) (by kernel_rfl) (by kernel_rfl)) ?_
  intro W base args ds gs before hval hW _ _ hsh _
  exact contract H enc W base args ds gs before hval hW hsh
theorem over : Rows.lexWordsRow.holds Try.pinned (OpenSpec.ofChange Rows.lexWordsSpec) :=
  OpenClaim.holds_of_wide 6 Try.f6 rfl rfl rfl rfl rfl rfl rfl ⟨rfl, rfl, rfl, rfl, rfl⟩ rfl rfl rfl rfl rfl (by kernel_rfl) Try.func6 (by kernel_rfl)
    (of_decide_eq_true (by kernel_rfl)) (by unfold Func.isWrapper; first | (rw [if_pos (by decide +kernel)]; kernel_rfl) | (rw [if_neg (by decide +kernel)]; exact ⟨rfl, rfl⟩))
    (fun os started H enc _ => lifted os started H enc)
end Claim
theorem lexWords_holds : Rows.LexWordsSaid := Claim.over
end Go.Proofs.Ytmklmhdgnokcmaa
