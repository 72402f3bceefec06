/- The parser makes of an expression's words that expression, but for places. -/
import Derived.Test.YtalibicpmfbieaaGreatDoorPxC
namespace Go.Proofs.YtalibicpmfbieaaGreatDoor
open Go.AE
set_option linter.unusedVariables false
set_option linter.unusedSimpArgs false
theorem Ph.cast {F : PF} {l : List D} {i m m' : Nat} {R : D → Prop} {h : Nat} (H : Ph F l i m R h) (e : m = m') : Ph F l i m' R h := e ▸ H
theorem nm_tab : (nameT.all okN) = true := by kernel_rfl
theorem nm_okN {t : List UInt8} (h : t ∈ nameT) : okN t = true := List.all_eq_true.1 nm_tab t h
theorem okN_goodN {t : List UInt8} (h : okN t = true) : goodN t = true := by
  simp only [okN, Bool.and_eq_true] at h
  exact h.1.1.1.1
theorem fg_tab : (([[102], [103]] : List (List UInt8)).all okN) = true := by kernel_rfl
theorem op_tab : (opT.all fun o => opsT.contains o) = true := by kernel_rfl
theorem opT_opsT {o : List UInt8} (h : o ∈ opT) : o ∈ opsT := by have := List.all_eq_true.1 op_tab o h; simpa using this
theorem cu_tab : ((clT ++ opsT ++ [[63]]).all fun t => !(t == [91]) && !(t == [40])) = true := by kernel_rfl
theorem cu_name (t : List UInt8) (h : cu t = true) : (t == [91]) = false ∧ (t == [40]) = false := by
  have hm : t ∈ clT ++ opsT ++ [[63]] := by
    simp only [cu, Bool.or_eq_true, List.contains_iff_mem, beq_iff_eq] at h
    simp only [List.mem_append, List.mem_singleton]
    exact h
  have := List.all_eq_true.1 cu_tab t hm
  simpa using this
theorem op_cu {o : List UInt8} (h : o ∈ opsT) : cu o = true := by simp [cu, h]
def HX : Nat → Nat
  | 0 => 0
  | n + 1 => HX n + 2
section
variable {l : List D} (hl : l.length ≤ 1000000)
/-- A closing word that is no comma. -/
def Cl2 (l : List D) (e : Nat) : Prop := ∃ t a b c, l[e]? = some (tk 3 t a b c) ∧ cl t = true ∧ (t == [44]) = false
theorem Cl2.nx {e : Nat} (h : Cl2 l e) : Nx l e cl := by
  obtain ⟨t, a, b, c, h1, h2, _⟩ := h
  exact ⟨t, a, b, c, h1, h2⟩
theorem els_of {w : D → List Tk} {R : D → D → Prop} {h : Nat} (hR : ∀ x y, R x y → IsE y) {e : Nat} (he : Cl2 l e) : ∀ (r : List D) (y : D) (j : Nat), (∀ x ∈ y :: r, ∀ i, TokAt l i (w x) → Nx l (i + (w x).length) cl → Ph expF l i (w x).length (R x) h) →
    TokAt l j ((3, [44]) :: lW w (y :: r)) → e = j + 1 + (lW w (y :: r)).length → Els l h j ((y :: r).map fun x => ((w x).length, R x)) e
  | [], y, j, hP, ht, hj => by
    have ht : (∃ a b e, l[j]? = some (tk 3 [44] a b e)) ∧ TokAt l (j + 1) (w y) := ht
    have hj : e = j + 1 + (w y).length := hj
    subst hj
    exact ⟨ht.1, hP y (List.mem_cons_self ..) (j + 1) ht.2 he.nx, hR y, rfl⟩
  | z :: r, y, j, hP, ht, hj => by
    have ht : (∃ a b e, l[j]? = some (tk 3 [44] a b e)) ∧ TokAt l (j + 1) (w y ++ ((3, [44]) :: lW w (z :: r))) := ht
    have hj : e = j + 1 + (w y ++ ((3, [44]) :: lW w (z :: r))).length := hj
    obtain ⟨h1, h2⟩ := ht
    obtain ⟨h3, h4⟩ := TokAt_app.1 h2
    obtain ⟨a, b, c, hc⟩ := h4.1
    refine ⟨h1, hP y (List.mem_cons_self ..) (j + 1) h3 ⟨[44], a, b, c, hc, rfl⟩, hR y, ?_⟩
    refine els_of hR he r z (j + 1 + (w y).length) (fun x hx => hP x (List.mem_cons_of_mem _ hx)) h4 ?_
    rw [hj, List.length_append, List.length_cons]; omega
theorem F2_map {R : D → D → Prop} {w : D → List Tk} : ∀ {xs ys : List D}, F2 (fun (p : Nat × (D → Prop)) y => p.2 y) (xs.map fun x => ((w x).length, R x)) ys → F2 R xs ys
  | [], _, h => by cases h; exact .nil
  | x :: xs, _, h => by cases h with | cons h1 h2 => exact .cons h1 (F2_map h2)
include hl
/-- A list of expressions. -/
theorem list_of {w : D → List Tk} {R : D → D → Prop} {h : Nat} (hR : ∀ x y, R x y → IsE y) {x : D} {r : List D} {i : Nat} (hr : r.length ≤ 900) (hP : ∀ x' ∈ x :: r, ∀ i, TokAt l i (w x') → Nx l (i + (w x').length) cl → Ph expF l i (w x').length (R x') h)
    (ht : TokAt l i (lW w (x :: r))) (he : Cl2 l (i + (lW w (x :: r)).length)) : PhL l i (lW w (x :: r)).length (fun ys => F2 R (x :: r) ys) h := by
  have fin : ∀ {es}, Els l h (i + (w x).length) es (i + (lW w (x :: r)).length) → es = r.map (fun x => ((w x).length, R x)) → Ph expF l i (w x).length (R x) h → PhL l i (lW w (x :: r)).length (fun ys => F2 R (x :: r) ys) h := by
    intro es hE hes H
    have he2 := he
    obtain ⟨t, a, b, c, h1, _, h3⟩ := he2
    have := exprs_of hl (hR x) H hE (by rw [hes, List.length_map]; exact hr) ⟨t, a, b, c, h1, h3⟩ rfl
    intro d c p0 p1 p2 hd hd2
    refine (this d c p0 p1 p2 hd hd2).mono fun r' hr' => ?_
    obtain ⟨_, ⟨y, ys, rfl, hy, hf⟩, e⟩ := hr'
    subst hes
    exact ⟨_, .cons hy (F2_map hf), e⟩
  cases r with
  | nil =>
    have ht : TokAt l i (w x) := ht
    exact fin (es := []) rfl rfl (hP x (List.mem_cons_self ..) i ht he.nx)
  | cons z r =>
    have ht : TokAt l i (w x ++ ((3, [44]) :: lW w (z :: r))) := ht
    obtain ⟨h1, h2⟩ := TokAt_app.1 ht
    obtain ⟨a, b, c, hc⟩ := h2.1
    refine fin (els_of hR he r z (i + (w x).length) (fun x' hx => hP x' (List.mem_cons_of_mem _ hx)) h2 ?_) rfl (hP x (List.mem_cons_self ..) i h1 ⟨[44], a, b, c, hc, rfl⟩)
    show i + (w x ++ ((3, [44]) :: lW w (z :: r))).length = _
    rw [List.length_append, List.length_cons]; omega
omit hl in
/-- The first word. -/
theorem first_tok : ∀ (n : Nat) (x : D), wfE n x → ∀ i, TokAt l i (wE n x) → ∃ k t a b e, l[i]? = some (tk k t a b e) ∧ (opE x = false → k ≠ 3 ∨ t = [40] ∨ t = [123])
  | 0, _, h, _, _ => h.elim
  | n + 1, x, h, i, ht => by
    obtain ⟨k, t, ar, rfl, hs, ha⟩ := h
    rw [wE_E] at ht
    have one : ∀ (k' : Int) (t' : List UInt8) (ws : List Tk), TokAt l i ((k', t') :: ws) → (opE (E k t ar) = false → k' ≠ 3 ∨ t' = [40] ∨ t' = [123]) → ∃ k1 t1 a b e, l[i]? = some (tk k1 t1 a b e) ∧ (opE (E k t ar) = false → k1 ≠ 3 ∨ t1 = [40] ∨ t1 = [123]) := by
      intro k' t' ws h1 h2
      obtain ⟨⟨a, b, e, h3⟩, _⟩ := h1
      exact ⟨_, _, a, b, e, h3, h2⟩
    have arg : ∀ (x : D) (ws : List Tk), wfE n x → opE (E k t ar) = true → TokAt l i (aW (wE n) x ++ ws) → ∃ k1 t1 a b e, l[i]? = some (tk k1 t1 a b e) ∧ (opE (E k t ar) = false → k1 ≠ 3 ∨ t1 = [40] ∨ t1 = [123]) := by
      intro x ws hx ho h1
      have h1 := (TokAt_app.1 h1).1
      unfold aW at h1
      cases hop : opE x with
      | true =>
        rw [hop] at h1
        obtain ⟨⟨a, b, e, h3⟩, _⟩ := h1
        exact ⟨_, _, a, b, e, h3, fun h => by rw [ho] at h; cases h⟩
      | false =>
        rw [hop] at h1
        obtain ⟨k1, t1, a, b, e, h2, _⟩ := first_tok n x hx i h1
        exact ⟨k1, t1, a, b, e, h2, fun h => by rw [ho] at h; cases h⟩
    rcases hs with ⟨rfl, _, hm⟩ | ⟨rfl, _, hm⟩ | ⟨rfl, _, hm⟩ | ⟨rfl, _, hm⟩ | ⟨rfl, _, hm⟩ | ⟨rfl, _, hm, hm2⟩ | ⟨rfl, _, hm, hm2⟩ | ⟨rfl, _, hm⟩ | ⟨rfl, _, hm⟩ | ⟨rfl, _, hm, hm2⟩
    · exact one 2 t [] ht fun _ => .inl (by decide)
    · exact one 1 t [] ht fun _ => .inl (by decide)
    · exact one 3 t _ ht fun h => by cases h
    · match ar, hm, ha, arg, ht with
      | [x, y], _, ha, arg, ht => exact arg x _ (ha x (by simp)) rfl ht
    · match ar, hm, ha, arg, ht with
      | [x, y, z], _, ha, arg, ht => exact arg x _ (ha x (by simp)) rfl ht
    · exact one 3 [123] _ ht fun _ => .inr (.inr rfl)
    · exact one 3 [123] _ ht fun _ => .inr (.inr rfl)
    · exact one 1 t _ ht fun _ => .inl (by decide)
    · exact one 1 t _ ht fun _ => .inl (by decide)
    · exact one 1 t _ ht fun _ => .inl (by decide)
omit hl in
theorem first_arg {n : Nat} {x : D} (h : wfE n x) {i : Nat} (ht : TokAt l i (aW (wE n) x)) : ∃ k t a b e, l[i]? = some (tk k t a b e) ∧ (k ≠ 3 ∨ t = [40] ∨ t = [123]) := by
  unfold aW at ht
  cases hop : opE x with
  | true =>
    rw [hop] at ht
    obtain ⟨⟨a, b, e, h3⟩, _⟩ := ht
    exact ⟨_, _, a, b, e, h3, .inr (.inl rfl)⟩
  | false =>
    rw [hop] at ht
    obtain ⟨k1, t1, a, b, e, h2, h3⟩ := first_tok n x h i ht
    exact ⟨k1, t1, a, b, e, h2, h3 hop⟩
/-- What the induction carries: as an operand (where it is no operator's), and as an expression. -/
def Core (l : List D) (n : Nat) (x : D) : Prop := ∀ i, TokAt l i (wE n x) →
  (opE x = false → Nx l (i + (wE n x).length) cu → Ph oneF l i (wE n x).length (Sm n x) (HX n - 1)) ∧ (Nx l (i + (wE n x).length) cl → Ph expF l i (wE n x).length (Sm n x) (HX n))
theorem arg_of' {n : Nat} {x : D} (hx : wfE n x) (H : Core l n x) {i : Nat} (ht : TokAt l i (aW (wE n) x)) (hn : Nx l (i + (aW (wE n) x).length) cu) : Ph unF l i (aW (wE n) x).length (Sm n x) (HX n) := by
  have hf := first_arg hx ht
  refine unary_of_one (fun y => Sm_form) hf ?_
  unfold aW at ht hn ⊢
  cases hop : opE x with
  | true =>
    rw [hop] at ht hn
    have ht : (∃ a b e, l[i]? = some (tk 3 [40] a b e)) ∧ TokAt l (i + 1) (wE n x ++ [(3, [41])]) := ht
    obtain ⟨h1, h2⟩ := ht
    obtain ⟨h3, h4⟩ := TokAt_app.1 h2
    obtain ⟨h5, _⟩ := h4
    have hc := h5
    obtain ⟨a, b, e, h6⟩ := h5
    exact (one_paren hl (fun y => Sm_form) h1 ((H (i + 1) h3).2 ⟨[41], a, b, e, h6, rfl⟩) hc).cast (by show 1 + (wE n x).length + 1 = ([(3, [40])] ++ (wE n x ++ [(3, [41])])).length; simp only [List.length_append, List.length_cons, List.length_nil]; omega)
  | false =>
    rw [hop] at ht hn
    exact ((H i ht).1 hop hn).mono (fun _ h => h) (by omega)
omit hl in
theorem expr_unary {i m : Nat} {R : D → Prop} {h : Nat} (hl : l.length ≤ 1000000) (hR : ∀ y, R y → IsE y) (hx : ∃ k t a b e, l[i]? = some (tk k t a b e)) (hn : Nx l (i + m) cl) (H : Ph unF l i m R h) : Ph expF l i m R (h + 1) :=
  expr_of hl hR hx hn (level_of hR hn hx 10 0 (by decide) (fun t ht => cl_noLev ht _) (level_unary hR H))
end
end Go.Proofs.YtalibicpmfbieaaGreatDoor
