/- The parser makes of an expression's words that expression, but for places: the induction. -/
import Derived.Test.YtalibicpmfbieaaGreatDoorPxD
namespace Go.Proofs.YtalibicpmfbieaaGreatDoor
open Go.AE
set_option linter.unusedVariables false
set_option linter.unusedSimpArgs false
section
variable {l : List D} (hl : l.length ≤ 1000000)
theorem Sm_mk {n : Nat} {k : Int} {t : List UInt8} {ar ar' : List D} (a b e : Int) (h : F2 (Sm n) ar ar') : Sm (n + 1) (E k t ar) (PE k a b e t ar') := ⟨k, t, ar, a, b, e, ar', rfl, rfl, h⟩
theorem cl_nx {i : Nat} (h : Nx l i cl) : Nx l i cu := h.mono cl_cu
theorem nx_of {i : Nat} {t : List UInt8} {p : List UInt8 → Bool} (h : ∃ a b e, l[i]? = some (tk 3 t a b e)) (hp : p t = true) : Nx l i p := by
  obtain ⟨a, b, e, h⟩ := h
  exact ⟨t, a, b, e, h, hp⟩
theorem any_of {i : Nat} {k : Int} {t : List UInt8} (h : ∃ a b e, l[i]? = some (tk k t a b e)) : ∃ k t a b e, l[i]? = some (tk k t a b e) := by
  obtain ⟨a, b, e, h⟩ := h
  exact ⟨k, t, a, b, e, h⟩
theorem any_of' {i : Nat} {p : Int → List UInt8 → Prop} (h : ∃ k t a b e, l[i]? = some (tk k t a b e) ∧ p k t) : ∃ k t a b e, l[i]? = some (tk k t a b e) := by
  obtain ⟨k, t, a, b, e, h, _⟩ := h
  exact ⟨k, t, a, b, e, h⟩
include hl
theorem core_one {n i m : Nat} {x : D} (hf : ∃ k t a b e, l[i]? = some (tk k t a b e) ∧ (k ≠ 3 ∨ t = [40] ∨ t = [123])) (O : Nx l (i + m) cu → Ph oneF l i m (Sm (n + 1) x) (HX n)) :
    (opE x = false → Nx l (i + m) cu → Ph oneF l i m (Sm (n + 1) x) (HX (n + 1) - 1)) ∧ (Nx l (i + m) cl → Ph expF l i m (Sm (n + 1) x) (HX (n + 1))) := by
  refine ⟨fun _ hn => (O hn).mono (fun _ h => h) (by simp only [HX]; omega), fun hn => ?_⟩
  exact (expr_unary hl (fun y => Sm_form) (any_of' hf) hn (unary_of_one (fun y => Sm_form) hf (O (cl_nx hn)))).mono (fun _ h => h) (by simp only [HX]; omega)
theorem un_gen {n i h : Nat} {t : List UInt8} {x : D} (ht : t ∈ unT) (hx : ∃ a b e, l[i]? = some (tk 3 t a b e)) {m : Nat} (U : Ph unF l (i + 1) m (Sm n x) h) : Ph unF l i (1 + m) (Sm (n + 1) (E 3 t [x])) (h + 1) := by
  have hne : (t == [43]) = false := by
    have := List.all_eq_true.1 un_sub t ht
    simpa using this
  refine (unary_sign hl (fun y => Sm_form) (List.mem_cons_of_mem _ ht) hx U).mono (fun y hy => ?_) (Nat.le_refl _)
  rw [hne] at hy
  obtain ⟨a, b, e, u, rfl, hu⟩ := hy
  exact Sm_mk a b e (.cons hu .nil)
theorem bin_gen {n i m1 m2 h : Nat} {o : List UInt8} {x y : D} (ho : o ∈ opT) (hx : ∃ k t a b e, l[i]? = some (tk k t a b e)) (U1 : Ph unF l i m1 (Sm n x) h) (hop : ∃ a b e, l[i + m1]? = some (tk 3 o a b e)) (hx2 : ∃ k t a b e, l[i + m1 + 1]? = some (tk k t a b e))
    (U2 : Ph unF l (i + m1 + 1) m2 (Sm n y) h) (hn : Nx l (i + (m1 + 1 + m2)) cl) : Ph expF l i (m1 + 1 + m2) (Sm (n + 1) (E 4 o [x, y])) (h + 1) := by
  have L := level_bin hl (opT_opsT ho) (fun y => Sm_form) (fun y => Sm_form) hx U1 hop hx2 U2 (by rw [show i + m1 + 1 + m2 = i + (m1 + 1 + m2) from by omega]; exact hn)
  have L2 : Ph (lvF 0) l i (m1 + 1 + m2) (Sm (n + 1) (E 4 o [x, y])) h := L.mono (fun z ⟨a, b, e, u, v, hz, hu, hv⟩ => by subst hz; exact Sm_mk a b e (.cons hu (.cons hv .nil))) (Nat.le_refl _)
  exact expr_of hl (fun y => Sm_form) hx hn L2
theorem cond_gen {n i m1 m2 m3 h : Nat} {x y z : D} (hx : ∃ k t a b e, l[i]? = some (tk k t a b e)) (U1 : Ph unF l i m1 (Sm n x) h) (hq : ∃ a b e, l[i + m1]? = some (tk 3 [63] a b e)) (hx2 : ∃ k t a b e, l[i + m1 + 1]? = some (tk k t a b e))
    (U2 : Ph unF l (i + m1 + 1) m2 (Sm n y) h) (hc : ∃ a b e, l[i + m1 + 1 + m2]? = some (tk 3 [58] a b e)) (hx3 : ∃ k t a b e, l[i + m1 + 1 + m2 + 1]? = some (tk k t a b e)) (U3 : Ph unF l (i + m1 + 1 + m2 + 1) m3 (Sm n z) h) (hn : Nx l (i + (m1 + 1 + m2 + 1 + m3)) cl) :
    Ph expF l i (m1 + 1 + m2 + 1 + m3) (Sm (n + 1) (E 5 [] [x, y, z])) (h + 2) := by
  have L1 : Ph (lvF 0) l i m1 (Sm n x) h := level_of (fun y => Sm_form) (p := fun t => t == [63]) (nx_of hq rfl) hx 10 0 (by decide) (fun t ht => by rw [eq_of_beq ht]; exact q_noLev _) (level_unary (fun y => Sm_form) U1)
  have E2 := expr_unary hl (fun y => Sm_form) hx2 (nx_of hc rfl) U2
  have E3 := expr_unary hl (fun y => Sm_form) hx3 (by rw [show i + m1 + 1 + m2 + 1 + m3 = i + (m1 + 1 + m2 + 1 + m3) from by omega]; exact hn) U3
  refine (expr_cond hl (fun y => Sm_form) (fun y => Sm_form) (fun y => Sm_form) hx (L1.mono (fun _ h => h) (Nat.le_succ h)) hq E2 hc E3).mono (fun w hw => ?_) (Nat.le_refl _)
  obtain ⟨a, b, e, u, v, w, rfl, hu, hv, hw⟩ := hw
  exact Sm_mk a b e (.cons hu (.cons hv (.cons hw .nil)))
omit hl in
theorem first_arg' {n : Nat} {x : D} (h : wfE n x) {i : Nat} (ht : TokAt l i (aW (wE n) x)) : ∃ k t a b e, l[i]? = some (tk k t a b e) := any_of' (first_arg h ht)
omit hl in
theorem F2_len {R : D → D → Prop} {xs ys : List D} (h : F2 R xs ys) {m : Nat} (hm : xs.length ≤ m) : ys.length ≤ m := h.length ▸ hm
/-- A list's words, read. -/
theorem listP {n : Nat} (ih : ∀ x, wfE n x → Core l n x) {ar : List D} (h1 : 1 ≤ ar.length) (h2 : ar.length ≤ 900) (ha : ∀ a ∈ ar, wfE n a) {i : Nat} (ht : TokAt l i (lW (wE n) ar)) (he : Cl2 l (i + (lW (wE n) ar).length)) : PhL l i (lW (wE n) ar).length (fun ys => F2 (Sm n) ar ys) (HX n) := by
  match ar, h1 with
  | x :: r, _ => exact list_of hl (fun x y => Sm_form) (by simp only [List.length_cons] at h2; omega) (fun x' hx' j h1 h2 => (ih x' (ha x' hx') j h1).2 h2) ht he
theorem core_succ {n : Nat} (ih : ∀ x, wfE n x → Core l n x) : ∀ x, wfE (n + 1) x → Core l (n + 1) x := by
  intro x hx i ht
  have hf := first_tok (n + 1) x hx i ht
  obtain ⟨k, t, ar, rfl, hs, ha⟩ := hx
  rw [wE_E] at ht ⊢
  have argU : ∀ x ∈ ar, ∀ {i}, TokAt l i (aW (wE n) x) → Nx l (i + (aW (wE n) x).length) cu → Ph unF l i (aW (wE n) x).length (Sm n x) (HX n) := fun x hx i h1 h2 => arg_of' hl (ha x hx) (ih x (ha x hx)) h1 h2
  rcases hs with ⟨rfl, _, hm⟩ | ⟨rfl, hn, hm⟩ | ⟨rfl, ho, hm⟩ | ⟨rfl, ho, hm⟩ | ⟨rfl, h0, hm⟩ | ⟨rfl, h0, hm, hm2⟩ | ⟨rfl, h0, hm, hm2⟩ | ⟨rfl, hn, hm⟩ | ⟨rfl, hn, hm⟩ | ⟨rfl, hn, hm, hm2⟩
  · match ar, hm, ht with
    | [], _, ht =>
      have ht : (∃ a b e, l[i]? = some (tk 2 t a b e)) ∧ True := ht
      obtain ⟨a, b, e, h1⟩ := ht.1
      exact core_one hl (m := 1) ⟨_, _, a, b, e, h1, .inl (by decide)⟩ fun _ => (one_num hl ht.1).mono (fun y ⟨a, b, e, hy⟩ => by subst hy; exact Sm_mk a b e .nil) (Nat.zero_le _)
  · match ar, hm, ht with
    | [], _, ht =>
      have ht : (∃ a b e, l[i]? = some (tk 1 t a b e)) ∧ True := ht
      obtain ⟨a, b, e, h1⟩ := ht.1
      exact core_one hl (m := 1) ⟨_, _, a, b, e, h1, .inl (by decide)⟩ fun hx => (one_name hl (nm_okN hn) ht.1 hx cu_name).mono (fun y ⟨a, b, e, hy⟩ => by subst hy; exact Sm_mk a b e .nil) (Nat.zero_le _)
  · match ar, hm, ht, ha, argU with
    | [x], _, ht, ha, argU =>
      have ht : (∃ a b e, l[i]? = some (tk 3 t a b e)) ∧ TokAt l (i + 1) (aW (wE n) x) := ht
      refine ⟨fun h => (by cases h), fun hx => ?_⟩
      have hx : Nx l (i + ([(3, t)] ++ aW (wE n) x).length) cl := hx
      have e : ([((3 : Int), t)] ++ aW (wE n) x).length = 1 + (aW (wE n) x).length := by simp only [List.length_append, List.length_cons, List.length_nil]
      show Ph expF l i ([((3 : Int), t)] ++ aW (wE n) x).length _ _
      rw [e] at hx ⊢
      have U := argU x (List.mem_cons_self ..) ht.2 (cl_nx (by rw [show i + 1 + (aW (wE n) x).length = i + (1 + (aW (wE n) x).length) from by omega]; exact hx))
      exact expr_unary hl (fun y => Sm_form) (any_of ht.1) hx (un_gen hl ho ht.1 U)
  · match ar, hm, ht, ha, argU with
    | [x, y], _, ht, ha, argU =>
      refine ⟨fun h => (by cases h), fun hx => ?_⟩
      have ht : TokAt l i (aW (wE n) x ++ ([(3, t)] ++ aW (wE n) y)) := ht
      have hx : Nx l (i + (aW (wE n) x ++ ([(3, t)] ++ aW (wE n) y)).length) cl := hx
      have e : (aW (wE n) x ++ ([((3 : Int), t)] ++ aW (wE n) y)).length = (aW (wE n) x).length + 1 + (aW (wE n) y).length := by simp only [List.length_append, List.length_cons, List.length_nil]; omega
      show Ph expF l i (aW (wE n) x ++ ([((3 : Int), t)] ++ aW (wE n) y)).length _ _
      rw [e] at hx ⊢
      obtain ⟨h1, h2⟩ := TokAt_app.1 ht
      have h2 : (∃ a b e, l[i + (aW (wE n) x).length]? = some (tk 3 t a b e)) ∧ TokAt l (i + (aW (wE n) x).length + 1) (aW (wE n) y) := h2
      have U1 := argU x (by simp) h1 (nx_of h2.1 (op_cu (opT_opsT ho)))
      have U2 := argU y (by simp) h2.2 (cl_nx (by rw [show i + (aW (wE n) x).length + 1 + (aW (wE n) y).length = i + ((aW (wE n) x).length + 1 + (aW (wE n) y).length) from by omega]; exact hx))
      exact (bin_gen hl ho (first_arg' (ha x (by simp)) h1) U1 h2.1 (first_arg' (ha y (by simp)) h2.2) U2 hx).mono (fun _ h => h) (by simp only [HX]; omega)
  · match ar, hm, ht, ha, argU with
    | [x, y, z], _, ht, ha, argU =>
      subst h0
      refine ⟨fun h => (by cases h), fun hx => ?_⟩
      have ht : TokAt l i (aW (wE n) x ++ ([(3, [63])] ++ (aW (wE n) y ++ ([(3, [58])] ++ aW (wE n) z)))) := ht
      have hx : Nx l (i + (aW (wE n) x ++ ([(3, [63])] ++ (aW (wE n) y ++ ([(3, [58])] ++ aW (wE n) z)))).length) cl := hx
      have e : (aW (wE n) x ++ ([((3 : Int), ([63] : List UInt8))] ++ (aW (wE n) y ++ ([((3 : Int), ([58] : List UInt8))] ++ aW (wE n) z)))).length = (aW (wE n) x).length + 1 + (aW (wE n) y).length + 1 + (aW (wE n) z).length := by simp only [List.length_append, List.length_cons, List.length_nil]; omega
      show Ph expF l i (aW (wE n) x ++ ([((3 : Int), ([63] : List UInt8))] ++ (aW (wE n) y ++ ([((3 : Int), ([58] : List UInt8))] ++ aW (wE n) z)))).length _ _
      rw [e] at hx ⊢
      obtain ⟨h1, h2⟩ := TokAt_app.1 ht
      have h2 : (∃ a b e, l[i + (aW (wE n) x).length]? = some (tk 3 [63] a b e)) ∧ TokAt l (i + (aW (wE n) x).length + 1) (aW (wE n) y ++ ([(3, [58])] ++ aW (wE n) z)) := h2
      obtain ⟨h3, h4⟩ := TokAt_app.1 h2.2
      have h4 : (∃ a b e, l[i + (aW (wE n) x).length + 1 + (aW (wE n) y).length]? = some (tk 3 [58] a b e)) ∧ TokAt l (i + (aW (wE n) x).length + 1 + (aW (wE n) y).length + 1) (aW (wE n) z) := h4
      have U1 := argU x (by simp) h1 (nx_of h2.1 rfl)
      have U2 := argU y (by simp) h3 (nx_of h4.1 rfl)
      have U3 := argU z (by simp) h4.2 (cl_nx (by rw [show i + (aW (wE n) x).length + 1 + (aW (wE n) y).length + 1 + (aW (wE n) z).length = i + ((aW (wE n) x).length + 1 + (aW (wE n) y).length + 1 + (aW (wE n) z).length) from by omega]; exact hx))
      exact cond_gen hl (first_arg' (ha x (by simp)) h1) U1 h2.1 (first_arg' (ha y (by simp)) h3) U2 h4.1 (first_arg' (ha z (by simp)) h4.2) U3 hx
  · subst h0
    have ht : (∃ a b e, l[i]? = some (tk 3 [123] a b e)) ∧ TokAt l (i + 1) (lW (wE n) ar ++ [(3, [125])]) := ht
    obtain ⟨h1, h2⟩ := ht
    obtain ⟨h3, h4⟩ := TokAt_app.1 h2
    have h4 := h4.1
    obtain ⟨a, b, e, g1⟩ := h1
    obtain ⟨a4, b4, e4, g4⟩ := h4
    have L := listP hl ih hm (by omega) ha h3 ⟨[125], a4, b4, e4, g4, rfl, rfl⟩
    have O := (one_cat hl ⟨a, b, e, g1⟩ L ⟨a4, b4, e4, g4⟩).mono (R' := Sm (n + 1) (E 6 [] ar)) (fun y ⟨a, b, e, ys, hy, hys⟩ => by subst hy; exact Sm_mk a b e hys) (Nat.le_refl _)
    have e : 1 + (lW (wE n) ar).length + 1 = ([((3 : Int), ([123] : List UInt8))] ++ (lW (wE n) ar ++ [(3, [125])])).length := by simp only [List.length_append, List.length_cons, List.length_nil]; omega
    exact core_one hl (m := ([((3 : Int), ([123] : List UInt8))] ++ (lW (wE n) ar ++ [(3, [125])])).length) ⟨_, _, a, b, _, g1, .inr (.inr rfl)⟩ fun _ => O.cast e
  · subst h0
    match ar, hm, hm2, ht, ha with
    | x :: r, hm, hm2, ht, ha =>
      have ht : (∃ a b e, l[i]? = some (tk 3 [123] a b e)) ∧ TokAt l (i + 1) (wE n x ++ ([(3, [123])] ++ (lW (wE n) r ++ [(3, [125]), (3, [125])]))) := ht
      obtain ⟨h1, h2⟩ := ht
      obtain ⟨h3, h4⟩ := TokAt_app.1 h2
      have h4 : (∃ a b e, l[i + 1 + (wE n x).length]? = some (tk 3 [123] a b e)) ∧ TokAt l (i + 1 + (wE n x).length + 1) (lW (wE n) r ++ [(3, [125]), (3, [125])]) := h4
      obtain ⟨h5, h6⟩ := TokAt_app.1 h4.2
      have h7 := h6.1
      have h8 := h6.2.1
      obtain ⟨a, b, e, g1⟩ := h1
      obtain ⟨a4, b4, e4, g4⟩ := h7
      have L := listP hl ih (ar := r) (by simp only [List.length_cons] at hm; omega) (by simp only [List.length_cons] at hm2; omega) (fun a h => ha a (List.mem_cons_of_mem _ h)) h5 ⟨[125], a4, b4, e4, g4, rfl, rfl⟩
      have H1 := (ih x (ha x (List.mem_cons_self ..)) (i + 1) h3).2 (nx_of h4.1 rfl)
      have O := (one_rep hl (fun y => Sm_form) (fun ys h => F2_len h (by simp only [List.length_cons] at hm2; omega)) ⟨a, b, e, g1⟩ H1 h4.1 L ⟨a4, b4, e4, g4⟩ h8).mono (R' := Sm (n + 1) (E 7 [] (x :: r))) (fun y ⟨a, b, e, u, ys, hy, hu, hys⟩ => by subst hy; exact Sm_mk a b e (.cons hu hys)) (Nat.le_refl _)
      have e : 1 + (wE n x).length + 1 + (lW (wE n) r).length + 2 = ([((3 : Int), ([123] : List UInt8))] ++ (wE n x ++ ([(3, [123])] ++ (lW (wE n) r ++ [(3, [125]), (3, [125])])))).length := by simp only [List.length_append, List.length_cons, List.length_nil]; omega
      exact core_one hl (m := ([((3 : Int), ([123] : List UInt8))] ++ (wE n x ++ ([(3, [123])] ++ (lW (wE n) r ++ [(3, [125]), (3, [125])])))).length) ⟨_, _, a, b, _, g1, .inr (.inr rfl)⟩ fun _ => O.cast e
  · match ar, hm, ht, ha with
    | [x], _, ht, ha =>
      have ht : (∃ a b e, l[i]? = some (tk 1 t a b e)) ∧ (∃ a b e, l[i + 1]? = some (tk 3 [91] a b e)) ∧ TokAt l (i + 2) (wE n x ++ [(3, [93])]) := ht
      obtain ⟨h1, h2, h3⟩ := ht
      obtain ⟨h4, h5⟩ := TokAt_app.1 h3
      obtain ⟨a, b, e, g1⟩ := h1
      have H1 := (ih x (ha x (List.mem_cons_self ..)) (i + 2) h4).2 (nx_of h5.1 rfl)
      have O := (one_left hl (nm_okN hn) ⟨a, b, e, g1⟩ (fun y ⟨a, b, e, u, hy, _⟩ => ⟨_, _, _, _, _, _, hy, by decide⟩) (left_index hl (fun y => Sm_form) (okN_goodN (nm_okN hn)) ⟨a, b, e, g1⟩ h2 H1 h5.1)).mono (R' := Sm (n + 1) (E 8 t [x])) (fun y ⟨a, b, e, u, hy, hu⟩ => by subst hy; exact Sm_mk a b e (.cons hu .nil)) (Nat.le_refl _)
      have e : 2 + (wE n x).length + 1 = ([((1 : Int), t), (3, [91])] ++ (wE n x ++ [(3, [93])])).length := by simp only [List.length_append, List.length_cons, List.length_nil]; omega
      exact core_one hl (m := ([((1 : Int), t), (3, [91])] ++ (wE n x ++ [(3, [93])])).length) ⟨_, _, a, b, _, g1, .inl (by decide)⟩ fun _ => O.cast e
  · match ar, hm, ht, ha with
    | [x, y], _, ht, ha =>
      have ht : (∃ a b e, l[i]? = some (tk 1 t a b e)) ∧ (∃ a b e, l[i + 1]? = some (tk 3 [91] a b e)) ∧ TokAt l (i + 2) (wE n x ++ ([(3, [58])] ++ (wE n y ++ [(3, [93])]))) := ht
      obtain ⟨h1, h2, h3⟩ := ht
      obtain ⟨h4, h5⟩ := TokAt_app.1 h3
      have h5 : (∃ a b e, l[i + 2 + (wE n x).length]? = some (tk 3 [58] a b e)) ∧ TokAt l (i + 2 + (wE n x).length + 1) (wE n y ++ [(3, [93])]) := h5
      obtain ⟨h6, h7⟩ := TokAt_app.1 h5.2
      obtain ⟨a, b, e, g1⟩ := h1
      have H1 := (ih x (ha x (by simp)) (i + 2) h4).2 (nx_of h5.1 rfl)
      have H2 := (ih y (ha y (by simp)) _ h6).2 (nx_of h7.1 rfl)
      have O := (one_left hl (nm_okN hn) ⟨a, b, e, g1⟩ (fun y ⟨a, b, e, u, v, hy, _⟩ => ⟨_, _, _, _, _, _, hy, by decide⟩) (left_range hl (fun y => Sm_form) (fun y => Sm_form) (okN_goodN (nm_okN hn)) ⟨a, b, e, g1⟩ h2 H1 h5.1 H2 h7.1)).mono (R' := Sm (n + 1) (E 9 t [x, y])) (fun z ⟨a, b, e, u, v, hz, hu, hv⟩ => by subst hz; exact Sm_mk a b e (.cons hu (.cons hv .nil))) (Nat.le_refl _)
      have e : 2 + (wE n x).length + 1 + (wE n y).length + 1 = ([((1 : Int), t), (3, [91])] ++ (wE n x ++ ([(3, [58])] ++ (wE n y ++ [(3, [93])])))).length := by simp only [List.length_append, List.length_cons, List.length_nil]; omega
      exact core_one hl (m := ([((1 : Int), t), (3, [91])] ++ (wE n x ++ ([(3, [58])] ++ (wE n y ++ [(3, [93])])))).length) ⟨_, _, a, b, _, g1, .inl (by decide)⟩ fun _ => O.cast e
  · have ht : (∃ a b e, l[i]? = some (tk 1 t a b e)) ∧ (∃ a b e, l[i + 1]? = some (tk 3 [40] a b e)) ∧ TokAt l (i + 2) (lW (wE n) ar ++ [(3, [41])]) := ht
    obtain ⟨h1, h2, h3⟩ := ht
    obtain ⟨h4, h5⟩ := TokAt_app.1 h3
    obtain ⟨a, b, e, g1⟩ := h1
    have h5 := h5.1
    obtain ⟨a4, b4, e4, g4⟩ := h5
    have L := listP hl ih hm (by omega) ha h4 ⟨[41], a4, b4, e4, g4, rfl, rfl⟩
    have O : Ph oneF l i (2 + (lW (wE n) ar).length + 1) (fun y => ∃ a b e ys, y = PE 10 a b e t ys ∧ F2 (Sm n) ar ys) (HX n) := by
      simp only [callT, List.mem_cons, List.not_mem_nil, or_false] at hn
      rcases hn with hn | hn | hn | hn
      · exact one_call hl (List.all_eq_true.1 fg_tab t (by rw [hn]; simp)) ⟨a, b, e, g1⟩ h2 L ⟨a4, b4, e4, g4⟩
      · exact one_call hl (List.all_eq_true.1 fg_tab t (by rw [hn]; simp)) ⟨a, b, e, g1⟩ h2 L ⟨a4, b4, e4, g4⟩
      · exact one_sys hl (.inl hn) ⟨a, b, e, g1⟩ h2 L ⟨a4, b4, e4, g4⟩
      · exact one_sys hl (.inr hn) ⟨a, b, e, g1⟩ h2 L ⟨a4, b4, e4, g4⟩
    have O2 := O.mono (R' := Sm (n + 1) (E 10 t ar)) (fun y ⟨a, b, e, ys, hy, hys⟩ => by subst hy; exact Sm_mk a b e hys) (Nat.le_refl _)
    have e : 2 + (lW (wE n) ar).length + 1 = ([((1 : Int), t), (3, [40])] ++ (lW (wE n) ar ++ [(3, [41])])).length := by simp only [List.length_append, List.length_cons, List.length_nil]; omega
    exact core_one hl (m := ([((1 : Int), t), (3, [40])] ++ (lW (wE n) ar ++ [(3, [41])])).length) ⟨_, _, a, b, _, g1, .inl (by decide)⟩ fun _ => O2.cast e
theorem core : ∀ (n : Nat) (x : D), wfE n x → Core l n x
  | 0, _, h => h.elim
  | n + 1, x, h => core_succ hl (core n) x h
/-- An expression with a plus before it is that expression. -/
theorem plus_core {n : Nat} {x : D} (hx : wfE n x) {i : Nat} (ht : TokAt l i ((3, [43]) :: wE n x)) (hn : Nx l (i + (1 + (wE n x).length)) cl) : Ph expF l i (1 + (wE n x).length) (Sm n x) (HX n + 1) := by
  have ht : (∃ a b e, l[i]? = some (tk 3 [43] a b e)) ∧ TokAt l (i + 1) (wE n x) := ht
  have plus : ∀ {m h : Nat} {n : Nat} {x : D}, Ph unF l (i + 1) m (Sm n x) h → Ph unF l i (1 + m) (Sm n x) (h + 1) := fun {m h n x} U => (unary_sign hl (fun y => Sm_form) (List.mem_cons_self ..) ht.1 U).mono (fun y hy => hy) (Nat.le_refl _)
  have e0 : i + 1 + (wE n x).length = i + (1 + (wE n x).length) := by omega
  by_cases ho : opE x = false
  · have hf := first_tok n x hx (i + 1) ht.2
    obtain ⟨k, t, a, b, e, h1, h2⟩ := hf
    have O := (core hl n x hx (i + 1) ht.2).1 ho (by rw [e0]; exact cl_nx hn)
    have U := plus (unary_of_one (fun y => Sm_form) ⟨k, t, a, b, e, h1, h2 ho⟩ O)
    exact (expr_unary hl (fun y => Sm_form) (any_of ht.1) hn U).mono (fun _ h => h) (by cases n with | zero => exact hx.elim | succ n => simp only [HX]; omega)
  · cases n with
    | zero => exact hx.elim
    | succ n =>
      obtain ⟨k, t, ar, rfl, hs, ha⟩ := hx
      rw [wE_E] at ht hn e0 ⊢
      have argU : ∀ x ∈ ar, ∀ {i}, TokAt l i (aW (wE n) x) → Nx l (i + (aW (wE n) x).length) cu → Ph unF l i (aW (wE n) x).length (Sm n x) (HX n) := fun x hx i h1 h2 => arg_of' hl (ha x hx) (core hl n x (ha x hx)) h1 h2
      rcases hs with ⟨rfl, _, hm⟩ | ⟨rfl, _, hm⟩ | ⟨rfl, hs, hm⟩ | ⟨rfl, hs, hm⟩ | ⟨rfl, h0, hm⟩ | ⟨rfl, _, hm, hm2⟩ | ⟨rfl, _, hm, hm2⟩ | ⟨rfl, _, hm⟩ | ⟨rfl, _, hm⟩ | ⟨rfl, _, hm, hm2⟩
      · exact absurd rfl ho
      · exact absurd rfl ho
      · match ar, hm, ht, hn, e0, argU with
        | [x], _, ht, hn, e0, argU =>
          obtain ⟨h0, h1⟩ := ht
          have h1 : (∃ a b e, l[i + 1]? = some (tk 3 t a b e)) ∧ TokAt l (i + 1 + 1) (aW (wE n) x) := h1
          have e : ([((3 : Int), t)] ++ aW (wE n) x).length = 1 + (aW (wE n) x).length := by simp only [List.length_append, List.length_cons, List.length_nil]
          have hn : Nx l (i + (1 + ([((3 : Int), t)] ++ aW (wE n) x).length)) cl := hn
          show Ph expF l i (1 + ([((3 : Int), t)] ++ aW (wE n) x).length) _ _
          rw [e] at hn ⊢
          have U := argU x (List.mem_cons_self ..) h1.2 (cl_nx (by rw [show i + 1 + 1 + (aW (wE n) x).length = i + (1 + (1 + (aW (wE n) x).length)) from by omega]; exact hn))
          exact expr_unary hl (fun y => Sm_form) (any_of h0) hn (plus (un_gen hl hs h1.1 U))
      · match ar, hm, ht, hn, e0, ha, argU with
        | [x, y], _, ht, hn, e0, ha, argU =>
          obtain ⟨h0, h1⟩ := ht
          have h1 : TokAt l (i + 1) (aW (wE n) x ++ ([(3, t)] ++ aW (wE n) y)) := h1
          have e : 1 + (aW (wE n) x ++ ([((3 : Int), t)] ++ aW (wE n) y)).length = (1 + (aW (wE n) x).length) + 1 + (aW (wE n) y).length := by simp only [List.length_append, List.length_cons, List.length_nil]; omega
          have hn : Nx l (i + (1 + (aW (wE n) x ++ ([((3 : Int), t)] ++ aW (wE n) y)).length)) cl := hn
          show Ph expF l i (1 + (aW (wE n) x ++ ([((3 : Int), t)] ++ aW (wE n) y)).length) _ _
          rw [e] at hn ⊢
          obtain ⟨h2, h3⟩ := TokAt_app.1 h1
          have h3 : (∃ a b e, l[i + 1 + (aW (wE n) x).length]? = some (tk 3 t a b e)) ∧ TokAt l (i + 1 + (aW (wE n) x).length + 1) (aW (wE n) y) := h3
          have U1 := plus (argU x (by simp) h2 (nx_of h3.1 (op_cu (opT_opsT hs))))
          rw [show i + 1 + (aW (wE n) x).length = i + (1 + (aW (wE n) x).length) from by omega] at h3
          have U2 := argU y (by simp) h3.2 (cl_nx (by rw [show i + (1 + (aW (wE n) x).length) + 1 + (aW (wE n) y).length = i + (1 + (aW (wE n) x).length + 1 + (aW (wE n) y).length) from by omega]; exact hn))
          exact (bin_gen hl hs (any_of h0) U1 h3.1 (first_arg' (ha y (by simp)) h3.2) (U2.mono (fun _ h => h) (Nat.le_succ _)) hn).mono (fun _ h => h) (by simp only [HX]; omega)
      · match ar, hm, ht, hn, e0, ha, argU with
        | [x, y, z], _, ht, hn, e0, ha, argU =>
          subst h0
          obtain ⟨h0, h1⟩ := ht
          have h1 : TokAt l (i + 1) (aW (wE n) x ++ ([(3, [63])] ++ (aW (wE n) y ++ ([(3, [58])] ++ aW (wE n) z)))) := h1
          have e : 1 + (aW (wE n) x ++ ([((3 : Int), ([63] : List UInt8))] ++ (aW (wE n) y ++ ([((3 : Int), ([58] : List UInt8))] ++ aW (wE n) z)))).length = (1 + (aW (wE n) x).length) + 1 + (aW (wE n) y).length + 1 + (aW (wE n) z).length := by simp only [List.length_append, List.length_cons, List.length_nil]; omega
          have hn : Nx l (i + (1 + (aW (wE n) x ++ ([((3 : Int), ([63] : List UInt8))] ++ (aW (wE n) y ++ ([((3 : Int), ([58] : List UInt8))] ++ aW (wE n) z)))).length)) cl := hn
          show Ph expF l i (1 + (aW (wE n) x ++ ([((3 : Int), ([63] : List UInt8))] ++ (aW (wE n) y ++ ([((3 : Int), ([58] : List UInt8))] ++ aW (wE n) z)))).length) _ _
          rw [e] at hn ⊢
          obtain ⟨h2, h3⟩ := TokAt_app.1 h1
          rw [show i + 1 + (aW (wE n) x).length = i + (1 + (aW (wE n) x).length) from by omega] at h3
          have h3 : (∃ a b e, l[i + (1 + (aW (wE n) x).length)]? = some (tk 3 [63] a b e)) ∧ TokAt l (i + (1 + (aW (wE n) x).length) + 1) (aW (wE n) y ++ ([(3, [58])] ++ aW (wE n) z)) := h3
          obtain ⟨h4, h5⟩ := TokAt_app.1 h3.2
          have h5 : (∃ a b e, l[i + (1 + (aW (wE n) x).length) + 1 + (aW (wE n) y).length]? = some (tk 3 [58] a b e)) ∧ TokAt l (i + (1 + (aW (wE n) x).length) + 1 + (aW (wE n) y).length + 1) (aW (wE n) z) := h5
          have U1 := plus (argU x (by simp) h2 (by rw [show i + 1 + (aW (wE n) x).length = i + (1 + (aW (wE n) x).length) from by omega]; exact nx_of h3.1 rfl))
          have U2 := argU y (by simp) h4 (nx_of h5.1 rfl)
          have U3 := argU z (by simp) h5.2 (cl_nx (by rw [show i + (1 + (aW (wE n) x).length) + 1 + (aW (wE n) y).length + 1 + (aW (wE n) z).length = i + (1 + (aW (wE n) x).length + 1 + (aW (wE n) y).length + 1 + (aW (wE n) z).length) from by omega]; exact hn))
          exact (cond_gen hl (any_of h0) U1 h3.1 (first_arg' (ha y (by simp)) h4) (U2.mono (fun _ h => h) (Nat.le_succ _)) h5.1 (first_arg' (ha z (by simp)) h5.2) (U3.mono (fun _ h => h) (Nat.le_succ _)) hn).mono (fun _ h => h) (by simp only [HX]; omega)
      · exact absurd rfl ho
      · exact absurd rfl ho
      · exact absurd rfl ho
      · exact absurd rfl ho
      · exact absurd rfl ho
end
end Go.Proofs.YtalibicpmfbieaaGreatDoor
