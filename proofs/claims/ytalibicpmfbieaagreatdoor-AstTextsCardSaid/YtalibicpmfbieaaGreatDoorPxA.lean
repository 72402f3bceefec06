/- The words of an expression, told exactly; the reference's words are these. -/
import Derived.Test.YtalibicpmfbieaaGreatDoorPaA
import Derived.Test.YtalibicpmfbieaaGreatDoorAstMake
namespace Go.Proofs.YtalibicpmfbieaaGreatDoor
open Go.AE
set_option linter.unusedVariables false
set_option linter.unusedSimpArgs false
abbrev Tk := Int × List UInt8
def txt (ws : List Tk) : List D := ws.map fun p => D.str p.2
theorem txt_app (u v : List Tk) : txt (u ++ v) = txt u ++ txt v := List.map_append
theorem txt_len (u : List Tk) : (txt u).length = u.length := List.length_map ..
theorem nthL {k : Nat} {ws : List D} : (nth [D.lst k ws] 0).l = ws := rfl
def opE (x : D) : Bool := (x.at_ 0).i == 3 || ((x.at_ 0).i == 4 || (x.at_ 0).i == 5)
def aW (w : D → List Tk) (x : D) : List Tk := bif opE x then [(3, [40])] ++ (w x ++ [(3, [41])]) else w x
def lW (w : D → List Tk) : List D → List Tk
  | [] => []
  | [x] => w x
  | x :: y :: r => w x ++ ((3, [44]) :: lW w (y :: r))
/-- The words of an expression of a kind, a text and operands, out of the operands' words. -/
def kW (w : D → List Tk) (k : Int) (t : List UInt8) (ar : List D) : List Tk :=
  bif k == 3 then [(3, t)] ++ aW w (ar[0]?.getD .top)
  else bif k == 4 then aW w (ar[0]?.getD .top) ++ ([(3, t)] ++ aW w (ar[1]?.getD .top))
  else bif k == 5 then aW w (ar[0]?.getD .top) ++ ([(3, [63])] ++ (aW w (ar[1]?.getD .top) ++ ([(3, [58])] ++ aW w (ar[2]?.getD .top))))
  else bif k == 6 then [(3, [123])] ++ (lW w ar ++ [(3, [125])])
  else bif k == 7 then [(3, [123])] ++ (w (ar[0]?.getD .top) ++ ([(3, [123])] ++ (lW w (ar.drop 1) ++ [(3, [125]), (3, [125])])))
  else bif k == 8 then [(1, t), (3, [91])] ++ (w (ar[0]?.getD .top) ++ [(3, [93])])
  else bif k == 9 then [(1, t), (3, [91])] ++ (w (ar[0]?.getD .top) ++ ([(3, [58])] ++ (w (ar[1]?.getD .top) ++ [(3, [93])])))
  else bif k == 10 then [(1, t), (3, [40])] ++ (lW w ar ++ [(3, [41])])
  else bif k == 1 then [(2, t)] else [(1, t)]
def wE : Nat → D → List Tk
  | 0, _ => []
  | n + 1, x => kW (wE n) (x.at_ 0).i (x.at_ 4).s (x.at_ 5).l
theorem wE_E (n : Nat) (k : Int) (t : List UInt8) (ar : List D) : wE (n + 1) (E k t ar) = kW (wE n) k t ar := rfl
def EWx : Nat → Nat
  | 0 => 0
  | n + 1 => 3 * EWx n + 10
theorem aW_len {w : D → List Tk} {x : D} {A : Nat} (h : (w x).length ≤ A) : (aW w x).length ≤ A + 2 := by
  unfold aW
  cases opE x <;> simp <;> omega
theorem lW_len {w : D → List Tk} {A : Nat} : ∀ {xs : List D}, (∀ x ∈ xs, (w x).length ≤ A) → (lW w xs).length ≤ xs.length * (A + 1)
  | [], _ => Nat.zero_le _
  | [x], h => by
    have := h x (List.mem_cons_self ..)
    simp only [lW, List.length_cons, List.length_nil]; omega
  | x :: y :: r, h => by
    have h1 := h x (List.mem_cons_self ..)
    have h2 := lW_len (xs := y :: r) fun z hz => h z (List.mem_cons_of_mem _ hz)
    simp only [lW, List.length_append, List.length_cons, Nat.succ_mul] at h2 ⊢
    omega
theorem wE_len : ∀ (n : Nat) (x : D), wfE n x → (wE n x).length ≤ EWx n
  | 0, _, h => h.elim
  | n + 1, x, h => by
    obtain ⟨k, t, ar, rfl, hs, ha⟩ := h
    have ih := wE_len n
    have hA : ∀ x ∈ ar, (wE n x).length ≤ EWx n := fun x hx => ih x (ha x hx)
    have hl := lW_len hA
    rw [wE_E]
    simp only [EWx]
    rcases hs with ⟨rfl, _, hm⟩ | ⟨rfl, _, hm⟩ | ⟨rfl, _, hm⟩ | ⟨rfl, _, hm⟩ | ⟨rfl, _, hm⟩ | ⟨rfl, _, hm, hm2⟩ | ⟨rfl, _, hm, hm2⟩ | ⟨rfl, _, hm⟩ | ⟨rfl, _, hm⟩ | ⟨rfl, _, hm, hm2⟩
    · show ([(2, t)] : List Tk).length ≤ _; simp
    · show ([(1, t)] : List Tk).length ≤ _; simp
    · match ar, hm, hA with
      | [a], _, hA =>
        have h1 := aW_len (hA a (by simp))
        show ([(3, t)] ++ aW (wE n) a).length ≤ _
        simp only [List.length_append, List.length_cons, List.length_nil]; omega
    · match ar, hm, hA with
      | [a, b], _, hA =>
        have h1 := aW_len (hA a (by simp))
        have h2 := aW_len (hA b (by simp))
        show (aW (wE n) a ++ ([(3, t)] ++ aW (wE n) b)).length ≤ _
        simp only [List.length_append, List.length_cons, List.length_nil]; omega
    · match ar, hm, hA with
      | [a, b, c], _, hA =>
        have h1 := aW_len (hA a (by simp))
        have h2 := aW_len (hA b (by simp))
        have h3 := aW_len (hA c (by simp))
        show (aW (wE n) a ++ ([(3, [63])] ++ (aW (wE n) b ++ ([(3, [58])] ++ aW (wE n) c)))).length ≤ _
        simp only [List.length_append, List.length_cons, List.length_nil]; omega
    · show ([(3, [123])] ++ (lW (wE n) ar ++ [(3, [125])])).length ≤ _
      have : ar.length * (EWx n + 1) ≤ 3 * (EWx n + 1) := Nat.mul_le_mul_right _ hm2
      simp only [List.length_append, List.length_cons, List.length_nil]; omega
    · match ar, hm, hm2, hA with
      | a :: r, hm, hm2, hA =>
        have h1 := hA a (by simp)
        have h2 := lW_len (xs := r) fun z hz => hA z (List.mem_cons_of_mem _ hz)
        show ([(3, [123])] ++ (wE n a ++ ([(3, [123])] ++ (lW (wE n) r ++ [(3, [125]), (3, [125])])))).length ≤ _
        have : r.length * (EWx n + 1) ≤ 2 * (EWx n + 1) := Nat.mul_le_mul_right _ (by simp only [List.length_cons] at hm2; omega)
        simp only [List.length_append, List.length_cons, List.length_nil]; omega
    · match ar, hm, hA with
      | [a], _, hA =>
        have h1 := hA a (by simp)
        show ([(1, t), (3, [91])] ++ (wE n a ++ [(3, [93])])).length ≤ _
        simp only [List.length_append, List.length_cons, List.length_nil]; omega
    · match ar, hm, hA with
      | [a, b], _, hA =>
        have h1 := hA a (by simp)
        have h2 := hA b (by simp)
        show ([(1, t), (3, [91])] ++ (wE n a ++ ([(3, [58])] ++ (wE n b ++ [(3, [93])])))).length ≤ _
        simp only [List.length_append, List.length_cons, List.length_nil]; omega
    · show ([(1, t), (3, [40])] ++ (lW (wE n) ar ++ [(3, [41])])).length ≤ _
      have : ar.length * (EWx n + 1) ≤ 2 * (EWx n + 1) := Nat.mul_le_mul_right _ hm2
      simp only [List.length_append, List.length_cons, List.length_nil]; omega
theorem wfx {d : Nat} {x : D} (h : wfE d x) : expTy ty_iiiisl6 x = x ∧ okTy ty_iiiisl6 x = true := by
  cases d with
  | zero => exact h.elim
  | succ d => obtain ⟨k, t, xs, rfl, _⟩ := h; exact ⟨rfl, rfl⟩
theorem okX {d : Nat} {x : D} (h : wfE d x) : (notAny ty_iiiisl6 && okTy ty_iiiisl6 x) = true := by rw [(wfx h).2]; rfl
section
variable {d A : Nat} (hA : A ≤ 100000) (hL : ∀ x, wfE d x → (wE d x).length ≤ A) (hE : ∀ x, wfE d x → Ev (fun n => ref09_ExprWords n x) fun r => r = (true, [.lst 1 (txt (wE d x))]))
include hE
theorem exprX {x : D} (hx : wfE d x) : Ev (fun n => ref09_ExprWords n (expTy ty_iiiisl6 x)) fun r => r = (true, [.lst 1 (txt (wE d x))]) := by rw [(wfx hx).1]; exact hE x hx
include hA hL
theorem parenX {x : D} (hx : wfE d x) : Ev (fun n => ref09_paren n (expTy ty_iiiisl6 x)) fun r => r = (true, [.lst 1 (txt ([(3, [40])] ++ (wE d x ++ [(3, [41])])))]) := by
  rw [(wfx hx).1]
  have hx0 := hx
  have hl := hL x hx
  have he := hE x hx
  generalize wE d x = w at hl he ⊢
  cases d with
  | zero => exact hx.elim
  | succ d =>
    obtain ⟨k, t, xs, rfl, _⟩ := hx
    refine Ev.eq (fun n => ref09_paren_eq n k 0 0 0 t xs) (Ev.bindC he ?_)
    (intro _ _ h; cases h; refine ⟨rfl, Ev.yes rfl ?_⟩; simp only [nthL])
    refine Ev.yes (Nat.ble_eq_true_of_le (by simp only [txt, List.length_map, List.length_append, List.length_cons, List.length_nil, maxLst]; omega)) ?_
    refine Ev.yes (Nat.ble_eq_true_of_le (by simp only [txt, List.length_map, List.length_append, List.length_cons, List.length_nil, maxLst]; omega)) ?_
    exact Ev.ret (by simp [txt])
theorem argX {x : D} (hx : wfE d x) : Ev (fun n => ref09_arg n (expTy ty_iiiisl6 x)) fun r => r = (true, [.lst 1 (txt (aW (wE d) x))]) := by
  have hp := parenX hA hL hE hx
  have he := hE x hx
  rw [(wfx hx).1] at hp ⊢
  cases d with
  | zero => exact hx.elim
  | succ d =>
    obtain ⟨k, t, xs, rfl, _⟩ := hx
    have J : ∀ g, opE (E k t xs) = g → Ev (fun n => ref09_arg_j1 n g k 0 0 0 t xs) fun r => r = (true, [.lst 1 (txt (aW (wE (d + 1)) (E k t xs)))]) := by
      intro g hg
      refine evDf (fun n => ref09_arg_j1_def n _ _ _ _ _ _ _) ?_
      unfold aW
      rw [hg]
      cases g with
      | true =>
        refine Ev.yes rfl (Ev.bindC hp ?_)
        (intro _ _ h; cases h; refine ⟨rfl, Ev.yes rfl ?_⟩; simp only [nthL])
        exact Ev.ret rfl
      | false =>
        refine Ev.no rfl (Ev.bindC he ?_)
        (intro _ _ h; cases h; refine ⟨rfl, Ev.yes rfl ?_⟩; simp only [nthL])
        exact Ev.ret rfl
    have ho : opE (E k t xs) = (k == 3 || (k == 4 || k == 5)) := rfl
    exact Ev.eq (fun n => ref09_arg_eq n k 0 0 0 t xs) (Ev.test (fun h => J _ (by rw [ho, h]; rfl)) fun h => Ev.test (fun h' => J _ (by rw [ho, h, h']; rfl)) fun h' => J _ (by rw [ho, h, h']; rfl))
theorem listX {xs : List D} (hn : xs.length ≤ 100) (hx : ∀ x ∈ xs, wfE d x) : Ev (fun n => ref09_List n (.lst 6 xs)) fun r => r = (true, [.lst 1 (txt (lW (wE d) xs))]) := by
  have sp : ∀ (j : Nat) (hj : j < xs.length), lW (wE d) (xs.drop j) = wE d xs[j] ++ (bif j + 1 == xs.length then [] else (3, [44]) :: lW (wE d) (xs.drop (j + 1))) := by
    intro j hj
    rw [drop_cons hj]
    cases hd : xs.drop (j + 1) with
    | nil =>
      have : j + 1 = xs.length := by have := congrArg List.length hd; simp at this; omega
      rw [this, beq_self_eq_true]
      show wE d xs[j] = wE d xs[j] ++ []
      rw [List.append_nil]
    | cons y r =>
      have : (j + 1 == xs.length) = false := by
        have := congrArg List.length hd
        simp only [List.length_drop, List.length_cons] at this
        exact beq_eq_false_iff_ne.2 (by omega)
      rw [this]
      rfl
  have loop : ∀ (m j : Nat) (acc : List Tk), xs.length - j = m → 1 ≤ j → j ≤ xs.length → acc.length ≤ j * (A + 1) →
      Ev (fun n => ref09_List_L0 n (.lst 6 xs) (.int .i64 (j : Int)) (.lst 1 (txt acc))) fun r => ∃ q : Int, r = (false, [.lst 6 xs, .int .i64 q, .lst 1 (txt (acc ++ (bif j == xs.length then [] else (3, [44]) :: lW (wE d) (xs.drop j))))]) := by
    intro m
    induction m with
    | zero =>
      intro j acc hm h1 hj ha
      have : j = xs.length := by omega
      subst this
      refine Ev.eq (fun n => ref09_List_L0_eq n xs _ _) (Ev.no (decide_eq_false (by omega)) (Ev.ret ⟨(xs.length : Int), ?_⟩))
      rw [beq_self_eq_true]
      show _ = (false, [D.lst 6 xs, D.int .i64 (xs.length : Int), D.lst 1 (txt (acc ++ []))])
      rw [List.append_nil]
    | succ m ih =>
      intro j acc hm h1 hj ha
      have hlt : j < xs.length := by omega
      have hw := hx xs[j] (List.getElem_mem hlt)
      have hl := hL _ hw
      have ha2 : acc.length ≤ 100 * (A + 1) := Nat.le_trans ha (Nat.mul_le_mul_right _ (by omega))
      have I := ih (j + 1) (acc ++ ((3, [44]) :: wE d xs[j])) (by omega) (by omega) (by omega) (by simp only [List.length_append, List.length_cons, Nat.succ_mul]; omega)
      rw [← wrap_succ (by omega)] at I
      refine Ev.eq (fun n => ref09_List_L0_eq n xs _ _) (Ev.yes (decide_eq_true (by omega)) (Ev.yes (decide_eq_true (by omega)) ?_))
      refine Ev.yes (Nat.ble_eq_true_of_le (by simp only [txt, List.length_map, List.length_append, List.length_cons, List.length_nil, maxLst]; omega)) ?_
      refine Ev.yes (in_range hlt) ?_
      rw [get_nat hlt]
      refine Ev.yes (okX hw) (Ev.bindC (show Ev (fun n => ref09_ExprWords n (expTy ty_iiiisl6 xs[j])) _ from exprX hE hw) ?_)
      (intro _ _ h; cases h; refine ⟨rfl, Ev.yes rfl ?_⟩; simp only [nthL])
      refine Ev.yes (Nat.ble_eq_true_of_le (by simp only [txt, List.length_map, List.length_append, List.length_cons, List.length_nil, maxLst]; omega)) ?_
      have e1 : txt acc ++ [D.str [44]] ++ txt (wE d xs[j]) = txt (acc ++ ((3, [44]) :: wE d xs[j])) := by simp [txt]
      rw [e1]
      refine I.mono fun r hr => ?_
      obtain ⟨q, hr⟩ := hr
      refine ⟨q, ?_⟩
      rw [hr]
      have hne : (j == xs.length) = false := beq_eq_false_iff_ne.2 (by omega)
      rw [hne, cond_false, sp j hlt, List.append_assoc]
      rfl
  refine Ev.eq (fun n => ref09_List_eq n xs) ?_
  refine Ev.bindL (Q := fun r => ∃ q : Int, r = (false, [.lst 6 xs, .int .i64 q, .lst 1 (txt (lW (wE d) xs))])) ?_ (fun ds h => by obtain ⟨_, h⟩ := h; cases h) fun ds h => ?_
  · cases xs with
    | nil => exact Ev.eq (fun n => ref09_List_L0_eq n [] _ _) (Ev.no rfl (Ev.ret ⟨_, rfl⟩))
    | cons x rest =>
      have hw := hx x (List.mem_cons_self ..)
      have hl := hL _ hw
      have s0 := sp 0 (Nat.zero_lt_succ _)
      have I := loop ((x :: rest).length - 1) 1 (wE d x) rfl (Nat.le_refl _) (by simp) (by omega)
      refine Ev.eq (fun n => ref09_List_L0_eq n (x :: rest) _ _) (Ev.yes (decide_eq_true (by show (0 : Int) < (((x :: rest).length : Nat) : Int); simp only [List.length_cons]; omega)) (Ev.no rfl (Ev.yes (in_range (j := 0) (by simp)) (Ev.yes (okX hw) (Ev.bindC (show Ev (fun n => ref09_ExprWords n (expTy ty_iiiisl6 x)) _ from exprX hE hw) ?_)))))
      (intro _ _ h; cases h; refine ⟨rfl, Ev.yes rfl ?_⟩; simp only [nthL])
      refine Ev.yes (Nat.ble_eq_true_of_le (by simp only [txt, List.length_map, List.length_append, List.length_cons, List.length_nil, maxLst]; omega)) ?_
      refine I.mono fun r hr => ?_
      obtain ⟨q, hr⟩ := hr
      refine ⟨q, ?_⟩
      rw [hr]
      rw [show lW (wE d) (x :: rest) = lW (wE d) ((x :: rest).drop 0) from rfl, s0]
      rfl
  · obtain ⟨q, h⟩ := h
    cases h
    exact Ev.yes rfl (Ev.ret rfl)
theorem boundsX1 {x : D} (h1 : wfE d x) : Ev (fun n => ref09_bounds n (.lst 6 [x])) fun r => r = (true, [.lst 1 (txt ([(3, [91])] ++ (wE d x ++ [(3, [93])])))]) := by
  have hl := hL x h1
  refine Ev.eq (fun n => ref09_bounds_eq n [x]) (Ev.no rfl (Ev.yes rfl (Ev.yes (okX h1) (Ev.bindC (show Ev (fun n => ref09_ExprWords n (expTy ty_iiiisl6 x)) _ from exprX hE h1) ?_))))
  (intro _ _ h; cases h; refine ⟨rfl, Ev.yes rfl ?_⟩; simp only [nthL])
  refine Ev.yes (Nat.ble_eq_true_of_le (by simp only [txt, List.length_map, List.length_append, List.length_cons, List.length_nil, maxLst]; omega)) ?_
  refine Ev.no rfl ?_
  refine Ev.yes (Nat.ble_eq_true_of_le (by simp only [txt, List.length_map, List.length_append, List.length_cons, List.length_nil, maxLst]; omega)) ?_
  exact Ev.ret (by simp [txt])
theorem boundsX2 {x y : D} (h1 : wfE d x) (h2 : wfE d y) : Ev (fun n => ref09_bounds n (.lst 6 [x, y])) fun r => r = (true, [.lst 1 (txt ([(3, [91])] ++ (wE d x ++ ([(3, [58])] ++ (wE d y ++ [(3, [93])])))))]) := by
  have hl := hL x h1
  have hl2 := hL y h2
  refine Ev.eq (fun n => ref09_bounds_eq n [x, y]) (Ev.no rfl (Ev.yes rfl (Ev.yes (okX h1) (Ev.bindC (show Ev (fun n => ref09_ExprWords n (expTy ty_iiiisl6 x)) _ from exprX hE h1) ?_))))
  (intro _ _ h; cases h; refine ⟨rfl, Ev.yes rfl ?_⟩; simp only [nthL])
  refine Ev.yes (Nat.ble_eq_true_of_le (by simp only [txt, List.length_map, List.length_append, List.length_cons, List.length_nil, maxLst]; omega)) ?_
  refine Ev.yes rfl ?_
  refine Ev.yes (Nat.ble_eq_true_of_le (by simp only [txt, List.length_map, List.length_append, List.length_cons, List.length_nil, maxLst]; omega)) ?_
  refine Ev.yes rfl (Ev.yes (okX h2) (Ev.bindC (show Ev (fun n => ref09_ExprWords n (expTy ty_iiiisl6 y)) _ from exprX hE h2) ?_))
  (intro _ _ h; cases h; refine ⟨rfl, Ev.yes rfl ?_⟩; simp only [nthL])
  refine Ev.yes (Nat.ble_eq_true_of_le (by simp only [txt, List.length_map, List.length_append, List.length_cons, List.length_nil, maxLst]; omega)) ?_
  refine Ev.yes (Nat.ble_eq_true_of_le (by simp only [txt, List.length_map, List.length_append, List.length_cons, List.length_nil, maxLst]; omega)) ?_
  exact Ev.ret (by simp [txt])
end
theorem exprWx : ∀ (d : Nat), EWx d ≤ 100000 → ∀ x, wfE d x → Ev (fun n => ref09_ExprWords n x) fun r => r = (true, [.lst 1 (txt (wE d x))]) := by
  intro d
  induction d with
  | zero => intro _ x h; exact h.elim
  | succ d ih =>
    intro hd x hx
    have hA : EWx d ≤ 100000 := by simp only [EWx] at hd; omega
    have hE := ih hA
    have hL := wE_len d
    obtain ⟨k, t, xs, rfl, hs, ha⟩ := hx
    simp only [EWx] at hd
    rw [wE_E]
    refine Ev.eq (fun n => ref09_ExprWords_eq n k 0 0 0 t xs) ?_
    rcases hs with ⟨rfl, _, hm⟩ | ⟨rfl, _, hm⟩ | ⟨rfl, _, hm⟩ | ⟨rfl, _, hm⟩ | ⟨rfl, _, hm⟩ | ⟨rfl, _, hm, hm2⟩ | ⟨rfl, _, hm, hm2⟩ | ⟨rfl, _, hm⟩ | ⟨rfl, _, hm⟩ | ⟨rfl, _, hm, hm2⟩
    · exact Ev.no rfl (Ev.no rfl (Ev.no rfl (Ev.no rfl (Ev.no rfl (Ev.no rfl (evDf (fun n => ref09_ExprWords_j1_def n _ _ _ _) (Ev.no rfl (Ev.no rfl (Ev.ret rfl)))))))))
    · exact Ev.no rfl (Ev.no rfl (Ev.no rfl (Ev.no rfl (Ev.no rfl (Ev.no rfl (evDf (fun n => ref09_ExprWords_j1_def n _ _ _ _) (Ev.no rfl (Ev.no rfl (Ev.ret rfl)))))))))
    · match xs, hm, ha with
      | [x], _, ha =>
        have h1 := ha x (by simp)
        have l1 := aW_len (hL x h1)
        refine Ev.yes rfl (Ev.yes rfl (Ev.yes (okX h1) (Ev.bindC (show Ev (fun n => ref09_arg n (expTy ty_iiiisl6 x)) _ from argX hA hL hE h1) ?_)))
        (intro _ _ h; cases h; refine ⟨rfl, Ev.yes rfl ?_⟩; simp only [nthL])
        refine Ev.yes (Nat.ble_eq_true_of_le (by simp only [txt, List.length_map, List.length_append, List.length_cons, List.length_nil, maxLst]; omega)) ?_
        exact Ev.ret rfl
    · match xs, hm, ha with
      | [x, y], _, ha =>
        have h1 := ha x (by simp)
        have h2 := ha y (by simp)
        have l1 := aW_len (hL x h1)
        have l2 := aW_len (hL y h2)
        refine Ev.no rfl (Ev.yes rfl (Ev.yes rfl (Ev.yes (okX h1) (Ev.bindC (show Ev (fun n => ref09_arg n (expTy ty_iiiisl6 x)) _ from argX hA hL hE h1) ?_))))
        (intro _ _ h; cases h; refine ⟨rfl, Ev.yes rfl ?_⟩; simp only [nthL])
        refine Ev.yes (Nat.ble_eq_true_of_le (by simp only [txt, List.length_map, List.length_append, List.length_cons, List.length_nil, maxLst]; omega)) ?_
        refine Ev.yes rfl (Ev.yes (okX h2) (Ev.bindC (show Ev (fun n => ref09_arg n (expTy ty_iiiisl6 y)) _ from argX hA hL hE h2) ?_))
        (intro _ _ h; cases h; refine ⟨rfl, Ev.yes rfl ?_⟩; simp only [nthL])
        refine Ev.yes (Nat.ble_eq_true_of_le (by simp only [txt, List.length_map, List.length_append, List.length_cons, List.length_nil, maxLst]; omega)) ?_
        refine Ev.ret ?_
        show _ = (true, [D.lst 1 (txt (aW (wE d) x ++ ([(3, t)] ++ aW (wE d) y)))])
        simp [txt]
    · match xs, hm, ha with
      | [x, y, z], _, ha =>
        have h1 := ha x (by simp)
        have h2 := ha y (by simp)
        have h3 := ha z (by simp)
        have l1 := aW_len (hL x h1)
        have l2 := aW_len (hL y h2)
        have l3 := aW_len (hL z h3)
        refine Ev.no rfl (Ev.no rfl (Ev.yes rfl (Ev.yes rfl (Ev.yes (okX h1) (Ev.bindC (show Ev (fun n => ref09_arg n (expTy ty_iiiisl6 x)) _ from argX hA hL hE h1) ?_)))))
        (intro _ _ h; cases h; refine ⟨rfl, Ev.yes rfl ?_⟩; simp only [nthL])
        refine Ev.yes (Nat.ble_eq_true_of_le (by simp only [txt, List.length_map, List.length_append, List.length_cons, List.length_nil, maxLst]; omega)) ?_
        refine Ev.yes rfl (Ev.yes (okX h2) (Ev.bindC (show Ev (fun n => ref09_arg n (expTy ty_iiiisl6 y)) _ from argX hA hL hE h2) ?_))
        (intro _ _ h; cases h; refine ⟨rfl, Ev.yes rfl ?_⟩; simp only [nthL])
        refine Ev.yes (Nat.ble_eq_true_of_le (by simp only [txt, List.length_map, List.length_append, List.length_cons, List.length_nil, maxLst]; omega)) ?_
        refine Ev.yes (Nat.ble_eq_true_of_le (by simp only [txt, List.length_map, List.length_append, List.length_cons, List.length_nil, maxLst]; omega)) ?_
        refine Ev.yes rfl (Ev.yes (okX h3) (Ev.bindC (show Ev (fun n => ref09_arg n (expTy ty_iiiisl6 z)) _ from argX hA hL hE h3) ?_))
        (intro _ _ h; cases h; refine ⟨rfl, Ev.yes rfl ?_⟩; simp only [nthL])
        refine Ev.yes (Nat.ble_eq_true_of_le (by simp only [txt, List.length_map, List.length_append, List.length_cons, List.length_nil, maxLst]; omega)) ?_
        refine Ev.ret ?_
        show _ = (true, [D.lst 1 (txt (aW (wE d) x ++ ([(3, [63])] ++ (aW (wE d) y ++ ([(3, [58])] ++ aW (wE d) z)))))])
        simp [txt]
    · have hl := lW_len (xs := xs) fun x hx => hL x (ha x hx)
      have : xs.length * (EWx d + 1) ≤ 3 * (EWx d + 1) := Nat.mul_le_mul_right _ hm2
      refine Ev.no rfl (Ev.no rfl (Ev.no rfl (Ev.yes rfl (Ev.bindC (listX hA hL hE (by omega) ha) ?_))))
      (intro _ _ h; cases h; refine ⟨rfl, Ev.yes rfl ?_⟩; simp only [nthL])
      refine Ev.yes (Nat.ble_eq_true_of_le (by simp only [txt, List.length_map, List.length_append, List.length_cons, List.length_nil, maxLst]; omega)) ?_
      refine Ev.yes (Nat.ble_eq_true_of_le (by simp only [txt, List.length_map, List.length_append, List.length_cons, List.length_nil, maxLst]; omega)) ?_
      refine Ev.ret ?_
      show _ = (true, [D.lst 1 (txt ([(3, [123])] ++ (lW (wE d) xs ++ [(3, [125])])))])
      simp [txt]
    · match xs, hm, hm2, ha with
      | x :: rest, hm, hm2, ha =>
        have h1 := ha x (by simp)
        have l1 := hL x h1
        have hr : ∀ y ∈ rest, wfE d y := fun y hy => ha y (List.mem_cons_of_mem _ hy)
        have hl := lW_len (xs := rest) fun x hx => hL x (hr x hx)
        have hrl : rest.length ≤ 2 := by simp only [List.length_cons] at hm2; omega
        have : rest.length * (EWx d + 1) ≤ 2 * (EWx d + 1) := Nat.mul_le_mul_right _ hrl
        refine Ev.no rfl (Ev.no rfl (Ev.no rfl (Ev.no rfl (Ev.yes rfl (Ev.yes (by first | (simp; done) | (simp; omega)) (Ev.yes (okX h1) (Ev.bindC (show Ev (fun n => ref09_ExprWords n (expTy ty_iiiisl6 x)) _ from exprX hE h1) ?_)))))))
        (intro _ _ h; cases h; refine ⟨rfl, Ev.yes rfl ?_⟩; simp only [nthL])
        refine Ev.yes (Nat.ble_eq_true_of_le (by simp only [txt, List.length_map, List.length_append, List.length_cons, List.length_nil, maxLst]; omega)) ?_
        refine Ev.yes (Nat.ble_eq_true_of_le (by simp only [txt, List.length_map, List.length_append, List.length_cons, List.length_nil, maxLst]; omega)) ?_
        have e : ((x :: rest).drop 1).take (((x :: rest).length : Int).toNat - 1) = rest := by simp
        refine Ev.yes (by first | (simp; done) | (simp; omega)) (Ev.bindC (show Ev (fun n => ref09_List n (.lst 6 (((x :: rest).drop 1).take (((x :: rest).length : Int).toNat - 1)))) _ from by rw [e]; exact listX hA hL hE (by omega) hr) ?_)
        (intro _ _ h; cases h; refine ⟨rfl, Ev.yes rfl ?_⟩; simp only [nthL])
        refine Ev.yes (Nat.ble_eq_true_of_le (by simp only [txt, List.length_map, List.length_append, List.length_cons, List.length_nil, maxLst]; omega)) ?_
        refine Ev.yes (Nat.ble_eq_true_of_le (by simp only [txt, List.length_map, List.length_append, List.length_cons, List.length_nil, maxLst]; omega)) ?_
        refine Ev.ret ?_
        show _ = (true, [D.lst 1 (txt ([(3, [123])] ++ (wE d x ++ ([(3, [123])] ++ (lW (wE d) rest ++ [(3, [125]), (3, [125])])))))])
        simp [txt]
    · match xs, hm, ha with
      | [x], _, ha =>
        have h1 := ha x (by simp)
        have l1 := hL x h1
        refine Ev.no rfl (Ev.no rfl (Ev.no rfl (Ev.no rfl (Ev.no rfl (Ev.yes rfl (evDf (fun n => ref09_ExprWords_j1_def n _ _ _ _) (Ev.yes rfl (Ev.bindC (boundsX1 hA hL hE h1) ?_))))))))
        (intro _ _ h; cases h; refine ⟨rfl, Ev.yes rfl ?_⟩; simp only [nthL])
        refine Ev.yes (Nat.ble_eq_true_of_le (by simp only [txt, List.length_map, List.length_append, List.length_cons, List.length_nil, maxLst]; omega)) ?_
        refine Ev.ret ?_
        show _ = (true, [D.lst 1 (txt ([(1, t), (3, [91])] ++ (wE d x ++ [(3, [93])])))])
        simp [txt]
    · match xs, hm, ha with
      | [x, y], _, ha =>
        have h1 := ha x (by simp)
        have h2 := ha y (by simp)
        have l1 := hL x h1
        have l2 := hL y h2
        refine Ev.no rfl (Ev.no rfl (Ev.no rfl (Ev.no rfl (Ev.no rfl (Ev.no rfl (evDf (fun n => ref09_ExprWords_j1_def n _ _ _ _) (Ev.yes rfl (Ev.bindC (boundsX2 hA hL hE h1 h2) ?_))))))))
        (intro _ _ h; cases h; refine ⟨rfl, Ev.yes rfl ?_⟩; simp only [nthL])
        refine Ev.yes (Nat.ble_eq_true_of_le (by simp only [txt, List.length_map, List.length_append, List.length_cons, List.length_nil, maxLst]; omega)) ?_
        refine Ev.ret ?_
        show _ = (true, [D.lst 1 (txt ([(1, t), (3, [91])] ++ (wE d x ++ ([(3, [58])] ++ (wE d y ++ [(3, [93])])))))])
        simp [txt]
    · have hl := lW_len (xs := xs) fun x hx => hL x (ha x hx)
      have : xs.length * (EWx d + 1) ≤ 2 * (EWx d + 1) := Nat.mul_le_mul_right _ hm2
      refine Ev.no rfl (Ev.no rfl (Ev.no rfl (Ev.no rfl (Ev.no rfl (Ev.no rfl (evDf (fun n => ref09_ExprWords_j1_def n _ _ _ _) (Ev.no rfl (Ev.yes rfl (Ev.bindC (listX hA hL hE (by omega) ha) ?_)))))))))
      (intro _ _ h; cases h; refine ⟨rfl, Ev.yes rfl ?_⟩; simp only [nthL])
      refine Ev.yes (Nat.ble_eq_true_of_le (by simp only [txt, List.length_map, List.length_append, List.length_cons, List.length_nil, maxLst]; omega)) ?_
      refine Ev.yes (Nat.ble_eq_true_of_le (by simp only [txt, List.length_map, List.length_append, List.length_cons, List.length_nil, maxLst]; omega)) ?_
      refine Ev.ret ?_
      show _ = (true, [D.lst 1 (txt ([(1, t), (3, [40])] ++ (lW (wE d) xs ++ [(3, [41])])))])
      simp [txt]
end Go.Proofs.YtalibicpmfbieaaGreatDoor
