/- What is asked of expressions: depth, names, and the reference's answers. -/
import Derived.Test.YtfadegfceobogaaAstMake
namespace Go.Proofs.Ytfadegfceobogaa
open Go.AE
set_option linter.unusedVariables false
set_option linter.unusedSimpArgs false
/-- Does it begin with a dollar sign? -/
def dollar : List UInt8 → Bool
  | c :: _ => c == 36
  | [] => false
def nk (k : Int) : Bool := k == 2 || k == 8 || k == 9 || k == 10
/-- The names of an expression, in the order of the text. -/
def nmE : Nat → D → List (List UInt8)
  | n + 1, .agg [.int _ k, _, _, _, .str t, .lst _ xs] => (if nk k && !dollar t then [t] else []) ++ xs.flatMap (nmE n)
  | _, _ => []
theorem nmE_E (n : Nat) (k : Int) (t : List UInt8) (xs : List D) : nmE (n + 1) (E k t xs) = (if nk k && !dollar t then [t] else []) ++ xs.flatMap (nmE n) := rfl
theorem flat_le {xs : List D} {f : D → List (List UInt8)} {m : Nat} (h : ∀ x ∈ xs, (f x).length ≤ m) : (xs.flatMap f).length ≤ xs.length * m := by
  induction xs with
  | nil => simp
  | cons x xs ih =>
    have h1 := h x (by simp)
    have h2 := ih fun y hy => h y (by simp [hy])
    simp only [List.flatMap_cons, List.length_append, List.length_cons, Nat.succ_mul]
    omega
theorem shapeE_le {k : Int} {t : List UInt8} {m : Nat} (h : shapeE k t m) : m ≤ 3 := by
  rcases h with h | h | h | h | h | h | h | h | h | h <;> omega
theorem nmE_le : ∀ (d : Nat) (x : D), wfE d x → (nmE d x).length ≤ 4 ^ d
  | 0, x, h => h.elim
  | d + 1, x, ⟨k, t, xs, hx, hs, ha⟩ => by
    subst hx
    rw [nmE_E]
    have h1 := flat_le (m := 4 ^ d) fun y hy => nmE_le d y (ha y hy)
    have h2 := shapeE_le hs
    have h3 : xs.length * 4 ^ d ≤ 3 * 4 ^ d := Nat.mul_le_mul_right _ h2
    have h4 : 1 ≤ 4 ^ d := Nat.one_le_pow _ _ (by decide)
    rw [List.length_append]
    have h5 : (if (nk k && !dollar t) = true then [t] else []).length ≤ 1 := by split <;> simp
    have h6 : 4 ^ (d + 1) = 4 * 4 ^ d := by rw [Nat.pow_succ]; omega
    omega

/-! The program's walk. -/
theorem hasPrefix_ev (t : List UInt8) : Ev (fun n => strings_HasPrefix n (.str t) (.str [36])) fun r => r = (true, [.bool (dollar t)]) := by
  refine Ev.eq (fun n => strings_HasPrefix_eq n t [36]) ?_
  refine Ev.bindC (Q := fun r => r = (true, [.bool (dollar t)])) (Ev.eq (fun n => internal_stringslite_HasPrefix_eq n t [36]) ?_) ?_
  · refine Ev.test (fun h => ?_) (fun h => ?_)
    · have h := of_decide_eq_true h
      refine Ev.yes (by simp at h ⊢; omega) (Ev.ret ?_)
      cases t with
      | nil => simp at h
      | cons c t => simp [dollar]
    · have h := of_decide_eq_false h
      cases t with
      | nil => exact Ev.ret rfl
      | cons c t => simp at h; omega
  · intro b ds h; cases h; exact ⟨rfl, Ev.yes rfl (Ev.ret rfl)⟩
theorem names1_ev (k : Int) (t : List UInt8) (xs acc : List D) (hacc : acc.length + 1 ≤ maxLst) :
    Ev (fun n => ast_Names_1 n (E k t xs) (.lst 1 acc)) fun r => r = (true, [.lst 1 (acc ++ ((if nk k && !dollar t then [t] else []).map D.str))]) := by
  have c5 : ∀ b : Bool, Ev (fun n => ast_Names_1_c5 n (.bool b) (.int .i64 k) (.int .i64 0) (.int .i64 0) (.int .i64 0) (.str t) (.lst 6 xs) (.lst 1 acc)) fun r =>
      r = (false, [.bool b, .int .i64 k, .int .i64 0, .int .i64 0, .int .i64 0, .str t, .lst 6 xs, .lst 1 (acc ++ ((if b && !dollar t then [t] else []).map D.str))]) := by
    intro b
    refine Ev.eq (fun n => ast_Names_1_c5_eq n b k 0 0 0 t xs acc) ?_
    cases b with
    | false => exact Ev.ret (by simp)
    | true =>
      refine Ev.yes rfl ?_
      refine Ev.bindC (hasPrefix_ev t) ?_
      intro b ds h; cases h; refine ⟨rfl, ?_⟩
      refine Ev.yes rfl ?_
      cases hd : dollar t with
      | true => exact Ev.no rfl (Ev.ret (by simp))
      | false => exact Ev.yes rfl (Ev.yes (Nat.ble_eq_true_of_le hacc) (Ev.ret (by simp)))
  have fin : ∀ b : Bool, b = nk k → Ev (fun n => AE.bindL (ast_Names_1_c5 n (.bool b) (.int .i64 k) (.int .i64 0) (.int .i64 0) (.int .i64 0) (.str t) (.lst 6 xs) (.lst 1 acc)) fun r1 => bif chk ast_Names_1_c5.sk r1 then (some (true, [(.lst 1 (nth r1 7).l)])) else none)
      fun r => r = (true, [.lst 1 (acc ++ ((if nk k && !dollar t then [t] else []).map D.str))]) := by
    intro b hb
    refine Ev.bindL (c5 b) (fun ds h => by cases h) fun ds h => ?_
    cases h
    refine Ev.yes rfl (Ev.ret ?_)
    rw [← hb]; rfl
  refine Ev.eq (fun n => ast_Names_1_eq n k 0 0 0 t xs acc) ?_
  refine Ev.test (fun h => fin true ?_) fun h2 => ?_
  · simp [nk, h]
  refine Ev.test (fun h => fin true ?_) fun h8 => ?_
  · simp [nk, h]
  refine Ev.test (fun h => fin true ?_) fun h9 => ?_
  · simp [nk, h]
  refine fin _ ?_
  simp only [nk, h2, h8, h9, Bool.false_or]
theorem wfE_exp {d : Nat} {x : D} (h : wfE d x) : expTy ty_iiiisl6 x = x ∧ okTy ty_iiiisl6 x = true := by
  cases d with
  | zero => exact h.elim
  | succ d => obtain ⟨k, t, xs, rfl, _⟩ := h; exact ⟨rfl, rfl⟩
theorem walk_ev : ∀ (d : Nat) (x : D) (acc : List D), wfE d x → acc.length + 4 ^ d ≤ maxLst → Ev (fun n => ast_walk n x (.lst 1 acc)) fun r => r = (true, [.lst 1 (acc ++ (nmE d x).map D.str)]) := by
  intro d
  induction d with
  | zero => intro x acc h; exact h.elim
  | succ d ih =>
    rintro x acc ⟨k, t, xs, rfl, hs, ha⟩ hacc
    have hl := shapeE_le hs
    have hp : 4 ^ (d + 1) = 4 * 4 ^ d := by rw [Nat.pow_succ]; omega
    have h1 : 1 ≤ 4 ^ d := Nat.one_le_pow _ _ (by decide)
    refine Ev.eq (fun n => ast_walk_eq n k 0 0 0 t xs acc) ?_
    refine Ev.bindC (names1_ev k t xs acc (by omega)) ?_
    intro b ds h; cases h; refine ⟨rfl, ?_⟩
    refine Ev.yes rfl ?_
    have loop : ∀ (m j : Nat) (acc : List D), xs.length - j = m → j ≤ xs.length → acc.length + (xs.length - j) * 4 ^ d ≤ maxLst → Ev (fun n => ast_walk_L0 n (.lst 6 xs) (.int .i64 (xs.length : Int)) (.int .i64 (j : Int)) (.lst 1 acc)) fun r =>
        r = (false, [.lst 6 xs, .int .i64 (xs.length : Int), .int .i64 (xs.length : Int), .lst 1 (acc ++ ((xs.drop j).flatMap (nmE d)).map D.str)]) := by
      intro m
      induction m with
      | zero =>
        intro j acc hm hj hb
        have : j = xs.length := by omega
        subst this
        refine Ev.eq (fun n => ast_walk_L0_eq n xs _ _ acc) (Ev.no (decide_eq_false (by omega)) (Ev.ret ?_))
        simp
      | succ m ihm =>
        intro j acc hm hj hb
        have hlt : j < xs.length := by omega
        refine Ev.eq (fun n => ast_walk_L0_eq n xs _ _ acc) (Ev.yes (decide_eq_true (by omega)) (Ev.yes (in_range hlt) ?_))
        have hw := ha xs[j] (List.getElem_mem hlt)
        obtain ⟨e1, e2⟩ := wfE_exp hw
        rw [get_nat hlt, e1, e2]
        refine Ev.yes rfl ?_
        have hm1 : xs.length - j = (xs.length - (j + 1)) + 1 := by omega
        rw [hm1, Nat.succ_mul] at hb
        refine Ev.bindC (ih xs[j] acc hw (by omega)) ?_
        intro b ds h; cases h; refine ⟨rfl, ?_⟩
        refine Ev.yes rfl ?_
        rw [wrap_succ (by omega)]
        have hn := nmE_le d _ hw
        refine (ihm (j + 1) (acc ++ (nmE d xs[j]).map D.str) (by omega) (by omega) (by simp; omega)).mono fun r hr => ?_
        have e3 : ((xs.drop j).flatMap (nmE d)).map D.str = (nmE d xs[j]).map D.str ++ ((xs.drop (j + 1)).flatMap (nmE d)).map D.str := by rw [drop_cons hlt, List.flatMap_cons, List.map_append]
        rw [hr, e3, List.append_assoc]
    have h5 : (if (nk k && !dollar t) = true then [t] else []).length ≤ 1 := by split <;> simp
    refine Ev.bindL (loop xs.length 0 _ rfl (Nat.zero_le _) (by
      have h3 : xs.length * 4 ^ d ≤ 3 * 4 ^ d := Nat.mul_le_mul_right _ hl
      simp only [List.length_append, List.length_map, Nat.sub_zero, nth, D.l]; omega)) (fun ds h => by cases h) fun ds h => ?_
    cases h
    refine Ev.yes rfl (Ev.ret ?_)
    simp [nmE_E, nth, D.l]

/-! Depth. -/
def dpE : Nat → D → Int
  | n + 1, .agg [_, _, _, _, _, .lst _ xs] => xs.foldl (fun a x => max a (dpE n x)) 0 + 1
  | _, _ => 0
theorem dpE_E (n : Nat) (k : Int) (t : List UInt8) (xs : List D) : dpE (n + 1) (E k t xs) = xs.foldl (fun a x => max a (dpE n x)) 0 + 1 := rfl
theorem foldmax_le {f : D → Int} {m : Int} : ∀ {xs : List D} {a : Int}, 0 ≤ a → a ≤ m → (∀ x ∈ xs, 0 ≤ f x ∧ f x ≤ m) → 0 ≤ xs.foldl (fun a x => max a (f x)) a ∧ xs.foldl (fun a x => max a (f x)) a ≤ m
  | [], a, h0, h1, _ => ⟨h0, h1⟩
  | x :: xs, a, h0, h1, h => by
    have := h x (by simp)
    exact foldmax_le (xs := xs) (a := max a (f x)) (by omega) (by omega) fun y hy => h y (by simp [hy])
theorem dpE_le : ∀ (d : Nat) (x : D), wfE d x → 0 ≤ dpE d x ∧ dpE d x ≤ d
  | 0, x, h => h.elim
  | d + 1, x, ⟨k, t, xs, hx, hs, ha⟩ => by
    subst hx
    rw [dpE_E]
    have := foldmax_le (f := dpE d) (m := d) (xs := xs) (a := 0) (by omega) (by omega) fun y hy => dpE_le d y (ha y hy)
    omega
theorem depth_ev : ∀ (d : Nat) (x : D), wfE d x → d ≤ 1000 → Ev (fun n => ast_Depth n x) fun r => r = (true, [.int .i64 (dpE d x)]) := by
  intro d
  induction d with
  | zero => intro x h; exact h.elim
  | succ d ih =>
    rintro x ⟨k, t, xs, rfl, hs, ha⟩ hd
    have hl := shapeE_le hs
    refine Ev.eq (fun n => ast_Depth_eq n k 0 0 0 t xs) ?_
    have loop : ∀ (m j : Nat) (a : Int), xs.length - j = m → j ≤ xs.length → Ev (fun n => ast_Depth_L0 n (.int .i64 a) (.lst 6 xs) (.int .i64 (xs.length : Int)) (.int .i64 (j : Int))) fun r =>
        r = (false, [.int .i64 ((xs.drop j).foldl (fun a x => max a (dpE d x)) a), .lst 6 xs, .int .i64 (xs.length : Int), .int .i64 (xs.length : Int)]) := by
      intro m
      induction m with
      | zero =>
        intro j a hm hj
        have : j = xs.length := by omega
        subst this
        refine Ev.eq (fun n => ast_Depth_L0_eq n a xs _ _) (Ev.no (decide_eq_false (by omega)) (Ev.ret ?_))
        simp
      | succ m ihm =>
        intro j a hm hj
        have hlt : j < xs.length := by omega
        refine Ev.eq (fun n => ast_Depth_L0_eq n a xs _ _) (Ev.yes (decide_eq_true (by omega)) (Ev.yes (in_range hlt) ?_))
        have hw := ha xs[j] (List.getElem_mem hlt)
        obtain ⟨e1, e2⟩ := wfE_exp hw
        rw [get_nat hlt, e1, e2]
        refine Ev.yes rfl ?_
        refine Ev.bindC (ih xs[j] hw (by omega)) ?_
        intro b ds h; cases h; refine ⟨rfl, ?_⟩
        refine Ev.yes rfl ?_
        rw [wrap_succ (by omega)]
        refine (ihm (j + 1) _ (by omega) (by omega)).mono fun r hr => ?_
        rw [hr, drop_cons hlt, List.foldl_cons]
        rfl
    refine Ev.bindL (loop xs.length 0 0 rfl (Nat.zero_le _)) (fun ds h => by cases h) fun ds h => ?_
    cases h
    refine Ev.yes rfl (Ev.ret ?_)
    have := dpE_le (d + 1) (E k t xs) ⟨k, t, xs, rfl, hs, ha⟩
    rw [dpE_E] at this ⊢
    have e : IntKind.i64.wrap (xs.foldl (fun a x => max a (dpE d x)) 0 + 1) = xs.foldl (fun a x => max a (dpE d x)) 0 + 1 := wrap_id (by omega) (by omega)
    exact congrArg (fun z => (true, [D.int .i64 z])) e
theorem own_ev : ∀ (d : Nat) (x : D), wfE d x → Ev (fun n => law09_OwnExpr n x) fun r => r = (true, [x]) := by
  intro d
  induction d with
  | zero => intro x h; exact h.elim
  | succ d ih =>
    rintro x ⟨k, t, xs, rfl, hs, ha⟩
    have hl := shapeE_le hs
    refine Ev.eq (fun n => law09_OwnExpr_eq n k 0 0 0 t xs) ?_
    have loop : ∀ (m j : Nat), xs.length - j = m → j ≤ xs.length → Ev (fun n => law09_OwnExprs_L0 n (.lst 6 xs) (.int .i64 (xs.length : Int)) (.int .i64 (j : Int)) (.lst 6 (xs.take j))) fun r =>
        r = (false, [.lst 6 xs, .int .i64 (xs.length : Int), .int .i64 (xs.length : Int), .lst 6 xs]) := by
      intro m
      induction m with
      | zero =>
        intro j hm hj
        have : j = xs.length := by omega
        subst this
        refine Ev.eq (fun n => law09_OwnExprs_L0_eq n xs _ _ _) (Ev.no (decide_eq_false (by omega)) (Ev.ret ?_))
        simp
      | succ m ihm =>
        intro j hm hj
        have hlt : j < xs.length := by omega
        refine Ev.eq (fun n => law09_OwnExprs_L0_eq n xs _ _ _) (Ev.yes (decide_eq_true (by omega)) (Ev.yes (in_range hlt) ?_))
        have hw := ha xs[j] (List.getElem_mem hlt)
        obtain ⟨e1, e2⟩ := wfE_exp hw
        rw [get_nat hlt, e1, e2]
        refine Ev.yes rfl ?_
        refine Ev.bindC (ih xs[j] hw) ?_
        intro b ds h; cases h; refine ⟨rfl, ?_⟩
        refine Ev.yes (show chk law09_OwnExpr.osk [xs[j]] = true by have := e2; simp only [chk, law09_OwnExpr.osk, chkSlots, chkV, chkLeaf, chkObs] at this ⊢; simp [show okTy ty_iiiisl6 xs[j] = true from e2]) ?_
        refine Ev.yes (Nat.ble_eq_true_of_le (by simp [maxLst]; omega)) ?_
        rw [wrap_succ (by omega)]
        have e3 : xs.take j ++ [expTy ty_iiiisl6 (nth [xs[j]] 0)] = xs.take (j + 1) := by
          rw [show nth [xs[j]] 0 = xs[j] from rfl, e1, List.take_succ_eq_append_getElem hlt]
        rw [e3]
        exact ihm (j + 1) (by omega) (by omega)
    refine Ev.bindC (Q := fun r => r = (true, [.lst 6 xs])) (Ev.eq (fun n => law09_OwnExprs_eq n xs) ?_) ?_
    · refine Ev.bindL (loop xs.length 0 rfl (Nat.zero_le _)) (fun ds h => by cases h) fun ds h => ?_
      cases h
      exact Ev.yes rfl (Ev.ret rfl)
    · intro b ds h; cases h; exact ⟨rfl, Ev.yes rfl (Ev.ret rfl)⟩
end Go.Proofs.Ytfadegfceobogaa
