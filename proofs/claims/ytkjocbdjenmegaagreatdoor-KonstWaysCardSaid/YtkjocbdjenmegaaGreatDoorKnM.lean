/- Konst: trees with places: Placed, OwnExpr, Env; every tree evaluates alike. -/
import Derived.Test.YtkjocbdjenmegaaGreatDoorKnL
namespace Go.Proofs.YtkjocbdjenmegaaGreatDoor
open Go.AE
set_option linter.unusedVariables false
def wfK : Nat → D → Prop
  | 0, _ => False
  | n + 1, x => ∃ (k a b c : Int) (t : List UInt8) (xs : List D), x = exD k a b c t xs ∧ shapeE k t xs.length ∧ ∀ y ∈ xs, wfK n y
theorem wfK_of : ∀ {d : Nat} {x : D}, wfE d x → wfK d x
  | d + 1, x, h => by
    obtain ⟨k, t, xs, rfl, hs, hy⟩ := h
    exact ⟨k, 0, 0, 0, t, xs, rfl, hs, fun y hm => wfK_of (hy y hm)⟩
theorem shapeE_len {k : Int} {t : List UInt8} {m : Nat} (h : shapeE k t m) : m ≤ 3 := by
  unfold shapeE at h
  rcases h with ⟨_, _, h⟩ | ⟨_, _, h⟩ | ⟨_, _, h⟩ | ⟨_, _, h⟩ | ⟨_, _, h⟩ | ⟨_, _, _, h⟩ | ⟨_, _, _, h⟩ | ⟨_, _, h⟩ | ⟨_, _, h⟩ | ⟨_, _, _, h⟩ <;> omega
theorem wfX_of : ∀ {d : Nat} {x : D}, wfK d x → wfX d x
  | d + 1, x, h => by
    obtain ⟨k, a, b, c, t, xs, rfl, hs, hy⟩ := h
    have := shapeE_len hs
    exact ⟨k, a, b, c, t, xs, rfl, by omega, fun y hm => wfX_of (hy y hm)⟩
theorem wfK_isE {d : Nat} {x : D} (h : wfK d x) : IsE x := by
  cases d with
  | zero => exact h.elim
  | succ d => obtain ⟨k, a, b, c, t, xs, rfl, _⟩ := h; exact ⟨k, a, b, c, t, xs, rfl⟩
theorem isE_ok {x : D} (h : IsE x) : (notAny ty_iiiisl6 && okTy ty_iiiisl6 x) = true ∧ expTy ty_iiiisl6 x = x := by
  obtain ⟨k, a, b, c, t, xs, rfl⟩ := h
  exact ⟨rfl, rfl⟩
theorem kown_is : ∀ (d : Nat) (x : D), wfX d x → Ev (fun n => law09_OwnExpr n x) fun r => r = (true, [x])
  | d + 1, x, h => by
    obtain ⟨k, a, b, c, t, xs, rfl, hl, hy⟩ := h
    have loop : ∀ (m j : Nat), xs.length - j = m → j ≤ xs.length →
        Ev (fun n => law09_OwnExprs_L0 n (.lst 6 xs) (.int .i64 (xs.length : Int)) (.int .i64 (j : Int)) (.lst 6 (xs.take j))) fun r => ∃ j' : Int, r = (false, [.lst 6 xs, .int .i64 (xs.length : Int), .int .i64 j', .lst 6 xs]) := by
      intro m
      induction m with
      | zero =>
        intro j hm hj
        rw [List.take_of_length_le (by omega)]
        exact Ev.eq (fun n => law09_OwnExprs_L0_eq n _ _ _ _) (Ev.no (decide_eq_false (by omega)) (Ev.ret ⟨_, rfl⟩))
      | succ m ih =>
        intro j hm hj
        have hj2 : j < xs.length := by omega
        have hw : IntKind.i64.wrap ((j : Int) + 1) = ((j + 1 : Nat) : Int) := wrap_succ (by omega)
        have hyj := hy xs[j] (List.getElem_mem hj2)
        obtain ⟨o1, o2⟩ := wfX_ok hyj
        have ht := kown_is d xs[j] hyj
        have nx := ih (j + 1) (by omega) hj2
        rw [List.take_succ_eq_append_getElem hj2] at nx
        refine Ev.eq (fun n => law09_OwnExprs_L0_eq n _ _ _ _) (Ev.yes (decide_eq_true (by omega)) (Ev.yes (in_range hj2) ?_))
        rw [get_nat hj2, hw, o2]
        have hc : chk law09_OwnExpr.osk [xs[j]] = true := by
          have q := hyj
          obtain ⟨d', rfl⟩ : ∃ d', d = d' + 1 := by cases d with | zero => exact q.elim | succ d' => exact ⟨d', rfl⟩
          obtain ⟨k', a', b', c', t', xs', e, _⟩ := q
          rw [e]; rfl
        refine Ev.yes o1 (evCall ht (Ev.yes hc (Ev.yes (Nat.ble_eq_true_of_le (by rw [List.length_take]; simp only [maxLst]; omega)) ?_)))
        show Ev (fun n => law09_OwnExprs_L0 n _ _ _ (.lst 6 (xs.take j ++ [expTy ty_iiiisl6 xs[j]]))) _
        rw [o2]
        exact nx
    have h0 := loop xs.length 0 rfl (Nat.zero_le _)
    rw [List.take_zero] at h0
    have h1 : Ev (fun n => law09_OwnExprs n (.lst 6 xs)) fun r => r = (true, [.lst 6 xs]) := by
      refine Ev.eq (fun n => law09_OwnExprs_eq n _) (Ev.bindL h0 (fun ds h => by obtain ⟨_, h⟩ := h; cases h) fun ds h => ?_)
      obtain ⟨_, h⟩ := h
      cases h
      exact Ev.yes rfl (Ev.ret rfl)
    exact Ev.eq (fun n => law09_OwnExpr_eq n _ _ _ _ _ _) (evCall h1 (Ev.yes rfl (Ev.ret rfl)))
theorem placed_is : ∀ (d : Nat) (x : D) (m : Int), wfK d x → Ev (fun n => law11_Placed n x (.int .i64 m)) fun r => ∃ (x' : D) (m' : Int), r = (true, [x', .int .i64 m']) ∧ wfK d x'
  | d + 1, x, m0, h => by
    obtain ⟨k, a, b, c, t, xs, rfl, hs, hy⟩ := h
    have hl3 := shapeE_len hs
    have loop : ∀ (m j : Nat) (u : Int) (ys : List D), xs.length - j = m → j ≤ xs.length → ys.length = j → (∀ y ∈ ys, wfK d y) →
        Ev (fun n => law11_Placed_L0 n (.int .i64 u) (.lst 6 xs) (.int .i64 (xs.length : Int)) (.int .i64 (j : Int)) (.int .i64 k) (.int .i64 1) (.int .i64 1) (.int .i64 m0) (.str t) (.lst 6 xs) (.int .i64 0) (.int .i64 0) (.int .i64 0) (.int .i64 0) (.str []) (.lst 6 ys) (.lst 6 [])) fun r => ∃ (u' j' : Int) (ys' : List D), r = (false, [.int .i64 u', .lst 6 xs, .int .i64 (xs.length : Int), .int .i64 j', .int .i64 k, .int .i64 1, .int .i64 1, .int .i64 m0, .str t, .lst 6 xs, .int .i64 0, .int .i64 0, .int .i64 0, .int .i64 0, .str [], .lst 6 ys', .lst 6 []]) ∧ ys'.length = xs.length ∧ ∀ y ∈ ys', wfK d y := by
      intro m
      induction m with
      | zero =>
        intro j u ys hm hj hl hw
        exact Ev.eq (fun n => law11_Placed_L0_eq n _ _ _ _ _ _ _ _ _ _ _ _ _ _ _ _ _) (Ev.no (decide_eq_false (by omega)) (Ev.ret ⟨_, _, ys, rfl, by omega, hw⟩))
      | succ m ih =>
        intro j u ys hm hj hl hw
        have hj2 : j < xs.length := by omega
        have hww : IntKind.i64.wrap ((j : Int) + 1) = ((j + 1 : Nat) : Int) := wrap_succ (by omega)
        have hyj := hy xs[j] (List.getElem_mem hj2)
        obtain ⟨o1, o2⟩ := isE_ok (wfK_isE hyj)
        refine Ev.eq (fun n => law11_Placed_L0_eq n _ _ _ _ _ _ _ _ _ _ _ _ _ _ _ _ _) (Ev.yes (decide_eq_true (by omega)) (Ev.yes (in_range hj2) ?_))
        rw [get_nat hj2, hww, o2]
        refine Ev.yes o1 (Ev.bindC (placed_is d xs[j] u hyj) ?_)
        rintro _ _ ⟨x', m', h, hx'⟩
        cases h
        obtain ⟨k', a', b', c', t', xs', rfl⟩ := wfK_isE hx'
        refine ⟨rfl, Ev.yes rfl (Ev.yes (Nat.ble_eq_true_of_le (by simp only [maxLst]; omega)) ?_)⟩
        refine ih (j + 1) m' (ys ++ [exD k' a' b' c' t' xs']) (by omega) hj2 (by rw [List.length_append, hl]; rfl) fun y hm => ?_
        rcases List.mem_append.1 hm with hm | hm
        · exact hw y hm
        · rw [List.mem_singleton.1 hm]; exact hx'
    refine Ev.eq (fun n => law11_Placed_eq n _ _ _ _ _ _ _) (Ev.bindL (loop xs.length 0 (IntKind.i64.wrap (m0 + 1)) [] rfl (Nat.zero_le _) rfl (fun y hy => by simp at hy)) (fun ds h => by obtain ⟨_, _, _, h, _⟩ := h; cases h) fun ds h => ?_)
    obtain ⟨u', j', ys', h, hl, hw⟩ := h
    cases h
    exact Ev.yes rfl (Ev.ret ⟨exD k 1 1 m0 t ys', u', rfl, ⟨_, _, _, _, _, _, rfl, by rw [hl]; exact hs, hw⟩⟩)
theorem num_table : ∀ t ∈ numT, ∃ (w n : Nat) (sg sz : Bool) (v : Int), parseF t = .ok w n sg sz ∧ intF w n sg = (v, 0) ∧ InR v ∧ t.length ≤ 100 := by
  intro t ht
  simp only [numT, List.mem_cons, List.not_mem_nil, or_false] at ht
  rcases ht with rfl | rfl | rfl | rfl | rfl | rfl | rfl | rfl
  · exact ⟨32, 0, true, false, 0, rfl, rfl, ⟨by decide, by decide⟩, by decide⟩
  · exact ⟨32, 1, true, false, 1, rfl, rfl, ⟨by decide, by decide⟩, by decide⟩
  · exact ⟨32, 2, true, false, 2, rfl, rfl, ⟨by decide, by decide⟩, by decide⟩
  · exact ⟨32, 7, true, false, 7, rfl, rfl, ⟨by decide, by decide⟩, by decide⟩
  · exact ⟨4, 10, false, true, 10, rfl, rfl, ⟨by decide, by decide⟩, by decide⟩
  · exact ⟨8, 255, false, true, 255, rfl, rfl, ⟨by decide, by decide⟩, by decide⟩
  · exact ⟨3, 2, true, true, 2, rfl, rfl, ⟨by decide, by decide⟩, by decide⟩
  · exact ⟨32, 10, true, false, 10, rfl, rfl, ⟨by decide, by decide⟩, by decide⟩
/-- Environments, the program's and the reference's. -/
structure EnvOk (lo lr : Env0) : Prop where
  szo : lo.length ≤ 1048576
  szr : lr.length ≤ 1048576
  rng : ∀ q ∈ lr, InR q.2
  look : ∀ t, lookF t lo = lookB t lr
theorem eval_all {lo lr : Env0} (he : EnvOk lo lr) : ∀ (d : Nat) (x : D), wfK d x → ∃ R, EvalIs x (lo.map nmD) (lr.map nmD) R
  | d + 1, x, h => by
    obtain ⟨k, a, b, c, t, xs, rfl, hs, hy⟩ := h
    have sub := fun y hm => eval_all he d y (hy y hm)
    have isE := fun y hm => wfK_isE (hy y hm)
    unfold shapeE at hs
    rcases hs with ⟨rfl, ht, hl⟩ | ⟨rfl, ht, hl⟩ | ⟨rfl, ht, hl⟩ | ⟨rfl, ht, hl⟩ | ⟨rfl, ht, hl⟩ | ⟨rfl, _⟩ | ⟨rfl, _⟩ | ⟨rfl, _⟩ | ⟨rfl, _⟩ | ⟨rfl, _⟩
    · obtain ⟨w, n, sg, sz, v, q1, q2, q3, q4⟩ := num_table t ht
      exact ⟨_, knum_is a b c xs _ _ (by omega) q1 q2 q3⟩
    · exact name_is a b c t xs he.szo he.szr he.rng (he.look t)
    · obtain ⟨x, rfl⟩ : ∃ x, xs = [x] := by
        match xs, hl with
        | [x], _ => exact ⟨x, rfl⟩
      obtain ⟨R, hR⟩ := sub x (by simp)
      exact un_is t a b c (isE x (by simp)) hR
    · obtain ⟨x, y, rfl⟩ : ∃ x y, xs = [x, y] := by
        match xs, hl with
        | [x, y], _ => exact ⟨x, y, rfl⟩
      obtain ⟨R1, h1⟩ := sub x (by simp)
      obtain ⟨R2, h2⟩ := sub y (by simp)
      exact bin_is ht a b c (isE x (by simp)) (isE y (by simp)) h1 h2
    · obtain ⟨x, y, z, rfl⟩ : ∃ x y z, xs = [x, y, z] := by
        match xs, hl with
        | [x, y, z], _ => exact ⟨x, y, z, rfl⟩
      obtain ⟨R1, h1⟩ := sub x (by simp)
      obtain ⟨R2, h2⟩ := sub y (by simp)
      obtain ⟨R3, h3⟩ := sub z (by simp)
      exact ⟨_, cond_is t a b c (isE x (by simp)) (isE y (by simp)) (isE z (by simp)) h1 h2 h3⟩
    all_goals exact ⟨_, other_is ⟨by decide, by decide, by decide, by decide, by decide⟩ a b c t xs _ _⟩
end Go.Proofs.YtkjocbdjenmegaaGreatDoor
