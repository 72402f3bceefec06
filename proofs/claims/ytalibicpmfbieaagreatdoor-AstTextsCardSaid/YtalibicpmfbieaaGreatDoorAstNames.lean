/- What is asked of expressions: depth, names, and the reference's answers. -/
import Derived.Test.YtalibicpmfbieaaGreatDoorAstMake
namespace Go.Proofs.YtalibicpmfbieaaGreatDoor
open Go.AE
set_option linter.unusedVariables false
set_option linter.unusedSimpArgs false
theorem shapeE_le {k : Int} {t : List UInt8} {m : Nat} (h : shapeE k t m) : m ≤ 3 := by
  rcases h with h | h | h | h | h | h | h | h | h | h <;> omega
theorem wfE_exp {d : Nat} {x : D} (h : wfE d x) : expTy ty_iiiisl6 x = x ∧ okTy ty_iiiisl6 x = true := by
  cases d with
  | zero => exact h.elim
  | succ d => obtain ⟨k, t, xs, rfl, _⟩ := h; exact ⟨rfl, rfl⟩
theorem own_ev : ∀ (d : Nat) (x : D), wfE d x → Ev (fun n => law09_OwnExpr n x) fun r => r = (true, [x]) := by
  intro d
  induction d with
  | zero => intro x h; exact h.elim
  | succ d ih =>
    rintro x ⟨k, t, xs, rfl, hs, ha⟩
    have hl := shapeE_le hs
    refine Ev.eq (fun n => law09_OwnExpr_eq n k 0 0 0 t xs) ?_
    have loop : ∀ (m j : Nat), xs.length - j = m → j ≤ xs.length → Ev (fun n => law09_OwnExprs_L0 n (.lst 6 xs) (.int .i64 (xs.length : Int)) (.int .i64 (j : Int)) (.lst 6 (xs.take j))) fun r =>
        r = (false, [.lst 6 xs, .int .i64 (xs.length : Int), .int .i64 (xs.length : Int), .lst 6 xs]) := by
      intro m
      induction m with
      | zero =>
        intro j hm hj
        have : j = xs.length := by omega
        subst this
        refine Ev.eq (fun n => law09_OwnExprs_L0_eq n xs _ _ _) (Ev.no (decide_eq_false (by omega)) (Ev.ret ?_))
        simp
      | succ m ihm =>
        intro j hm hj
        have hlt : j < xs.length := by omega
        refine Ev.eq (fun n => law09_OwnExprs_L0_eq n xs _ _ _) (Ev.yes (decide_eq_true (by omega)) (Ev.yes (in_range hlt) ?_))
        have hw := ha xs[j] (List.getElem_mem hlt)
        obtain ⟨e1, e2⟩ := wfE_exp hw
        rw [get_nat hlt, e1, e2]
        refine Ev.yes rfl ?_
        refine Ev.bindC (ih xs[j] hw) ?_
        intro b ds h; cases h; refine ⟨rfl, ?_⟩
        refine Ev.yes (show chk law09_OwnExpr.osk [xs[j]] = true by have := e2; simp only [chk, law09_OwnExpr.osk, chkSlots, chkV, chkLeaf, chkObs] at this ⊢; simp [show okTy ty_iiiisl6 xs[j] = true from e2]) ?_
        refine Ev.yes (Nat.ble_eq_true_of_le (by simp [maxLst]; omega)) ?_
        rw [wrap_succ (by omega)]
        have e3 : xs.take j ++ [expTy ty_iiiisl6 (nth [xs[j]] 0)] = xs.take (j + 1) := by
          rw [show nth [xs[j]] 0 = xs[j] from rfl, e1, List.take_succ_eq_append_getElem hlt]
        rw [e3]
        exact ihm (j + 1) (by omega) (by omega)
    refine Ev.bindC (Q := fun r => r = (true, [.lst 6 xs])) (Ev.eq (fun n => law09_OwnExprs_eq n xs) ?_) ?_
    · refine Ev.bindL (loop xs.length 0 rfl (Nat.zero_le _)) (fun ds h => by cases h) fun ds h => ?_
      cases h
      exact Ev.yes rfl (Ev.ret rfl)
    · intro b ds h; cases h; exact ⟨rfl, Ev.yes rfl (Ev.ret rfl)⟩
end Go.Proofs.YtalibicpmfbieaaGreatDoor
