/- Konst: operators of two and conditions, with errors. -/
import Derived.Test.YtkjocbdjenmegaaDoorKnJ
namespace Go.Proofs.YtkjocbdjenmegaaDoor
open Go.AE
set_option linter.unusedVariables false
theorem inR_of {v : Int} (h : inB v = true) : InR v := by
  unfold inB at h
  rw [Bool.and_eq_true] at h
  exact ⟨of_decide_eq_true h.1, of_decide_eq_true h.2⟩
/-- The first operand has an error, or there was one before. -/
theorem two_keep (t : List UInt8) (p0 p1 p2 : Int) {x : D} (hx : IsE x) (ys : List D) {L : List D} {p q r e p' q' r' e' : Int} (he : e' ≠ 0)
    (h : Ev (fun n => konst_evaler_expr n x (.lst 2 L) (.int .i64 p) (.int .i64 q) (.int .i64 r) (.int .i64 e)) fun z => ∃ n : Int, z = (true, stE n L p' q' r' e')) :
    Ev (fun n => konst_evaler_expr n (exD 4 p0 p1 p2 t (x :: ys)) (.lst 2 L) (.int .i64 p) (.int .i64 q) (.int .i64 r) (.int .i64 e)) fun z => z = (true, stE 0 L p' q' r' e') := by
  obtain ⟨k, a, b, c, tt, xs, rfl⟩ := hx
  have hc : (true && decide ((0 : Int) < ((exD k a b c tt xs :: ys).length : Int))) = true := and_tt rfl (decide_eq_true (by simp only [List.length_cons]; omega))
  have ht : Ev (fun n => konst_evaler_two n (exD 4 p0 p1 p2 t (exD k a b c tt xs :: ys)) (.lst 2 L) (.int .i64 p) (.int .i64 q) (.int .i64 r) (.int .i64 e)) fun z => z = (true, stE 0 L p' q' r' e') :=
    Ev.eq (fun n => konst_evaler_two_eq n _ _ _ _ _ _ _ _ _ _ _) (Ev.yes hc (Ev.yes rfl (evCallE (f := fun n => stE n L p' q' r' e') h fun n => Ev.yes rfl (Ev.yes (ne_0' he).1 (Ev.ret rfl)))))
  exact Ev.eq (fun n => konst_evaler_expr_eq n _ _ _ _ _ _ _ _ _ _ _) (Ev.no rfl (Ev.no rfl (Ev.no rfl (Ev.yes rfl (evCall ht (Ev.yes rfl (j1_keep 0 L p' q' r' he p0 p1 p2)))))))
/-- A condition whose test has an error, or behind one. -/
theorem cond_keep (t : List UInt8) (p0 p1 p2 : Int) {x y z : D} (hx : IsE x) (hy : IsE y) {L : List D} {p q r e p' q' r' e' : Int} (he : e' ≠ 0)
    (h : Ev (fun n => konst_evaler_expr n x (.lst 2 L) (.int .i64 p) (.int .i64 q) (.int .i64 r) (.int .i64 e)) fun z => ∃ n : Int, z = (true, stE n L p' q' r' e'))
    (h2 : Ev (fun n => konst_evaler_expr n y (.lst 2 L) (.int .i64 p') (.int .i64 q') (.int .i64 r') (.int .i64 e')) fun z => ∃ n : Int, z = (true, stE n L p' q' r' e')) :
    Ev (fun n => konst_evaler_expr n (exD 5 p0 p1 p2 t [x, y, z]) (.lst 2 L) (.int .i64 p) (.int .i64 q) (.int .i64 r) (.int .i64 e)) fun z => ∃ n : Int, z = (true, stE n L p' q' r' e') := by
  obtain ⟨k, a, b, c, tt, xs, rfl⟩ := hx
  obtain ⟨k2, a2, b2, c2, tt2, xs2, rfl⟩ := hy
  refine Ev.eq (fun n => konst_evaler_expr_eq n _ _ _ _ _ _ _ _ _ _ _) (Ev.no rfl (Ev.no rfl (Ev.no rfl (Ev.no rfl (Ev.yes rfl (Ev.yes rfl (Ev.yes rfl (evCallE (f := fun n => stE n L p' q' r' e') h fun n => Ev.yes rfl (Ev.test (fun _ => ?_) fun _ => ?_)))))))))
  · exact Ev.yes rfl (Ev.yes rfl (evCallE (f := fun n => stE n L p' q' r' e') h2 fun n => Ev.yes rfl (Ev.ret ⟨_, rfl⟩)))
  · exact Ev.no (ne_0' he).2 ((j1_keep 0 L p' q' r' he p0 p1 p2).mono fun z hz => ⟨_, hz⟩)
def condR (R1 R2 R3 : Rz) : Rz := match R1 with
  | .bad a b c e => .bad a b c e
  | .ok v => bif v != 0 then R2 else R3
end Go.Proofs.YtkjocbdjenmegaaDoor
