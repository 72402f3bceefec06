/- Konst: operators of one and two, conditions, with errors. -/
import Derived.Test.YtkjocbdjenmegaaDoorKnI
namespace Go.Proofs.YtkjocbdjenmegaaDoor
open Go.AE
set_option linter.unusedVariables false
theorem own_bad {x : D} {L : List D} {a b c e : Int} (h : Ev (fun n => konst_evaler_expr n x (.lst 2 L) (.int .i64 0) (.int .i64 0) (.int .i64 0) (.int .i64 0)) (fun r => ∃ ds, r = (true, ds) ∧ (Rz.bad a b c e).own L ds)) :
    Ev (fun n => konst_evaler_expr n x (.lst 2 L) (.int .i64 0) (.int .i64 0) (.int .i64 0) (.int .i64 0)) (fun r => ∃ n : Int, r = (true, stE n L a b c e)) :=
  h.mono fun r hr => by
    obtain ⟨ds, rfl, n, rfl⟩ := hr
    exact ⟨n, rfl⟩
theorem own_ok {x : D} {L : List D} {v : Int} (h : Ev (fun n => konst_evaler_expr n x (.lst 2 L) (.int .i64 0) (.int .i64 0) (.int .i64 0) (.int .i64 0)) (fun r => ∃ ds, r = (true, ds) ∧ (Rz.ok v).own L ds)) :
    Ev (fun n => konst_evaler_expr n x (.lst 2 L) (.int .i64 0) (.int .i64 0) (.int .i64 0) (.int .i64 0)) (fun r => r = (true, st0 v L)) :=
  h.mono fun r hr => by
    obtain ⟨ds, rfl, rfl⟩ := hr
    rfl
/-- One's operand has an error, or there was one before. -/
theorem one_keep {t : List UInt8} (ht : t = [45] ∨ t = [126] ∨ t = [33]) (p0 p1 p2 : Int) {x : D} (hx : IsE x) {L : List D} {p q r e p' q' r' e' : Int}
    (h : Ev (fun n => konst_evaler_expr n x (.lst 2 L) (.int .i64 p) (.int .i64 q) (.int .i64 r) (.int .i64 e)) fun z => ∃ n : Int, z = (true, stE n L p' q' r' e')) :
    Ev (fun n => konst_evaler_one n (exD 3 p0 p1 p2 t [x]) (.lst 2 L) (.int .i64 p) (.int .i64 q) (.int .i64 r) (.int .i64 e)) fun z => ∃ n : Int, z = (true, stE n L p' q' r' e') := by
  obtain ⟨k, a, b, c, tt, xs, rfl⟩ := hx
  refine Ev.eq (fun n => konst_evaler_one_eq n _ _ _ _ _ _ _ _ _ _ _) ?_
  rcases ht with rfl | rfl | rfl
  · exact Ev.yes rfl (Ev.yes rfl (Ev.yes rfl (evCallE (f := fun n => stE n L p' q' r' e') h fun n => Ev.yes rfl (Ev.ret ⟨_, rfl⟩))))
  · exact Ev.no rfl (Ev.yes rfl (Ev.yes rfl (Ev.yes rfl (evCallE (f := fun n => stE n L p' q' r' e') h fun n => Ev.yes rfl (Ev.ret ⟨_, rfl⟩)))))
  · exact Ev.no rfl (Ev.no rfl (Ev.yes rfl (Ev.yes rfl (Ev.yes rfl (evCallE (f := fun n => stE n L p' q' r' e') h fun n => Ev.yes rfl (evCall (truth_is _) (Ev.yes rfl (Ev.ret ⟨_, rfl⟩))))))))
theorem un_bad {t : List UInt8} (ht : t = [45] ∨ t = [126] ∨ t = [33]) (p0 p1 p2 : Int) {x : D} (hx : IsE x) {L : List D} {p q r e p' q' r' e' : Int} (he : e' ≠ 0)
    (h : Ev (fun n => konst_evaler_expr n x (.lst 2 L) (.int .i64 p) (.int .i64 q) (.int .i64 r) (.int .i64 e)) fun z => ∃ n : Int, z = (true, stE n L p' q' r' e')) :
    Ev (fun n => konst_evaler_expr n (exD 3 p0 p1 p2 t [x]) (.lst 2 L) (.int .i64 p) (.int .i64 q) (.int .i64 r) (.int .i64 e)) fun z => ∃ n : Int, z = (true, stE n L p' q' r' e') :=
  Ev.eq (fun n => konst_evaler_expr_eq n _ _ _ _ _ _ _ _ _ _ _) (Ev.no rfl (Ev.no rfl (Ev.yes rfl (evCallE (f := fun n => stE n L p' q' r' e') (one_keep ht p0 p1 p2 hx h) fun n => Ev.yes rfl ((j1_keep n L p' q' r' he p0 p1 p2).mono fun z hz => ⟨_, hz⟩)))))
end Go.Proofs.YtkjocbdjenmegaaDoor
