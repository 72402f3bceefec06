/- Konst: any tree of the maker's: the program's value is the reference's. -/
import Derived.Test.YtkjocbdjenmegaaDoorKnH
namespace Go.Proofs.YtkjocbdjenmegaaDoor
open Go.AE
set_option linter.unusedVariables false
inductive Rz
  | ok (v : Int)
  | bad (a b c e : Int)
def Rz.Good : Rz → Prop
  | .ok v => InR v
  | .bad _ _ _ e => e ≠ 0
def Rz.own (L : List D) : Rz → List D → Prop
  | .ok v, r => r = st0 v L
  | .bad a b c e, r => ∃ n : Int, r = stE n L a b c e
def Rz.ref : Rz → D
  | .ok v => outD v 0 0 0 0
  | .bad a b c e => outD 0 a b c e
theorem ne_0' {x : Int} (h : x ≠ 0) : (x != 0) = true ∧ (x == 0) = false := by simp [h]
/-- Behind an error nothing changes. -/
theorem j1_keep (v : Int) (L : List D) (p q r : Int) {e : Int} (he : e ≠ 0) (a b c : Int) : Ev (fun n => konst_evaler_expr_j1 n v L p q r e a b c) fun z => z = (true, stE v L p q r e) :=
  evDfn (fun n => konst_evaler_expr_j1_def n _ _ _ _ _ _ _ _ _) (Ev.no (ne_0' he).2 (evDfn (fun n => konst_evaler_expr_j2_def n _ _ _ _ _ _ _ _ _ _) (Ev.no rfl (Ev.ret rfl))))
theorem evCallE {α : Sort _} {t : Nat → Out} {k : List D → Nat → Out} {f : α → List D} {P : Bool × List D → Prop} (h : Ev t fun r => ∃ a, r = (true, f a)) (hk : ∀ a, Ev (k (f a)) P) : Ev (fun n => AE.bindC (t n) fun ds => k ds n) P := by
  refine Ev.bindC h ?_
  rintro _ _ ⟨a, h⟩
  cases h
  exact ⟨rfl, hk a⟩
/-- The reference looks from behind. -/
def lookB (t : List UInt8) (l : Env0) : Option Int := lookF t l.reverse
end Go.Proofs.YtkjocbdjenmegaaDoor
