/- The parser makes of an expression's words that expression, but for places. -/
import Derived.Test.YtalibicpmfbieaaGreatDoorPxC
namespace Go.Proofs.YtalibicpmfbieaaGreatDoor
open Go.AE
set_option linter.unusedVariables false
set_option linter.unusedSimpArgs false
theorem Ph.cast {F : PF} {l : List D} {i m m' : Nat} {R : D → Prop} {h : Nat} (H : Ph F l i m R h) (e : m = m') : Ph F l i m' R h := e ▸ H
theorem okN_goodN {t : List UInt8} (h : okN t = true) : goodN t = true := by
  simp only [okN, Bool.and_eq_true] at h
  exact h.1.1.1.1
theorem cu_tab : ((clT ++ opsT ++ [[63]]).all fun t => !(t == [91]) && !(t == [40])) = true := by kernel_rfl
theorem cu_name (t : List UInt8) (h : cu t = true) : (t == [91]) = false ∧ (t == [40]) = false := by
  have hm : t ∈ clT ++ opsT ++ [[63]] := by
    simp only [cu, Bool.or_eq_true, List.contains_iff_mem, beq_iff_eq] at h
    simp only [List.mem_append, List.mem_singleton]
    exact h
  have := List.all_eq_true.1 cu_tab t hm
  simpa using this
section
variable {l : List D} (hl : l.length ≤ 1000000)
include hl
omit hl in
theorem expr_unary {i m : Nat} {R : D → Prop} {h : Nat} (hl : l.length ≤ 1000000) (hR : ∀ y, R y → IsE y) (hx : ∃ k t a b e, l[i]? = some (tk k t a b e)) (hn : Nx l (i + m) cl) (H : Ph unF l i m R h) : Ph expF l i m R (h + 1) :=
  expr_of hl hR hx hn (level_of hR hn hx 10 0 (by decide) (fun t ht => cl_noLev ht _) (level_unary hR H))
end
end Go.Proofs.YtalibicpmfbieaaGreatDoor
