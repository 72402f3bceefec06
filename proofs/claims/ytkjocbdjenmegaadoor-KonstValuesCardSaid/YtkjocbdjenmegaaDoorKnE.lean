/- Konst: an operator of two over operands with numbers, the program's and the reference's. -/
import Derived.Test.YtkjocbdjenmegaaDoorKnD
namespace Go.Proofs.YtkjocbdjenmegaaDoor
open Go.AE
set_option linter.unusedVariables false
def IsE (x : D) : Prop := ∃ (k a b c : Int) (t : List UInt8) (xs : List D), x = exD k a b c t xs
def valT (t : List UInt8) (a b : Int) : Int := bif t == [38, 38] then (bif a == 0 then 0 else trI (b != 0)) else bif t == [124, 124] then (bif a != 0 then 1 else trI (b != 0)) else resV t a b
def st0 (v : Int) (L : List D) : List D := [.int .i64 v, .lst 2 L, .int .i64 0, .int .i64 0, .int .i64 0, .int .i64 0]
def stE (v : Int) (L : List D) (p q r e : Int) : List D := [.int .i64 v, .lst 2 L, .int .i64 p, .int .i64 q, .int .i64 r, .int .i64 e]
theorem otwo_is {t : List UInt8} (ht : t ∈ opT) (p0 p1 p2 : Int) {x y : D} (hx : IsE x) (hy : IsE y) {L : List D} {a b : Int} (ha : InR a) (hb : InR b)
    (h1 : Ev (fun n => konst_evaler_expr n x (.lst 2 L) (.int .i64 0) (.int .i64 0) (.int .i64 0) (.int .i64 0)) fun r => r = (true, st0 a L))
    (h2 : Ev (fun n => konst_evaler_expr n y (.lst 2 L) (.int .i64 0) (.int .i64 0) (.int .i64 0) (.int .i64 0)) fun r => r = (true, st0 b L)) :
    Ev (fun n => konst_evaler_two n (exD 4 p0 p1 p2 t [x, y]) (.lst 2 L) (.int .i64 0) (.int .i64 0) (.int .i64 0) (.int .i64 0)) fun r => r = (true, bif offB t b then stE 0 L p0 p1 p2 3 else st0 (valT t a b) L) := by
  obtain ⟨_, _, _, _, _, _, rfl⟩ := hx
  obtain ⟨_, _, _, _, _, _, rfl⟩ := hy
  have hres := fun xs ho => ores_is ht p0 p1 p2 xs L ha hb ho 0 0 0 0
  have hf := fail_new p0 p1 p2 3 L 0 0 0
  refine Ev.eq (fun n => konst_evaler_two_eq n _ _ _ _ _ _ _ _ _ _ _) (Ev.yes rfl (Ev.yes rfl (evCall h1 (Ev.yes rfl (Ev.no rfl ?_)))))
  simp only [opT, List.mem_cons, List.not_mem_nil, or_false] at ht
  rcases ht with rfl | rfl | rfl | rfl | rfl | rfl | rfl | rfl | rfl | rfl | rfl | rfl | rfl | rfl | rfl | rfl | rfl | rfl | rfl | rfl | rfl
  rotate_left 3
  · ((repeat (first | refine Ev.no rfl ?_ | refine Ev.yes rfl ?_)); refine evCall h2 ?_; (repeat (first | refine Ev.no rfl ?_ | refine Ev.yes rfl ?_))); (show Ev (fun n => bif (b == 0) then _ else _) _; cases hz : (b == 0) with | true => (have ho : offB [47] b = true := hz; rw [ho]; exact Ev.yes rfl (evCall hf (Ev.yes rfl (Ev.ret rfl)))) | false => (have ho : offB [47] b = false := hz; rw [ho]; exact Ev.no rfl (evCall (hres _ ho) (Ev.yes rfl (Ev.ret rfl)))))
  · ((repeat (first | refine Ev.no rfl ?_ | refine Ev.yes rfl ?_)); refine evCall h2 ?_; (repeat (first | refine Ev.no rfl ?_ | refine Ev.yes rfl ?_))); (show Ev (fun n => bif (b == 0) then _ else _) _; cases hz : (b == 0) with | true => (have ho : offB [37] b = true := hz; rw [ho]; exact Ev.yes rfl (evCall hf (Ev.yes rfl (Ev.ret rfl)))) | false => (have ho : offB [37] b = false := hz; rw [ho]; exact Ev.no rfl (evCall (hres _ ho) (Ev.yes rfl (Ev.ret rfl)))))
  rotate_left 4
  · ((repeat (first | refine Ev.no rfl ?_ | refine Ev.yes rfl ?_)); refine evCall h2 ?_; (repeat (first | refine Ev.no rfl ?_ | refine Ev.yes rfl ?_))); (show Ev (fun n => bif (decide (b < 0)) then _ else bif (decide (b > 31)) then _ else _) _; cases h8 : decide (b < 0) with | true => (have ho : offB [60, 60] b = true := (show (decide (b < 0) || decide (b > 31)) = true by rw [h8]; rfl); rw [ho]; exact Ev.yes rfl (evCall hf (Ev.yes rfl (Ev.ret rfl)))) | false => (refine Ev.no rfl ?_; cases h9 : decide (b > 31) with | true => (have ho : offB [60, 60] b = true := (show (decide (b < 0) || decide (b > 31)) = true by rw [h8, h9]; rfl); rw [ho]; exact Ev.yes rfl (evCall hf (Ev.yes rfl (Ev.ret rfl)))) | false => (have ho : offB [60, 60] b = false := (show (decide (b < 0) || decide (b > 31)) = false by rw [h8, h9]; rfl); rw [ho]; exact Ev.no rfl (evCall (hres _ ho) (Ev.yes rfl (Ev.ret rfl))))))
  · ((repeat (first | refine Ev.no rfl ?_ | refine Ev.yes rfl ?_)); refine evCall h2 ?_; (repeat (first | refine Ev.no rfl ?_ | refine Ev.yes rfl ?_))); (show Ev (fun n => bif (decide (b < 0)) then _ else bif (decide (b > 31)) then _ else _) _; cases h8 : decide (b < 0) with | true => (have ho : offB [62, 62] b = true := (show (decide (b < 0) || decide (b > 31)) = true by rw [h8]; rfl); rw [ho]; exact Ev.yes rfl (evCall hf (Ev.yes rfl (Ev.ret rfl)))) | false => (refine Ev.no rfl ?_; cases h9 : decide (b > 31) with | true => (have ho : offB [62, 62] b = true := (show (decide (b < 0) || decide (b > 31)) = true by rw [h8, h9]; rfl); rw [ho]; exact Ev.yes rfl (evCall hf (Ev.yes rfl (Ev.ret rfl)))) | false => (have ho : offB [62, 62] b = false := (show (decide (b < 0) || decide (b > 31)) = false by rw [h8, h9]; rfl); rw [ho]; exact Ev.no rfl (evCall (hres _ ho) (Ev.yes rfl (Ev.ret rfl))))))
  · ((repeat (first | refine Ev.no rfl ?_ | refine Ev.yes rfl ?_)); refine evCall h2 ?_; (repeat (first | refine Ev.no rfl ?_ | refine Ev.yes rfl ?_))); (show Ev (fun n => bif (decide (b < 0)) then _ else bif (decide (b > 31)) then _ else _) _; cases h8 : decide (b < 0) with | true => (have ho : offB [60, 60, 60] b = true := (show (decide (b < 0) || decide (b > 31)) = true by rw [h8]; rfl); rw [ho]; exact Ev.yes rfl (evCall hf (Ev.yes rfl (Ev.ret rfl)))) | false => (refine Ev.no rfl ?_; cases h9 : decide (b > 31) with | true => (have ho : offB [60, 60, 60] b = true := (show (decide (b < 0) || decide (b > 31)) = true by rw [h8, h9]; rfl); rw [ho]; exact Ev.yes rfl (evCall hf (Ev.yes rfl (Ev.ret rfl)))) | false => (have ho : offB [60, 60, 60] b = false := (show (decide (b < 0) || decide (b > 31)) = false by rw [h8, h9]; rfl); rw [ho]; exact Ev.no rfl (evCall (hres _ ho) (Ev.yes rfl (Ev.ret rfl))))))
  · ((repeat (first | refine Ev.no rfl ?_ | refine Ev.yes rfl ?_)); refine evCall h2 ?_; (repeat (first | refine Ev.no rfl ?_ | refine Ev.yes rfl ?_))); (show Ev (fun n => bif (decide (b < 0)) then _ else bif (decide (b > 31)) then _ else _) _; cases h8 : decide (b < 0) with | true => (have ho : offB [62, 62, 62] b = true := (show (decide (b < 0) || decide (b > 31)) = true by rw [h8]; rfl); rw [ho]; exact Ev.yes rfl (evCall hf (Ev.yes rfl (Ev.ret rfl)))) | false => (refine Ev.no rfl ?_; cases h9 : decide (b > 31) with | true => (have ho : offB [62, 62, 62] b = true := (show (decide (b < 0) || decide (b > 31)) = true by rw [h8, h9]; rfl); rw [ho]; exact Ev.yes rfl (evCall hf (Ev.yes rfl (Ev.ret rfl)))) | false => (have ho : offB [62, 62, 62] b = false := (show (decide (b < 0) || decide (b > 31)) = false by rw [h8, h9]; rfl); rw [ho]; exact Ev.no rfl (evCall (hres _ ho) (Ev.yes rfl (Ev.ret rfl))))))
  rotate_left 6
  · (repeat (first | refine Ev.no rfl ?_ | refine Ev.yes rfl ?_))
    show Ev (fun n => bif (a == 0) then _ else _) _
    cases hz : (a == 0) with
    | true =>
      refine Ev.yes rfl (Ev.ret ?_)
      show _ = (true, st0 (bif (a == 0) then 0 else trI (b != 0)) L)
      rw [hz]; rfl
    | false =>
      refine Ev.no rfl ?_
      ((repeat (first | refine Ev.no rfl ?_ | refine Ev.yes rfl ?_)); refine evCall h2 ?_; (repeat (first | refine Ev.no rfl ?_ | refine Ev.yes rfl ?_)))
      refine evCall (hres _ rfl) (Ev.yes rfl (Ev.ret ?_))
      show _ = (true, st0 (bif (a == 0) then 0 else trI (b != 0)) L)
      rw [hz]; rfl
  · (repeat (first | refine Ev.no rfl ?_ | refine Ev.yes rfl ?_))
    show Ev (fun n => bif (a != 0) then _ else _) _
    cases hz : (a != 0) with
    | true =>
      refine Ev.yes rfl (Ev.ret ?_)
      show _ = (true, st0 (bif (a != 0) then 1 else trI (b != 0)) L)
      rw [hz]; rfl
    | false =>
      refine Ev.no rfl ?_
      ((repeat (first | refine Ev.no rfl ?_ | refine Ev.yes rfl ?_)); refine evCall h2 ?_; (repeat (first | refine Ev.no rfl ?_ | refine Ev.yes rfl ?_)))
      refine evCall (hres _ rfl) (Ev.yes rfl (Ev.ret ?_))
      show _ = (true, st0 (bif (a != 0) then 1 else trI (b != 0)) L)
      rw [hz]; rfl
  all_goals (((repeat (first | refine Ev.no rfl ?_ | refine Ev.yes rfl ?_)); refine evCall h2 ?_; (repeat (first | refine Ev.no rfl ?_ | refine Ev.yes rfl ?_))); exact evCall (hres _ rfl) (Ev.yes rfl (Ev.ret rfl)))
end Go.Proofs.YtkjocbdjenmegaaDoor
