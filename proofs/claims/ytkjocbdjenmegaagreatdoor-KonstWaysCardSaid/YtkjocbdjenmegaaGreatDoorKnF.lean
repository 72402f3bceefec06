/- Konst: an operator of two, the reference's. -/
import Derived.Test.YtkjocbdjenmegaaGreatDoorKnE
namespace Go.Proofs.YtkjocbdjenmegaaGreatDoor
open Go.AE
set_option linter.unusedVariables false
def gd (a b c m : Int) : D := bif inB m then outD m 0 0 0 0 else outD 0 a b c 3
theorem gd_tr (a b c : Int) (q : Bool) : gd a b c (trI q) = outD (trI q) 0 0 0 0 := by cases q <;> rfl
theorem good_step (k a b c : Int) (t : List UInt8) (xs : List D) {m m' : Int} (h : m = m') : Ev (fun n => AE.bindC (ref11_good n (exD k a b c t xs) (.int .i64 m)) fun r2 => bif chk ref11_good.osk r2 then (some (true, [(expTy ty_iiiii (nth r2 0))])) else none) fun r => r = (true, [gd a b c m']) := by
  subst h
  have hg := good_is' k a b c t xs m
  unfold gd
  cases h : inB m with
  | true => rw [h] at hg; exact evCall hg (Ev.yes rfl (Ev.ret rfl))
  | false => rw [h] at hg; exact evCall hg (Ev.yes rfl (Ev.ret rfl))
theorem bad_step (k a b c : Int) (t : List UInt8) (xs : List D) (e : Int) : Ev (fun n => AE.bindC (ref11_bad n (exD k a b c t xs) (.int .i64 e)) fun r2 => bif chk ref11_bad.osk r2 then (some (true, [(expTy ty_iiiii (nth r2 0))])) else none) fun r => r = (true, [outD 0 a b c e]) :=
  evCall (bad_is k a b c t xs e) (Ev.yes rfl (Ev.ret rfl))
theorem truth_step (a b c : Int) {q q' : Bool} (h : q = q') : Ev (fun n => AE.bindC (ref11_truth n (.bool q)) fun r3 => bif chk ref11_truth.osk r3 then (some (true, [(.agg [(.int .i64 (nth r3 0).i), (.int .i64 (0 : Int)), (.int .i64 (0 : Int)), (.int .i64 (0 : Int)), (.int .i64 (0 : Int))])])) else none) fun r => r = (true, [gd a b c (trI q')]) := by
  subst h
  rw [gd_tr]
  exact evCall (rtruth_is q) (Ev.yes rfl (Ev.ret rfl))
def rtwoV (p0 p1 p2 : Int) (t : List UInt8) (a b : Int) : D := bif offB t b then outD 0 p0 p1 p2 3 else gd p0 p1 p2 (valT t a b)
theorem rtwo_is {t : List UInt8} (ht : t ∈ opT) (p0 p1 p2 : Int) {x y : D} (hx : IsE x) (hy : IsE y) {E : List D} {a b : Int} (ha : InR a) (hb : InR b)
    (h1 : Ev (fun n => ref11_Eval n x (.lst 2 E)) fun r => r = (true, [outD a 0 0 0 0]))
    (h2 : Ev (fun n => ref11_Eval n y (.lst 2 E)) fun r => r = (true, [outD b 0 0 0 0])) :
    Ev (fun n => ref11_Eval n (exD 4 p0 p1 p2 t [x, y]) (.lst 2 E)) fun r => r = (true, [rtwoV p0 p1 p2 t a b]) := by
  obtain ⟨_, _, _, _, _, _, rfl⟩ := hx
  obtain ⟨_, _, _, _, _, _, rfl⟩ := hy
  obtain ⟨a1, a2⟩ := ha
  obtain ⟨b1, b2⟩ := hb
  refine Ev.eq (fun n => ref11_Eval_eq n _ _ _ _ _ _ _) (Ev.no rfl (Ev.no rfl (Ev.no rfl (Ev.no rfl (Ev.yes rfl (Ev.yes rfl (Ev.yes rfl (evCall h1 (Ev.yes rfl (Ev.no rfl ?_))))))))))
  have j6 : ∀ (t : List UInt8) (g12 g10 : Int) (xs : List D), b ≠ 0 → (t == [47] || t == [37]) = true → g10 = (bif decide (a < 0) then -a else a) → g12 = (bif decide (b < 0) then -b else b) → Ev (fun n => ref11_Eval_j6 n g12 [outD a 0 0 0 0] [outD b 0 0 0 0] g10 t 4 p0 p1 p2 xs) fun r => r = (true, [gd p0 p1 p2 (bif t == [47] then a.tdiv b else a.tmod b)]) := by
    intro t g12 g10 xs hb0 ht h10 h12
    have hg12 : g12 ≠ 0 := by
      rw [h12]
      cases hd : decide (b < 0) <;> simp only [cond_true, cond_false] <;> omega
    have hg10 : g10.natAbs ≤ 2147483648 := by
      rw [h10]
      cases hd : decide (a < 0) <;> simp only [cond_true, cond_false] <;> omega
    have hq := tdiv_abs (b := g12) hg10
    have hab := abs_div (a := a) hb0
    rw [← h10, ← h12] at hab
    have j7 : Ev (fun n => ref11_Eval_j7 n (a.tdiv b) t 4 p0 p1 p2 xs [outD a 0 0 0 0] [outD b 0 0 0 0]) fun r => r = (true, [gd p0 p1 p2 (bif t == [47] then a.tdiv b else a.tmod b)]) := by
      refine evDfn (fun n => ref11_Eval_j7_def n _ _ _ _ _ _ _ _ _) ?_
      cases h47 : t == [47] with
      | true => exact Ev.yes rfl (good_step 4 p0 p1 p2 t xs rfl)
      | false =>
        refine Ev.no rfl (good_step 4 p0 p1 p2 t xs ?_)
        have hm : a.tdiv b * b + a.tmod b = a := by rw [Int.mul_comm]; exact Int.mul_tdiv_add_tmod a b
        have hqa := tdiv_abs (a := a) (b := b) (by omega)
        have hmb := imul_bound (a := a.tdiv b) (b := b) hqa (by omega)
        show IntKind.i64.wrap (a - IntKind.i64.wrap (a.tdiv b * b)) = a.tmod b
        rw [wrap_id (x := a.tdiv b * b) (by omega) (by omega), wrap_id (by omega) (by omega)]
        omega
    refine evDfn (fun n => ref11_Eval_j6_def n _ _ _ _ _ _ _ _ _ _) (Ev.no (decide_eq_false hg12) ?_)
    show Ev (fun n => bif (!(decide (a < 0) == decide (b < 0))) then ref11_Eval_j7 n (IntKind.i64.wrap (0 - (IntKind.i64.wrap (g10.tdiv g12)))) t 4 p0 p1 p2 xs [outD a 0 0 0 0] [outD b 0 0 0 0] else ref11_Eval_j7 n (IntKind.i64.wrap (g10.tdiv g12)) t 4 p0 p1 p2 xs [outD a 0 0 0 0] [outD b 0 0 0 0]) _
    cases hs : !(decide (a < 0) == decide (b < 0)) with
    | true =>
      rw [hs] at hab
      simp only [cond_true] at hab
      refine Ev.yes rfl ?_
      have e : IntKind.i64.wrap (0 - IntKind.i64.wrap (g10.tdiv g12)) = a.tdiv b := by
        rw [wrap_id (x := g10.tdiv g12) (by omega) (by omega), wrap_id (by omega) (by omega), hab]; omega
      rw [e]
      exact j7
    | false =>
      rw [hs] at hab
      simp only [cond_false] at hab
      refine Ev.no rfl ?_
      have e : IntKind.i64.wrap (g10.tdiv g12) = a.tdiv b := by
        rw [wrap_id (by omega) (by omega), hab]
      rw [e]
      exact j7
  have j5' : ∀ (t : List UInt8) (g10 : Int) (xs : List D), b ≠ 0 → (t == [47] || t == [37]) = true → g10 = (bif decide (a < 0) then -a else a) → Ev (fun n => ref11_Eval_j5 n g10 [outD b 0 0 0 0] [outD a 0 0 0 0] t 4 p0 p1 p2 xs) fun r => r = (true, [gd p0 p1 p2 (bif t == [47] then a.tdiv b else a.tmod b)]) := by
    intro t g10 xs hb0 ht h10
    refine evDfn (fun n => ref11_Eval_j5_def n _ _ _ _ _ _ _ _ _) ?_
    show Ev (fun n => bif (decide (b < 0)) then ref11_Eval_j6 n (IntKind.i64.wrap (0 - b)) [outD a 0 0 0 0] [outD b 0 0 0 0] g10 t 4 p0 p1 p2 xs else ref11_Eval_j6 n b [outD a 0 0 0 0] [outD b 0 0 0 0] g10 t 4 p0 p1 p2 xs) _
    cases hd : decide (b < 0) with
    | true =>
      have ew : IntKind.i64.wrap (0 - b) = -b := by rw [wrap_id (by omega) (by omega)]; omega
      rw [ew]
      exact Ev.yes rfl (j6 t (-b) g10 xs hb0 ht h10 (by rw [hd]; rfl))
    | false => exact Ev.no rfl (j6 t b g10 xs hb0 ht h10 (by rw [hd]; rfl))
  have sh : ∀ (t : List UInt8) (xs : List D), (t == [60, 60] || t == [60, 60, 60] || t == [62, 62] || t == [62, 62, 62]) = true → Ev (fun n => ref11_Eval_j9 n true [outD b 0 0 0 0] 4 p0 p1 p2 t xs [outD a 0 0 0 0]) fun r => r = (true, [bif decide (b < 0) || decide (b > 31) then outD 0 p0 p1 p2 3 else gd p0 p1 p2 (bif t == [60, 60] || t == [60, 60, 60] then a * ((2 ^ b.toNat : Nat) : Int) else a / ((2 ^ b.toNat : Nat) : Int))]) := by
    intro t xs ht
    refine evDfn (fun n => ref11_Eval_j9_def n _ _ _ _ _ _ _ _ _) (Ev.yes rfl ?_)
    show Ev (fun n => bif (decide (b < 0)) then ref11_Eval_j10 n true 4 p0 p1 p2 t xs [outD b 0 0 0 0] [outD a 0 0 0 0] else ref11_Eval_j10 n (decide (b > 31)) 4 p0 p1 p2 t xs [outD b 0 0 0 0] [outD a 0 0 0 0]) _
    cases h8 : decide (b < 0) with
    | true => exact Ev.yes rfl (evDfn (fun n => ref11_Eval_j10_def n _ _ _ _ _ _ _ _ _) (Ev.yes rfl (bad_step 4 p0 p1 p2 t xs 3)))
    | false =>
      refine Ev.no rfl (evDfn (fun n => ref11_Eval_j10_def n _ _ _ _ _ _ _ _ _) ?_)
      cases h9 : decide (b > 31) with
      | true => exact Ev.yes rfl (bad_step 4 p0 p1 p2 t xs 3)
      | false =>
        have q8 := of_decide_eq_false h8
        have q9 := of_decide_eq_false h9
        have hk : b.toNat ≤ 31 := by omega
        have hbn : b = ((b.toNat : Nat) : Int) := by omega
        have hp := pow31 hk
        have hp0 := Nat.two_pow_pos b.toNat
        have hpw := power_is (k := b.toNat) (by omega)
        rw [← hbn] at hpw
        generalize hpp : 2 ^ b.toNat = p at hp hp0 hpw ⊢
        refine Ev.no rfl ?_
        have left : Ev (fun n => ref11_Eval_j11 n true [outD b 0 0 0 0] 4 p0 p1 p2 t xs [outD a 0 0 0 0]) fun r => r = (true, [gd p0 p1 p2 (a * (p : Int))]) := by
          refine evDfn (fun n => ref11_Eval_j11_def n _ _ _ _ _ _ _ _ _) (Ev.yes rfl (evCall hpw (Ev.yes rfl (good_step 4 p0 p1 p2 t xs ?_))))
          have hm := imul_bound (a := a) (b := (p : Int)) (by omega) (by omega)
          show IntKind.i64.wrap (a * (p : Int)) = a * (p : Int)
          exact wrap_id (by omega) (by omega)
        have right : Ev (fun n => ref11_Eval_j11 n false [outD b 0 0 0 0] 4 p0 p1 p2 t xs [outD a 0 0 0 0]) fun r => r = (true, [gd p0 p1 p2 (a / (p : Int))]) := by
          have hq := tdiv_abs (a := a) (b := (p : Int)) (by omega)
          have hm := imul_bound (a := a.tdiv (p : Int)) (b := (p : Int)) hq (by omega)
          have hfl := floor_div (a := a) (p := (p : Int)) (by omega)
          have ew : IntKind.i64.wrap (a.tdiv (p : Int)) = a.tdiv (p : Int) := wrap_id (by omega) (by omega)
          have ew2 : IntKind.i64.wrap (a.tdiv (p : Int) * (p : Int)) = a.tdiv (p : Int) * (p : Int) := wrap_id (by omega) (by omega)
          refine evDfn (fun n => ref11_Eval_j11_def n _ _ _ _ _ _ _ _ _) (Ev.no rfl (evCall hpw (Ev.yes rfl (Ev.no (decide_eq_false (by show ¬ (p : Int) = 0; omega)) (evCall hpw (Ev.yes rfl ?_))))))
          show Ev (fun n => bif (decide ((IntKind.i64.wrap ((IntKind.i64.wrap (a.tdiv (p : Int))) * (p : Int))) > a)) then _ else _) _
          rw [ew, ew2]
          cases hc : decide (a.tdiv (p : Int) * (p : Int) > a) with
          | true =>
            rw [hc] at hfl
            refine Ev.yes rfl (good_step 4 p0 p1 p2 t xs ?_)
            show IntKind.i64.wrap (IntKind.i64.wrap (a.tdiv (p : Int)) - 1) = a / (p : Int)
            rw [ew, wrap_id (by omega) (by omega), hfl]; rfl
          | false =>
            rw [hc] at hfl
            refine Ev.no rfl (good_step 4 p0 p1 p2 t xs ?_)
            show IntKind.i64.wrap (a.tdiv (p : Int)) = a / (p : Int)
            rw [ew, hfl]; rfl
        cases t1 : t == [60, 60] with
        | true => exact Ev.yes rfl left
        | false =>
          refine Ev.no rfl ?_
          cases t2 : t == [60, 60, 60] with
          | true => exact left
          | false => exact right
  have bw := fun t => bitwise_is t (a := a) (b := b) (by omega) (by omega) (by omega) (by omega)
  simp only [opT, List.mem_cons, List.not_mem_nil, or_false] at ht
  rcases ht with rfl | rfl | rfl | rfl | rfl | rfl | rfl | rfl | rfl | rfl | rfl | rfl | rfl | rfl | rfl | rfl | rfl | rfl | rfl | rfl | rfl
  · ((repeat (first | refine Ev.no rfl ?_ | refine Ev.yes rfl ?_)); refine evCall h2 ?_; (repeat (first | refine Ev.no rfl ?_ | refine Ev.yes rfl ?_)))
    refine good_step 4 p0 p1 p2 _ _ ?_
    show IntKind.i64.wrap (a + b) = a + b
    exact wrap_id (by omega) (by omega)
  · ((repeat (first | refine Ev.no rfl ?_ | refine Ev.yes rfl ?_)); refine evCall h2 ?_; (repeat (first | refine Ev.no rfl ?_ | refine Ev.yes rfl ?_)))
    refine good_step 4 p0 p1 p2 _ _ ?_
    show IntKind.i64.wrap (a - b) = a - b
    exact wrap_id (by omega) (by omega)
  · ((repeat (first | refine Ev.no rfl ?_ | refine Ev.yes rfl ?_)); refine evCall h2 ?_; (repeat (first | refine Ev.no rfl ?_ | refine Ev.yes rfl ?_)))
    refine good_step 4 p0 p1 p2 _ _ ?_
    have := imul_bound (a := a) (b := b) (by omega) (by omega)
    show IntKind.i64.wrap (a * b) = a * b
    exact wrap_id (by omega) (by omega)
  · have j5 := fun (g : Int) (xs : List D) (hb0 : b ≠ 0) => j5' [47] g xs hb0 rfl
    ((repeat (first | refine Ev.no rfl ?_ | refine Ev.yes rfl ?_)); refine evCall h2 ?_; (repeat (first | refine Ev.no rfl ?_ | refine Ev.yes rfl ?_)))
    (show Ev (fun n => bif (b == 0) then _ else _) _; cases hz : (b == 0) with | true => (have ho : offB [47] b = true := hz; rw [show rtwoV p0 p1 p2 [47] a b = bif offB [47] b then outD 0 p0 p1 p2 3 else gd p0 p1 p2 (valT [47] a b) from rfl, ho]; exact Ev.yes rfl (bad_step 4 p0 p1 p2 _ _ 3)) | false => (have ho : offB [47] b = false := hz; rw [show rtwoV p0 p1 p2 [47] a b = bif offB [47] b then outD 0 p0 p1 p2 3 else gd p0 p1 p2 (valT [47] a b) from rfl, ho]; have hb0 : b ≠ 0 := (by simpa using hz); refine Ev.no rfl ?_; show Ev (fun n => bif (decide (a < 0)) then _ else _) _; cases ha0 : decide (a < 0) with | true => (refine Ev.yes rfl ?_; show Ev (fun n => ref11_Eval_j5 n (IntKind.i64.wrap (0 - a)) _ _ _ _ _ _ _ _) _; have ew : IntKind.i64.wrap (0 - a) = -a := (by rw [wrap_id (by omega) (by omega)]; omega); rw [ew]; exact j5 (-a) _ hb0 (by rw [ha0]; rfl)) | false => (refine Ev.no rfl ?_; exact j5 a _ hb0 (by rw [ha0]; rfl))))
  · have j5 := fun (g : Int) (xs : List D) (hb0 : b ≠ 0) => j5' [37] g xs hb0 rfl
    ((repeat (first | refine Ev.no rfl ?_ | refine Ev.yes rfl ?_)); refine evCall h2 ?_; (repeat (first | refine Ev.no rfl ?_ | refine Ev.yes rfl ?_)))
    (show Ev (fun n => bif (b == 0) then _ else _) _; cases hz : (b == 0) with | true => (have ho : offB [37] b = true := hz; rw [show rtwoV p0 p1 p2 [37] a b = bif offB [37] b then outD 0 p0 p1 p2 3 else gd p0 p1 p2 (valT [37] a b) from rfl, ho]; exact Ev.yes rfl (bad_step 4 p0 p1 p2 _ _ 3)) | false => (have ho : offB [37] b = false := hz; rw [show rtwoV p0 p1 p2 [37] a b = bif offB [37] b then outD 0 p0 p1 p2 3 else gd p0 p1 p2 (valT [37] a b) from rfl, ho]; have hb0 : b ≠ 0 := (by simpa using hz); refine Ev.no rfl ?_; show Ev (fun n => bif (decide (a < 0)) then _ else _) _; cases ha0 : decide (a < 0) with | true => (refine Ev.yes rfl ?_; show Ev (fun n => ref11_Eval_j5 n (IntKind.i64.wrap (0 - a)) _ _ _ _ _ _ _ _) _; have ew : IntKind.i64.wrap (0 - a) = -a := (by rw [wrap_id (by omega) (by omega)]; omega); rw [ew]; exact j5 (-a) _ hb0 (by rw [ha0]; rfl)) | false => (refine Ev.no rfl ?_; exact j5 a _ hb0 (by rw [ha0]; rfl))))
  · ((repeat (first | refine Ev.no rfl ?_ | refine Ev.yes rfl ?_)); refine evCall h2 ?_; (repeat (first | refine Ev.no rfl ?_ | refine Ev.yes rfl ?_))); exact evCall (bw _) (Ev.yes rfl (good_step 4 p0 p1 p2 _ _ rfl))
  · ((repeat (first | refine Ev.no rfl ?_ | refine Ev.yes rfl ?_)); refine evCall h2 ?_; (repeat (first | refine Ev.no rfl ?_ | refine Ev.yes rfl ?_))); exact evCall (bw _) (Ev.yes rfl (good_step 4 p0 p1 p2 _ _ rfl))
  · ((repeat (first | refine Ev.no rfl ?_ | refine Ev.yes rfl ?_)); refine evCall h2 ?_; (repeat (first | refine Ev.no rfl ?_ | refine Ev.yes rfl ?_))); exact evCall (bw _) (Ev.yes rfl (good_step 4 p0 p1 p2 _ _ rfl))
  · ((repeat (first | refine Ev.no rfl ?_ | refine Ev.yes rfl ?_)); refine evCall h2 ?_; (repeat (first | refine Ev.no rfl ?_ | refine Ev.yes rfl ?_))); exact evCall (bw _) (Ev.yes rfl (good_step 4 p0 p1 p2 _ _ rfl))
  · ((repeat (first | refine Ev.no rfl ?_ | refine Ev.yes rfl ?_)); refine evCall h2 ?_; (repeat (first | refine Ev.no rfl ?_ | refine Ev.yes rfl ?_))); exact sh [60, 60] _ rfl
  · ((repeat (first | refine Ev.no rfl ?_ | refine Ev.yes rfl ?_)); refine evCall h2 ?_; (repeat (first | refine Ev.no rfl ?_ | refine Ev.yes rfl ?_))); exact sh [62, 62] _ rfl
  · ((repeat (first | refine Ev.no rfl ?_ | refine Ev.yes rfl ?_)); refine evCall h2 ?_; (repeat (first | refine Ev.no rfl ?_ | refine Ev.yes rfl ?_))); exact sh [60, 60, 60] _ rfl
  · ((repeat (first | refine Ev.no rfl ?_ | refine Ev.yes rfl ?_)); refine evCall h2 ?_; (repeat (first | refine Ev.no rfl ?_ | refine Ev.yes rfl ?_))); exact sh [62, 62, 62] _ rfl
  · ((repeat (first | refine Ev.no rfl ?_ | refine Ev.yes rfl ?_)); refine evCall h2 ?_; (repeat (first | refine Ev.no rfl ?_ | refine Ev.yes rfl ?_))); exact truth_step p0 p1 p2 rfl
  · ((repeat (first | refine Ev.no rfl ?_ | refine Ev.yes rfl ?_)); refine evCall h2 ?_; (repeat (first | refine Ev.no rfl ?_ | refine Ev.yes rfl ?_))); exact truth_step p0 p1 p2 rfl
  · ((repeat (first | refine Ev.no rfl ?_ | refine Ev.yes rfl ?_)); refine evCall h2 ?_; (repeat (first | refine Ev.no rfl ?_ | refine Ev.yes rfl ?_))); exact truth_step p0 p1 p2 rfl
  · ((repeat (first | refine Ev.no rfl ?_ | refine Ev.yes rfl ?_)); refine evCall h2 ?_; (repeat (first | refine Ev.no rfl ?_ | refine Ev.yes rfl ?_))); exact truth_step p0 p1 p2 rfl
  · ((repeat (first | refine Ev.no rfl ?_ | refine Ev.yes rfl ?_)); refine evCall h2 ?_; (repeat (first | refine Ev.no rfl ?_ | refine Ev.yes rfl ?_))); exact truth_step p0 p1 p2 rfl
  · ((repeat (first | refine Ev.no rfl ?_ | refine Ev.yes rfl ?_)); refine evCall h2 ?_; (repeat (first | refine Ev.no rfl ?_ | refine Ev.yes rfl ?_))); exact truth_step p0 p1 p2 rfl
  · (repeat (first | refine Ev.no rfl ?_ | refine Ev.yes rfl ?_))
    refine evDfn (fun n => ref11_Eval_j2_def n _ _ _ _ _ _ _ _ _) ?_
    show Ev (fun n => bif (a == 0) then _ else _) fun r => r = (true, [gd p0 p1 p2 (bif (a == 0) then 0 else trI (b != 0))])
    cases hz : (a == 0) with
    | true => exact Ev.yes rfl (Ev.ret rfl)
    | false =>
      refine Ev.no rfl ?_
      ((repeat (first | refine Ev.no rfl ?_ | refine Ev.yes rfl ?_)); refine evCall h2 ?_; (repeat (first | refine Ev.no rfl ?_ | refine Ev.yes rfl ?_))); exact truth_step p0 p1 p2 rfl
  · (repeat (first | refine Ev.no rfl ?_ | refine Ev.yes rfl ?_))
    refine evDfn (fun n => ref11_Eval_j3_def n _ _ _ _ _ _ _ _ _) ?_
    show Ev (fun n => bif (a != 0) then _ else _) fun r => r = (true, [gd p0 p1 p2 (bif (a != 0) then 1 else trI (b != 0))])
    cases hz : (a != 0) with
    | true => exact Ev.yes rfl (Ev.ret rfl)
    | false =>
      refine Ev.no rfl ?_
      ((repeat (first | refine Ev.no rfl ?_ | refine Ev.yes rfl ?_)); refine evCall h2 ?_; (repeat (first | refine Ev.no rfl ?_ | refine Ev.yes rfl ?_))); exact truth_step p0 p1 p2 rfl
end Go.Proofs.YtkjocbdjenmegaaGreatDoor
