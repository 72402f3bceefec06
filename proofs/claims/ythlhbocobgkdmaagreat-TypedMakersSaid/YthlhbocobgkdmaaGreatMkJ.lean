/- Expressions are evaluated: numbers, parts, wider ones, operations on one and two, choices. -/
import Derived.Test.YthlhbocobgkdmaaGreatMkI
namespace Go.Proofs.YthlhbocobgkdmaaGreat
open Go.AE
set_option linter.unusedVariables false
set_option linter.unusedSimpArgs false
def numE (w a : Nat) : D := .agg [.int .i64 1, .int .i64 0, .int .i64 (w : Int), .int .i64 0, .int .i64 0, .bool false, .int .i64 (w : Int), .lst 1 (wordsN w a), .lst 9 []]
def mkE (k op wd lo : Int) (sn : Bool) (es : List D) : D := .agg [.int .i64 k, .int .i64 op, .int .i64 wd, .int .i64 0, .int .i64 lo, .bool sn, .int .i64 0, .lst 1 [], .lst 9 es]
def vecP (p : Nat × Nat) : D := vec p.1 p.2
theorem num_own {w a : Nat} : Ev (fun n => typed_Num n (vec w a)) fun r => r = (true, [numE w a]) :=
  Ev.eq (fun n => typed_Num_eq n ..) (evCall (Ev.eq (fun n => bv_Vec_Width_eq n _ _) (Ev.ret rfl)) (Ev.yes rfl (Ev.ret rfl)))
section
variable {k : Nat} {d : D}
theorem eval_args {es : List D} {ps : List (Nat × Nat)} (hl : es.length = ps.length) (hn : ps.length ≤ 10) (hE : ∀ i (h : i < es.length) (h' : i < ps.length), (notAny ty_iiiiibil1l9 && okTy ty_iiiiibil1l9 es[i]) = true ∧ expTy ty_iiiiibil1l9 es[i] = es[i] ∧ Ev (fun n => typed_Eval n es[i] (.iface k d)) fun r => r = (true, [vecP ps[i]]))
    (a5 a6 a7 a8 a9 a11 a14 : Int) (a10 : Bool) (a12 a13 a16 : List D) : ∀ (m i : Nat) (out : List D), ps.length - i = m → i ≤ ps.length → out.length = ps.length → (∀ q, q < i → out[q]? = (ps.map vecP)[q]?) →
    Ev (fun n => typed_Eval_L0 n (.iface k d) (.lst 9 es) (.int .i64 (ps.length : Int)) (.int .i64 (i : Int)) (.int .i64 a5) (.int .i64 a6) (.int .i64 a7) (.int .i64 a8) (.int .i64 a9) (.bool a10) (.int .i64 a11) (.lst 1 a12) (.lst 9 a13) (.int .i64 a14) (.lst 2 out) (.lst 1 a16)) fun r =>
      ∃ i' : Int, r = (false, [.iface k d, .lst 9 es, .int .i64 (ps.length : Int), .int .i64 i', .int .i64 a5, .int .i64 a6, .int .i64 a7, .int .i64 a8, .int .i64 a9, .bool a10, .int .i64 a11, .lst 1 a12, .lst 9 a13, .int .i64 a14, .lst 2 (ps.map vecP), .lst 1 a16]) := by
  intro m
  induction m with
  | zero =>
    intro i out hm hi ho hq
    have e : out = ps.map vecP := by
      apply List.ext_getElem?
      intro q
      by_cases h : q < i
      · exact hq q h
      · rw [List.getElem?_eq_none (by omega), List.getElem?_eq_none (by rw [List.length_map]; omega)]
    rw [e]
    exact Ev.eq (fun n => typed_Eval_L0_eq n ..) (Ev.no (decide_eq_false (by omega)) (Ev.ret ⟨_, rfl⟩))
  | succ m ih =>
    intro i out hm hi ho hq
    have hi2 : i < es.length := by omega
    have hi3 : i < ps.length := by omega
    obtain ⟨e1, e2, e3⟩ := hE i hi2 hi3
    refine Ev.eq (fun n => typed_Eval_L0_eq n ..) (Ev.yes (decide_eq_true (by omega)) (Ev.yes (in_range hi2) ?_))
    rw [get_nat hi2, wrap_succ (by omega), e2]
    refine Ev.yes e1 (evCall e3 (Ev.yes rfl (Ev.yes (in_range (show i < out.length by omega)) ?_)))
    rw [Int.toNat_natCast]
    refine ih (i + 1) (out.set i (vecP ps[i])) (by omega) (by omega) (by rw [List.length_set]; exact ho) fun q hq2 => ?_
    rw [set_get (by omega)]
    by_cases e : i = q
    · rw [if_pos e, ← e, List.getElem?_map, List.getElem?_eq_getElem hi3]; rfl
    · rw [if_neg e]; exact hq q (by omega)
theorem eval_num {w a : Nat} : Ev (fun n => typed_Eval n (numE w a) (.iface k d)) fun r => r = (true, [vec w a]) := by
  refine Ev.eq (fun n => typed_Eval_eq n ..) (Ev.yes rfl (evLoop (Ev.eq (fun n => typed_Eval_L0_eq n ..) (Ev.no rfl (Ev.ret rfl))) (Ev.yes rfl (Ev.yes rfl (Ev.ret rfl)))))
theorem eval_mk {kk op wd lo : Int} {sn : Bool} {es : List D} {ps : List (Nat × Nat)} (k1 : (kk == 1) = false) (k2 : (kk == 2) = false) (k3 : (kk == 3) = false) (hl : es.length = ps.length) (hn : ps.length ≤ 10)
    (hE : ∀ i (h : i < es.length) (h' : i < ps.length), (notAny ty_iiiiibil1l9 && okTy ty_iiiiibil1l9 es[i]) = true ∧ expTy ty_iiiiibil1l9 es[i] = es[i] ∧ Ev (fun n => typed_Eval n es[i] (.iface k d)) fun r => r = (true, [vecP ps[i]]))
    {w a : Nat} (hV : Ev (fun n => typed_Value n (mkE kk op wd lo sn es) (.lst 2 (ps.map vecP))) fun r => r = (true, [vec w a])) : Ev (fun n => typed_Eval n (mkE kk op wd lo sn es) (.iface k d)) fun r => r = (true, [vec w a]) := by
  refine Ev.eq (fun n => typed_Eval_eq n ..) ?_
  rw [hl]
  refine Ev.yes (mk_ok (by omega)) ?_
  refine Ev.bindL (eval_args hl hn hE _ _ _ _ _ _ _ _ _ _ _ ps.length 0 _ rfl (Nat.zero_le _) (by rw [List.length_replicate, Int.toNat_natCast]) (fun q h => by omega)) (fun ds h => by obtain ⟨_, h⟩ := h; cases h) fun ds h => ?_
  obtain ⟨_, h⟩ := h
  cases h
  exact Ev.yes rfl (Ev.no k1 (Ev.no k2 (Ev.no k3 (evCall hV (Ev.yes rfl (Ev.ret rfl))))))
theorem args1 {e : D} {p : Nat × Nat} (h : (notAny ty_iiiiibil1l9 && okTy ty_iiiiibil1l9 e) = true ∧ expTy ty_iiiiibil1l9 e = e ∧ Ev (fun n => typed_Eval n e (.iface k d)) fun r => r = (true, [vecP p])) : ∀ i (h : i < [e].length) (h' : i < [p].length), (notAny ty_iiiiibil1l9 && okTy ty_iiiiibil1l9 [e][i]) = true ∧ expTy ty_iiiiibil1l9 [e][i] = [e][i] ∧ Ev (fun n => typed_Eval n [e][i] (.iface k d)) fun r => r = (true, [vecP [p][i]])
  | 0, _, _ => h
  | i + 1, h1, _ => absurd h1 (by simp)
theorem args2 {e f : D} {p q : Nat × Nat} (h : (notAny ty_iiiiibil1l9 && okTy ty_iiiiibil1l9 e) = true ∧ expTy ty_iiiiibil1l9 e = e ∧ Ev (fun n => typed_Eval n e (.iface k d)) fun r => r = (true, [vecP p])) (g : (notAny ty_iiiiibil1l9 && okTy ty_iiiiibil1l9 f) = true ∧ expTy ty_iiiiibil1l9 f = f ∧ Ev (fun n => typed_Eval n f (.iface k d)) fun r => r = (true, [vecP q])) : ∀ i (h : i < [e, f].length) (h' : i < [p, q].length), (notAny ty_iiiiibil1l9 && okTy ty_iiiiibil1l9 [e, f][i]) = true ∧ expTy ty_iiiiibil1l9 [e, f][i] = [e, f][i] ∧ Ev (fun n => typed_Eval n [e, f][i] (.iface k d)) fun r => r = (true, [vecP [p, q][i]])
  | 0, _, _ => h
  | 1, _, _ => g
  | i + 2, h1, _ => absurd h1 (by simp)
theorem args3 {e f c : D} {p q o : Nat × Nat} (h : (notAny ty_iiiiibil1l9 && okTy ty_iiiiibil1l9 e) = true ∧ expTy ty_iiiiibil1l9 e = e ∧ Ev (fun n => typed_Eval n e (.iface k d)) fun r => r = (true, [vecP p])) (g : (notAny ty_iiiiibil1l9 && okTy ty_iiiiibil1l9 f) = true ∧ expTy ty_iiiiibil1l9 f = f ∧ Ev (fun n => typed_Eval n f (.iface k d)) fun r => r = (true, [vecP q])) (j : (notAny ty_iiiiibil1l9 && okTy ty_iiiiibil1l9 c) = true ∧ expTy ty_iiiiibil1l9 c = c ∧ Ev (fun n => typed_Eval n c (.iface k d)) fun r => r = (true, [vecP o])) : ∀ i (h : i < [e, f, c].length) (h' : i < [p, q, o].length), (notAny ty_iiiiibil1l9 && okTy ty_iiiiibil1l9 [e, f, c][i]) = true ∧ expTy ty_iiiiibil1l9 [e, f, c][i] = [e, f, c][i] ∧ Ev (fun n => typed_Eval n [e, f, c][i] (.iface k d)) fun r => r = (true, [vecP [p, q, o][i]])
  | 0, _, _ => h
  | 1, _, _ => g
  | 2, _, _ => j
  | i + 3, h1, _ => absurd h1 (by simp)
theorem numOne {w a : Nat} : (notAny ty_iiiiibil1l9 && okTy ty_iiiiibil1l9 (numE w a)) = true ∧ expTy ty_iiiiibil1l9 (numE w a) = (numE w a) ∧ Ev (fun n => typed_Eval n (numE w a) (.iface k d)) fun r => r = (true, [vecP (w, a)]) := ⟨rfl, rfl, eval_num⟩
section
variable {w a : Nat} (h1 : 1 ≤ w) (h2 : w ≤ 64) (ha : a < 2 ^ w)
include h1 h2 ha
theorem eval_part {lo n : Nat} (hk : 1 ≤ n) (hn : lo + n ≤ w) : Ev (fun n' => typed_Eval n' (mkE 5 0 (n : Int) (lo : Int) false [numE w a]) (.iface k d)) fun r => r = (true, [vec n (fillN (cutF lo a) n)]) :=
  eval_mk rfl rfl rfl (ps := [(w, a)]) rfl (by simp) (args1 numOne) (Ev.eq (fun n => typed_Value_eq n ..) (Ev.no rfl (Ev.yes rfl (Ev.yes rfl (Ev.yes rfl (evCall (slice_is (by omega) ha hk hn) (Ev.yes rfl (Ev.ret rfl))))))))
theorem eval_ext {n : Nat} (hk : 1 ≤ n) (hn : n ≤ 128) (s : Bool) : Ev (fun n' => typed_Eval n' (mkE 10 0 (n : Int) 0 s [numE w a]) (.iface k d)) fun r => r = (true, [vec n (fillN (extF w a s) n)]) :=
  eval_mk rfl rfl rfl (ps := [(w, a)]) rfl (by simp) (args1 numOne) (Ev.eq (fun n => typed_Value_eq n ..) (Ev.no rfl (Ev.no rfl (Ev.no rfl (Ev.no rfl (Ev.no rfl (Ev.no rfl (Ev.yes rfl (Ev.yes rfl (Ev.yes rfl (evCall (ext_is h1 (by omega) ha hk hn s) (Ev.yes rfl (Ev.ret rfl)))))))))))))
theorem value_un (op : Nat) (hop : op < 6) (wd : Int) : Ev (fun n => typed_Value n (mkE 6 (op : Int) wd 0 false [numE w a]) (.lst 2 [vec w a])) fun r => r = (true, [vec (unW w op) (unN w a op)]) :=
  Ev.eq (fun n => typed_Value_eq n ..) (Ev.no rfl (Ev.no rfl (Ev.yes rfl (Ev.yes rfl (Ev.yes rfl (evCall (un_own h1 h2 ha op hop) (Ev.yes rfl (Ev.ret rfl))))))))
theorem eval_un (op : Nat) (hop : op < 6) (wd : Int) : Ev (fun n => typed_Eval n (mkE 6 (op : Int) wd 0 false [numE w a]) (.iface k d)) fun r => r = (true, [vec (unW w op) (unN w a op)]) :=
  eval_mk rfl rfl rfl (ps := [(w, a)]) rfl (by simp) (args1 numOne) (value_un h1 h2 ha op hop wd)
theorem eval_bin {b : Nat} (hb : b < 2 ^ w) (op : Nat) (hop : op < 19) (wd : Int) : Ev (fun n => typed_Eval n (mkE 7 (op : Int) wd 0 false [numE w a, numE w b]) (.iface k d)) fun r => r = (true, [vec (resW w op) (resN w a b op)]) :=
  eval_mk rfl rfl rfl (ps := [(w, a), (w, b)]) rfl (by simp) (args2 numOne numOne) (Ev.eq (fun n => typed_Value_eq n ..) (Ev.no rfl (Ev.no rfl (Ev.no rfl (Ev.yes rfl (Ev.yes rfl (Ev.yes rfl (Ev.yes rfl (Ev.yes rfl (evCall (bin_own h1 h2 ha hb op hop) (Ev.yes rfl (Ev.ret rfl))))))))))))
end
theorem contains_one (t : Nat) : Ev (fun n => slices_Contains_bool n (.lst 1 (bitsD 1 t)) (.bool true)) fun r => r = (true, [.bool (t.testBit 0)]) := by
  have e : bitsD 1 t = [.bool (t.testBit 0)] := rfl
  rw [e]
  have ix : Ev (fun n => slices_Index_bool n (.lst 1 [.bool (t.testBit 0)]) (.bool true)) fun r => r = (true, [.int .i64 (bif t.testBit 0 then 0 else -1)]) := by
    refine Ev.eq (fun n => slices_Index_bool_eq n ..) ?_
    cases t.testBit 0 with
    | true => exact Ev.bindL (Ev.eq (fun n => slices_Index_bool_L0_eq n ..) (Ev.yes rfl (Ev.yes rfl (Ev.yes rfl (Ev.yes rfl (Ev.ret (P := fun r => r = (true, [.int .i64 0])) rfl)))))) (fun ds h => h) fun ds h => by cases h
    | false =>
      refine evLoop (ds := [.lst 1 [.bool false], .bool true, .int .i64 1, .int .i64 1]) (Ev.eq (fun n => slices_Index_bool_L0_eq n ..) (Ev.yes rfl (Ev.yes rfl (Ev.yes rfl (Ev.no rfl ?_))))) (Ev.yes rfl (Ev.ret rfl))
      rw [show IntKind.i64.wrap (0 + 1) = 1 from rfl]
      exact Ev.eq (fun n => slices_Index_bool_L0_eq n ..) (Ev.no rfl (Ev.ret rfl))
  refine Ev.eq (fun n => slices_Contains_bool_eq n ..) (evCall ix (Ev.yes rfl (Ev.ret ?_)))
  cases t.testBit 0 <;> rfl
theorem eval_mux {w a b t : Nat} (ht : t < 2) {T : D} (hT : (notAny ty_iiiiibil1l9 && okTy ty_iiiiibil1l9 T) = true ∧ expTy ty_iiiiibil1l9 T = T ∧ Ev (fun n => typed_Eval n T (.iface k d)) fun r => r = (true, [vecP (1, t)])) : Ev (fun n => typed_Eval n (mkE 8 0 (w : Int) 0 false [T, numE w a, numE w b]) (.iface k d)) fun r => r = (true, [vec w (bif t.testBit 0 then a else b)]) := by
  refine eval_mk rfl rfl rfl (ps := [(1, t), (w, a), (w, b)]) rfl (by simp) (args3 hT numOne numOne) (Ev.eq (fun n => typed_Value_eq n ..) (Ev.no rfl (Ev.no rfl (Ev.no rfl (Ev.no rfl (Ev.yes rfl (Ev.yes rfl (Ev.yes rfl (Ev.yes rfl (Ev.yes rfl (evCall (Bits_is (w := 1) (a := t) (by omega) ht) (Ev.yes rfl (evCall (contains_one t) (Ev.yes rfl ?_))))))))))))))
  show Ev (fun n => bif t.testBit 0 then _ else _) _
  cases t.testBit 0 with
  | true => exact Ev.yes rfl (Ev.yes rfl (Ev.yes rfl (Ev.ret rfl)))
  | false => exact Ev.no rfl (Ev.ret rfl)
end
end Go.Proofs.YthlhbocobgkdmaaGreat
