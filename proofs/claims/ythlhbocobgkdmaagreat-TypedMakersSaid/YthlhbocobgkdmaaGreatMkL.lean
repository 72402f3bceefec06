/- TypedMakers, plain. -/
import Derived.Test.YthlhbocobgkdmaaGreatMkK
import Derived.Test.YthlhbocobgkdmaaGreatZsW
namespace Go.Proofs.YthlhbocobgkdmaaGreat
open Go.AE
set_option linter.unusedVariables false
set_option linter.unusedSimpArgs false
theorem awake12 : Ev (fun n => law12_awake n) fun r => r = (true, [.bool true]) :=
  ⟨_, rfl, 24, fun n hn => by
    obtain ⟨m, rfl⟩ : ∃ m, n = m + 24 := ⟨n - 24, by omega⟩
    exact awake12_run m⟩
theorem one_own {w a : Nat} (op : Nat) (hop : op < 6) : Ev (fun n => typed_One n (.int .i64 (op : Int)) (numE w a)) fun r => r = (true, [mkE 6 (op : Int) ((unW w op : Nat) : Int) 0 false [numE w a]]) := by
  refine Ev.eq (fun n => typed_One_eq n ..) ?_
  match op, hop with
  | 0, _ => exact Ev.yes rfl (evDfn (fun n => typed_One_j1_def n ..) (Ev.yes rfl (Ev.ret rfl)))
  | 1, _ => exact Ev.no rfl (evDfn (fun n => typed_One_j1_def n ..) (Ev.yes rfl (Ev.ret rfl)))
  | 2, _ | 3, _ | 4, _ | 5, _ => exact Ev.no rfl (evDfn (fun n => typed_One_j1_def n ..) (Ev.no rfl (Ev.ret rfl)))
  | n + 6, h => exact absurd h (by omega)
theorem two_own {w a b : Nat} (op : Nat) (hop : op < 19) : Ev (fun n => typed_Two n (.int .i64 (op : Int)) (numE w a) (numE w b)) fun r => r = (true, [mkE 7 (op : Int) ((resW w op : Nat) : Int) 0 false [numE w a, numE w b]]) := by
  refine Ev.eq (fun n => typed_Two_eq n ..) ?_
  by_cases h : op < 13
  · rw [show resW w op = w from if_pos h]
    exact Ev.no (decide_eq_false (by omega)) (evDfn (fun n => typed_Two_j1_def n ..) (Ev.ret rfl))
  · rw [show resW w op = 1 from if_neg h]
    exact Ev.yes (decide_eq_true (by omega)) (evDfn (fun n => typed_Two_j1_def n ..) (Ev.ret rfl))
theorem unW_ok {w : Nat} (h1 : 1 ≤ w) (h2 : w ≤ 64) (op : Nat) : 1 ≤ unW w op ∧ unW w op ≤ 64 := by unfold unW; split <;> omega
theorem resW_ok {w : Nat} (h1 : 1 ≤ w) (h2 : w ≤ 64) (op : Nat) : 1 ≤ resW w op ∧ resW w op ≤ 64 := by unfold resW; split <;> omega
section
variable {w a b : Nat} (h1 : 1 ≤ w) (h2 : w ≤ 64) (ha : a < 2 ^ w) (hb : b < 2 ^ w)
include h1 h2 ha hb
theorem un_loop : ∀ (m i : Nat), 6 - i = m → i ≤ 6 → Ev (fun n => law12_TypedMakers_L0 n (.lst 1 (bitsD w a)) (.lst 1 (bitsD w b)) (.int .i64 (w : Int)) (.int .i64 (i : Int)) (.int .i64 1) (.int .i64 0) (.int .i64 (w : Int)) (.int .i64 0) (.int .i64 0) (.bool false) (.int .i64 (w : Int)) (.lst 1 (wordsN w a)) (.lst 9 []) (.int .i64 1) (.int .i64 0) (.int .i64 (w : Int)) (.int .i64 0) (.int .i64 0) (.bool false) (.int .i64 (w : Int)) (.lst 1 (wordsN w b)) (.lst 9 []) (.lst 2 []) (.lst 5 []) (.lst 10 [])) fun r => ∃ i' : Int, r = (false, [.lst 1 (bitsD w a), .lst 1 (bitsD w b), .int .i64 (w : Int), .int .i64 i', .int .i64 1, .int .i64 0, .int .i64 (w : Int), .int .i64 0, .int .i64 0, .bool false, .int .i64 (w : Int), .lst 1 (wordsN w a), .lst 9 [], .int .i64 1, .int .i64 0, .int .i64 (w : Int), .int .i64 0, .int .i64 0, .bool false, .int .i64 (w : Int), .lst 1 (wordsN w b), .lst 9 [], .lst 2 [], .lst 5 [], .lst 10 []]) := by
  have _ := hb
  intro m
  induction m with
  | zero =>
    intro i hm hi
    exact Ev.eq (fun n => law12_TypedMakers_L0_eq n ..) (Ev.no (decide_eq_false (by omega)) (Ev.ret ⟨_, rfl⟩))
  | succ m ih =>
    intro i hm hi
    have hi2 : i < 6 := by omega
    have ok := unW_ok h1 h2 i
    have lt := unN_lt ha i hi2
    have ev := eval_un (k := 63) (d := .agg [.lst 2 [], .lst 5 [], .lst 10 []]) h1 h2 ha i hi2 ((unW w i : Nat) : Int)
    refine Ev.eq (fun n => law12_TypedMakers_L0_eq n ..) (Ev.yes (decide_eq_true (by omega)) (evCall (un_ref h1 (by omega) ha i hi2) (Ev.yes rfl (evCall (one_own i hi2) (Ev.yes rfl (Ev.no ?_ (evCall ev (Ev.yes rfl (evCall (is_true ok.1 (by omega) lt) (Ev.yes rfl (Ev.no rfl (evCall (value_un h1 h2 ha i hi2 _) (Ev.yes rfl (evCall ev (Ev.yes rfl (evCall (equal_is ok.2) (Ev.yes rfl (Ev.no ?_ ?_))))))))))))))))))
    · show (((unW w i : Nat) : Int) != ((bitsD (unW w i) (unN w a i)).length : Int)) = false
      rw [rlen]; exact ne_self
    · show (!decide (unN w a i = unN w a i)) = false
      simp
    · rw [wrap_succ (by omega)]
      exact ih (i + 1) (by omega) hi2
theorem bin_loop : ∀ (m i : Nat), 19 - i = m → i ≤ 19 → Ev (fun n => law12_TypedMakers_L2 n (.lst 1 (bitsD w a)) (.lst 1 (bitsD w b)) (.int .i64 (w : Int)) (.int .i64 (i : Int)) (.int .i64 1) (.int .i64 0) (.int .i64 (w : Int)) (.int .i64 0) (.int .i64 0) (.bool false) (.int .i64 (w : Int)) (.lst 1 (wordsN w a)) (.lst 9 []) (.int .i64 1) (.int .i64 0) (.int .i64 (w : Int)) (.int .i64 0) (.int .i64 0) (.bool false) (.int .i64 (w : Int)) (.lst 1 (wordsN w b)) (.lst 9 []) (.lst 2 []) (.lst 5 []) (.lst 10 [])) fun r => ∃ i' : Int, r = (false, [.lst 1 (bitsD w a), .lst 1 (bitsD w b), .int .i64 (w : Int), .int .i64 i', .int .i64 1, .int .i64 0, .int .i64 (w : Int), .int .i64 0, .int .i64 0, .bool false, .int .i64 (w : Int), .lst 1 (wordsN w a), .lst 9 [], .int .i64 1, .int .i64 0, .int .i64 (w : Int), .int .i64 0, .int .i64 0, .bool false, .int .i64 (w : Int), .lst 1 (wordsN w b), .lst 9 [], .lst 2 [], .lst 5 [], .lst 10 []]) := by
  intro m
  induction m with
  | zero =>
    intro i hm hi
    exact Ev.eq (fun n => law12_TypedMakers_L2_eq n ..) (Ev.no (decide_eq_false (by omega)) (Ev.ret ⟨_, rfl⟩))
  | succ m ih =>
    intro i hm hi
    have hi2 : i < 19 := by omega
    have ok := resW_ok h1 h2 i
    have lt := resN_lt h1 ha hb i hi2
    have ev := eval_bin (k := 63) (d := .agg [.lst 2 [], .lst 5 [], .lst 10 []]) h1 h2 ha hb i hi2 ((resW w i : Nat) : Int)
    refine Ev.eq (fun n => law12_TypedMakers_L2_eq n ..) (Ev.yes (decide_eq_true (by omega)) (evCall (bin_ref h1 (by omega) ha hb i hi2) (Ev.yes rfl (evCall (two_own i hi2) (Ev.yes rfl (Ev.no ?_ (evCall ev (Ev.yes rfl (evCall (is_true ok.1 (by omega) lt) (Ev.yes rfl (Ev.no rfl ?_)))))))))))
    · show (((resW w i : Nat) : Int) != ((bitsD (resW w i) (resN w a b i)).length : Int)) = false
      rw [rlen]; exact ne_self
    · rw [wrap_succ (by omega)]
      exact ih (i + 1) (by omega) hi2
theorem fin_is {t0 t1 t3 t4 t6 i' : Int} {t5 : Bool} {t7 t8 : List D} {t : Nat} (ht : t < 2) (htb : t.testBit 0 = decide (a ≠ 0))
    (hT : ∀ k d, Ev (fun n => typed_Eval n (.agg [.int .i64 t0, .int .i64 t1, .int .i64 1, .int .i64 t3, .int .i64 t4, .bool t5, .int .i64 t6, .lst 1 t7, .lst 9 t8]) (.iface k d)) fun r => r = (true, [vec 1 t])) :
    Ev (fun n => law12_TypedMakers_j3 n (bitsD w (bif decide (a ≠ 0) then a else b)) [.lst 1 (bitsD w a), .lst 1 (bitsD w b), .int .i64 (w : Int), .int .i64 i', .int .i64 1, .int .i64 0, .int .i64 (w : Int), .int .i64 0, .int .i64 0, .bool false, .int .i64 (w : Int), .lst 1 (wordsN w a), .lst 9 [], .int .i64 1, .int .i64 0, .int .i64 (w : Int), .int .i64 0, .int .i64 0, .bool false, .int .i64 (w : Int), .lst 1 (wordsN w b), .lst 9 [], .lst 2 [], .lst 5 [], .lst 10 []] [.agg [.int .i64 t0, .int .i64 t1, .int .i64 1, .int .i64 t3, .int .i64 t4, .bool t5, .int .i64 t6, .lst 1 t7, .lst 9 t8]]) fun r => r = (true, [.bool true]) := by
  have b0 := bit_is (w := 1) (a := t) (i := 0) (by omega) ht
  have f1 := tFind_is (l := [cT, sT w, fT]) (by simp) eC [115]
  have f2 := tFind_is (l := [cT, fT]) (by simp) eC [115]
  have f3 := tFind_is (l := [cT, fT]) (by simp) eC [102]
  have ev := hT 63 (.agg [.lst 2 [], .lst 5 [], .lst 10 []])
  have mux := eval_mux (k := 63) (d := .agg [.lst 2 [], .lst 5 [], .lst 10 []]) (w := w) (a := a) (b := b) ht ⟨rfl, rfl, ev⟩
  have hab : (bif decide (a ≠ 0) then a else b) < 2 ^ w := by cases decide (a ≠ 0) with | true => exact ha | false => exact hb
  rw [htb] at mux
  have ist := is_true h1 (by omega) hab
  refine evDfn (fun n => law12_TypedMakers_j3_def n ..) (evCall s1_is (Ev.yes rfl (evCall (s2_is w) (Ev.yes rfl (evCall (s3_is w) (Ev.yes rfl (evCall f1 (Ev.yes rfl (evCall (w2_is w) (Ev.yes rfl (evCall f2 (Ev.yes rfl (evCall (w2_is w) (Ev.yes rfl (evCall f3 (Ev.yes rfl ?_))))))))))))))))
  have sg : Ev (fun n => typed_Signal n (.int .i64 4) (.agg [.str [115], .int .i64 (w : Int), .bool false, .int .i64 0])) fun r => r = (true, [.agg [.int .i64 2, .int .i64 0, .int .i64 (w : Int), .int .i64 4, .int .i64 0, .bool false, .int .i64 0, .lst 1 [], .lst 9 []]]) := Ev.eq (fun n => typed_Signal_eq n ..) (Ev.ret rfl)
  have ch : Ev (fun n => typed_Choose n (.agg [.int .i64 t0, .int .i64 t1, .int .i64 1, .int .i64 t3, .int .i64 t4, .bool t5, .int .i64 t6, .lst 1 t7, .lst 9 t8]) (numE w a) (numE w b)) fun r => r = (true, [mkE 8 0 (w : Int) 0 false [.agg [.int .i64 t0, .int .i64 t1, .int .i64 1, .int .i64 t3, .int .i64 t4, .bool t5, .int .i64 t6, .lst 1 t7, .lst 9 t8], numE w a, numE w b]]) := Ev.eq (fun n => typed_Choose_eq n ..) (Ev.ret rfl)
  refine evCall sg (Ev.yes rfl (Ev.yes rfl (evCall ev (Ev.yes rfl (evCall b0 (Ev.yes rfl (evCall (Any_is (by omega) ha) (Ev.yes rfl (Ev.yes ?_ (evCall ch (Ev.yes rfl (evCall mux (Ev.yes rfl (evCall ist (Ev.yes rfl (Ev.yes rfl (Ev.yes rfl (Ev.yes rfl (Ev.yes rfl (Ev.yes rfl (Ev.yes rfl (Ev.yes ?_ ?_))))))))))))))))))))))
  · show (t.testBit 0 == decide (a ≠ 0)) = true
    rw [htb]; exact beq_self_eq_true _
  · show ((w : Int) == (w : Int)) = true
    exact beq_self_eq_true _
  · exact evCall (w1_is w) (Ev.yes rfl (evCall (envK_is _ _) (Ev.yes rfl (evCall (lenK_is _) (Ev.yes rfl (Ev.yes rfl (evCall (w2_is w) (Ev.yes rfl (evCall (envK_is _ _) (Ev.yes rfl (evCall (lenK_is _) (Ev.yes rfl (Ev.ret rfl)))))))))))))
theorem two_is : Ev (fun n => law12_TypedMakers_j2 n false (bitsD w b) (bitsD w a) [numE w a] [numE w b]) fun r => r = (true, [.bool true]) := by
  refine evDfn (fun n => law12_TypedMakers_j2_def n ..) (Ev.no rfl ?_)
  show Ev (fun n => bindL (law12_TypedMakers_L0 n (.lst 1 (bitsD w a)) (.lst 1 (bitsD w b)) (.int .i64 ((bitsD w a).length : Int)) (.int .i64 0) (.int .i64 1) (.int .i64 0) (.int .i64 (w : Int)) (.int .i64 0) (.int .i64 0) (.bool false) (.int .i64 (w : Int)) (.lst 1 (wordsN w a)) (.lst 9 []) (.int .i64 1) (.int .i64 0) (.int .i64 (w : Int)) (.int .i64 0) (.int .i64 0) (.bool false) (.int .i64 (w : Int)) (.lst 1 (wordsN w b)) (.lst 9 []) (.lst 2 []) (.lst 5 []) (.lst 10 [])) _) _
  rw [rlen]
  refine Ev.bindL (un_loop h1 h2 ha hb 6 0 rfl (by omega)) (fun ds h => by obtain ⟨_, h⟩ := h; cases h) fun ds h => ?_
  obtain ⟨i1, h⟩ := h
  cases h
  refine Ev.yes rfl (Ev.bindL (bin_loop h1 h2 ha hb 19 0 rfl (by omega)) (fun ds h => by obtain ⟨_, h⟩ := h; cases h) fun ds h => ?_)
  obtain ⟨i2, h⟩ := h
  cases h
  refine Ev.yes rfl ?_
  have any := Any_is (w := w) (a := a) (by omega) ha
  by_cases hw : w = 1
  · have hT : ∀ k d, Ev (fun n => typed_Eval n (numE w a) (.iface k d)) fun r => r = (true, [vec 1 a]) := fun k d => by
      rw [hw]; exact eval_num
    have ha2 : a < 2 := by rw [hw] at ha; exact ha
    have htb : a.testBit 0 = decide (a ≠ 0) := by
      have : a = 0 ∨ a = 1 := by omega
      rcases this with rfl | rfl <;> rfl
    have tr : Ev (fun n => typed_Truth n (numE w a)) fun r => r = (true, [.agg [.int .i64 1, .int .i64 0, .int .i64 1, .int .i64 0, .int .i64 0, .bool false, .int .i64 (w : Int), .lst 1 (wordsN w a), .lst 9 []]]) := by
      refine Ev.eq (fun n => typed_Truth_eq n ..) (Ev.yes (by rw [hw]; rfl) (Ev.ret ?_))
      rw [show ((w : Int)) = 1 by rw [hw]; rfl]
    have hT2 : ∀ k d, Ev (fun n => typed_Eval n (.agg [.int .i64 1, .int .i64 0, .int .i64 1, .int .i64 0, .int .i64 0, .bool false, .int .i64 (w : Int), .lst 1 (wordsN w a), .lst 9 []]) (.iface k d)) fun r => r = (true, [vec 1 a]) := fun k d => by
      have h := hT k d
      unfold numE at h
      have e : ((w : Nat) : Int) = 1 := by rw [hw]; rfl
      rw [e] at h ⊢
      exact h
    have f := fin_is h1 h2 ha hb (i' := i2) ha2 htb hT2
    refine evCall tr (Ev.yes rfl (evCall any (Ev.yes rfl ?_)))
    cases hd : decide (a ≠ 0) with
    | true => rw [hd] at f; exact Ev.yes rfl f
    | false => rw [hd] at f; exact Ev.no rfl f
  · have hT2 := fun k d => eval_un (k := k) (d := d) h1 h2 ha 3 (by omega) 1
    have htb : ((decide (a ≠ 0)).toNat).testBit 0 = decide (a ≠ 0) := by cases decide (a ≠ 0) <;> rfl
    have ht : (decide (a ≠ 0)).toNat < 2 := by cases decide (a ≠ 0) <;> decide
    have tr : Ev (fun n => typed_Truth n (numE w a)) fun r => r = (true, [mkE 6 3 1 0 false [numE w a]]) :=
      Ev.eq (fun n => typed_Truth_eq n ..) (Ev.no (beq_eq_false_iff_ne.2 (by omega)) (evCall (one_own 3 (by omega)) (Ev.yes rfl (Ev.ret rfl))))
    have f := fin_is h1 h2 ha hb (i' := i2) ht htb hT2
    refine evCall tr (Ev.yes rfl (evCall any (Ev.yes rfl ?_)))
    cases hd : decide (a ≠ 0) with
    | true => rw [hd] at f; exact Ev.yes rfl f
    | false => rw [hd] at f; exact Ev.no rfl f
end
end Go.Proofs.YthlhbocobgkdmaaGreat
