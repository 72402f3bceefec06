/- The document's bit lists: made bit by bit; moved, cut out, made wider; compared; products. -/
import Derived.Test.YthlhbocobgkdmaaGreatMkA
namespace Go.Proofs.YthlhbocobgkdmaaGreat
open Go.AE
set_option linter.unusedVariables false
set_option linter.unusedSimpArgs false
def Done (w : Nat) (f : Nat → Bool) (i : Nat) (out : List D) : Prop := out.length = w ∧ ∀ k, k < i → out[k]? = some (.bool (f k))
theorem Done.zero (w : Nat) (f : Nat → Bool) (x : D) : Done w f 0 (List.replicate w x) := ⟨List.length_replicate .., fun k h => by omega⟩
theorem Done.set {w i : Nat} {f : Nat → Bool} {out : List D} (h : Done w f i out) (hi : i < w) {b : Bool} (hb : b = f i) : Done w f (i + 1) (out.set i (.bool b)) := by
  refine ⟨by rw [List.length_set]; exact h.1, fun k hk => ?_⟩
  rw [set_get (by rw [h.1]; exact hi)]
  by_cases e : i = k
  · rw [if_pos e, hb, e]
  · rw [if_neg e]; exact h.2 k (by omega)
theorem Done.all {w : Nat} {f : Nat → Bool} {out : List D} (h : Done w f w out) : out = bitsD w (fillN f w) := by
  refine bitsD_ext h.1 fun i hi => ?_
  rw [h.2 i hi, fill_bit, decide_eq_true hi, Bool.true_and]
theorem bitsD_congr {w x y : Nat} (h : x % 2 ^ w = y % 2 ^ w) : bitsD w x = bitsD w y := by
  rw [← bitsD_mod w x, h, bitsD_mod]
theorem rlen (w n : Nat) : ((bitsD w n).length : Int) = (w : Int) := by rw [bitsD_len]
theorem rep_is (w : Nat) : List.replicate ((w : Nat) : Int).toNat (D.bool false) = bitsD w 0 := by rw [Int.toNat_natCast]; exact bitsD_zero w
theorem mk_ok {w : Nat} (hw : w ≤ 1000) : (decide ((0 : Int) ≤ (w : Int)) && decide ((w : Int) ≤ (w : Int)) && decide ((w : Int) ≤ (maxLst : Int))) = true :=
  and_tt (and_tt (decide_eq_true (by omega)) (decide_eq_true (by omega))) (decide_eq_true (by simp only [maxLst]; omega))
theorem Any_is {w a : Nat} (hw : w ≤ 1000) (ha : a < 2 ^ w) : Ev (fun n => ref01_Any n (.lst 1 (bitsD w a))) fun r => r = (true, [.bool (decide (a ≠ 0))]) := by
  have loop : ∀ (m j : Nat), w - j = m → j ≤ w → Ev (fun n => ref01_Any_L0 n (.lst 1 (bitsD w a)) (.int .i64 (j : Int))) fun r => r = bif decide (a / 2 ^ j ≠ 0) then (true, [.bool true]) else (false, [.lst 1 (bitsD w a), .int .i64 (w : Int)]) := by
    intro m
    induction m with
    | zero =>
      intro j hm hj
      have : j = w := by omega
      subst this
      rw [Nat.div_eq_of_lt ha]
      exact Ev.eq (fun n => ref01_Any_L0_eq n _ _) (Ev.no (decide_eq_false (by rw [bitsD_len]; omega)) (Ev.ret rfl))
    | succ m ih =>
      intro j hm hj
      have hj2 : j < w := by omega
      have hj3 : j < (bitsD w a).length := by rw [bitsD_len]; exact hj2
      refine Ev.eq (fun n => ref01_Any_L0_eq n _ _) (Ev.yes (decide_eq_true (by omega)) (Ev.yes (in_range hj3) ?_))
      rw [bitsD_at hj2, wrap_succ (by omega)]
      refine Ev.yes rfl ?_
      have hs := shr_bit a j
      show Ev (fun n => bif a.testBit j then _ else _) _
      cases hb : a.testBit j with
      | true =>
        rw [hb] at hs
        have : a / 2 ^ j ≠ 0 := by rw [hs]; simp
        rw [decide_eq_true this]
        exact Ev.yes rfl (Ev.ret rfl)
      | false =>
        rw [hb] at hs
        have e : decide (a / 2 ^ j ≠ 0) = decide (a / 2 ^ (j + 1) ≠ 0) := by
          rw [hs]
          generalize a / 2 ^ (j + 1) = z
          rw [Bool.eq_iff_iff]; simp; omega
        rw [e]
        exact Ev.no rfl (ih (j + 1) (by omega) hj2)
  have l := loop w 0 rfl (Nat.zero_le _)
  rw [Nat.pow_zero, Nat.div_one] at l
  refine Ev.eq (fun n => ref01_Any_eq n _) ?_
  cases hb : decide (a ≠ 0) with
  | true =>
    rw [hb] at l
    exact Ev.bindL l (fun ds h => h) fun ds h => by cases h
  | false =>
    rw [hb] at l
    exact evLoop l (Ev.yes rfl (Ev.ret rfl))
theorem Less_is {w a b : Nat} (hw : w ≤ 1000) (ha : a < 2 ^ w) (hb : b < 2 ^ w) : Ev (fun n => ref01_Less n (.lst 1 (bitsD w a)) (.lst 1 (bitsD w b))) fun r => r = (true, [.bool (decide (a < b))]) := by
  have loop : ∀ j, j ≤ w → a / 2 ^ j = b / 2 ^ j → Ev (fun n => ref01_Less_L0 n (.lst 1 (bitsD w a)) (.lst 1 (bitsD w b)) (.int .i64 ((j : Int) - 1))) fun r => r = bif decide (a = b) then (false, [.lst 1 (bitsD w a), .lst 1 (bitsD w b), .int .i64 (-1)]) else (true, [.bool (decide (a < b))]) := by
    intro j
    induction j with
    | zero =>
      intro hj e
      rw [Nat.pow_zero, Nat.div_one, Nat.div_one] at e
      rw [decide_eq_true e]
      exact Ev.eq (fun n => ref01_Less_L0_eq n ..) (Ev.no (by decide) (Ev.ret rfl))
    | succ j ih =>
      intro hj e
      have hj2 : j < w := by omega
      have hja : j < (bitsD w a).length := by rw [bitsD_len]; exact hj2
      have hjb : j < (bitsD w b).length := by rw [bitsD_len]; exact hj2
      rw [show (((j + 1 : Nat) : Int) - 1) = (j : Int) by omega]
      refine Ev.eq (fun n => ref01_Less_L0_eq n ..) (Ev.yes (decide_eq_true (by omega)) (Ev.yes (in_range hja) ?_))
      rw [bitsD_at hj2, bitsD_at hj2]
      refine Ev.yes rfl (Ev.yes (in_range hjb) (Ev.yes rfl ?_))
      show Ev (fun n => bif !(a.testBit j == b.testBit j) then _ else _) _
      have sa := shr_bit a j
      have sb := shr_bit b j
      cases hab : a.testBit j == b.testBit j with
      | true =>
        have hab := eq_of_beq hab
        refine Ev.no rfl ?_
        rw [wrap_id (by omega) (by omega)]
        exact ih (by omega) (by rw [sa, sb, e, hab])
      | false =>
        refine Ev.yes rfl (Ev.yes (in_range hjb) (Ev.yes rfl (Ev.ret ?_)))
        have hne : a ≠ b := fun h => by rw [h] at hab; simp at hab
        rw [decide_eq_false hne]
        show (true, [D.bool (b.testBit j)]) = (true, [D.bool (decide (a < b))])
        cases hbj : b.testBit j with
        | true =>
          have haj : a.testBit j = false := by
            cases h : a.testBit j with
            | false => rfl
            | true => rw [h, hbj] at hab; cases hab
          rw [hbj] at sb
          rw [haj] at sa
          have : a / 2 ^ j < b / 2 ^ j := by rw [sa, sb, e]; simp
          rw [decide_eq_true (Nat.lt_of_not_le fun h => by have := Nat.div_le_div_right (c := 2 ^ j) h; omega)]
        | false =>
          have haj : a.testBit j = true := by
            cases h : a.testBit j with
            | true => rfl
            | false => rw [h, hbj] at hab; cases hab
          rw [hbj] at sb
          rw [haj] at sa
          have : b / 2 ^ j < a / 2 ^ j := by rw [sa, sb, e]; simp
          rw [decide_eq_false (fun h => by have := Nat.div_le_div_right (c := 2 ^ j) (Nat.le_of_lt h); omega)]
  refine Ev.eq (fun n => ref01_Less_eq n ..) ?_
  rw [rlen, wrap_id (by omega) (by omega)]
  have l := loop w (Nat.le_refl _) (by rw [Nat.div_eq_of_lt ha, Nat.div_eq_of_lt hb])
  cases hab : decide (a = b) with
  | true =>
    rw [hab] at l
    refine evLoop l (Ev.yes rfl (Ev.ret ?_))
    have := of_decide_eq_true hab
    rw [decide_eq_false (by omega)]
  | false =>
    rw [hab] at l
    exact Ev.bindL l (fun ds h => h) fun ds h => by cases h
def moveF (w a : Nat) (d : Int) (s : Bool) (i : Nat) : Bool := bif decide (0 ≤ (i : Int) - d) && decide ((i : Int) - d < (w : Int)) then a.testBit ((i : Int) - d).toNat else s
theorem Move_is {w a : Nat} (hw : w ≤ 1000) {d : Int} (d1 : -1000 ≤ d) (d2 : d ≤ 1000) (s : Bool) : Ev (fun n => ref01_Move n (.lst 1 (bitsD w a)) (.int .i64 d) (.bool s)) fun r => r = (true, [.lst 1 (bitsD w (fillN (moveF w a d s) w))]) := by
  have loop : ∀ (m i : Nat) (out : List D), w - i = m → i ≤ w → Done w (moveF w a d s) i out → Ev (fun n => ref01_Move_L0 n (.lst 1 (bitsD w a)) (.int .i64 d) (.bool s) (.int .i64 (i : Int)) (.lst 1 out)) fun r => ∃ i' : Int, r = (false, [.lst 1 (bitsD w a), .int .i64 d, .bool s, .int .i64 i', .lst 1 (bitsD w (fillN (moveF w a d s) w))]) := by
    intro m
    induction m with
    | zero =>
      intro i out hm hi D0
      have : i = w := by omega
      subst this
      rw [← D0.all]
      exact Ev.eq (fun n => ref01_Move_L0_eq n ..) (Ev.no (decide_eq_false (by rw [bitsD_len]; omega)) (Ev.ret ⟨_, rfl⟩))
    | succ m ih =>
      intro i out hm hi D0
      have hi2 : i < w := by omega
      have hio : i < out.length := by rw [D0.1]; exact hi2
      have hlen : (bitsD w a).length = w := bitsD_len w a
      refine Ev.eq (fun n => ref01_Move_L0_eq n ..) (Ev.yes (decide_eq_true (by omega)) (Ev.yes (in_range hio) ?_))
      rw [wrap_id (x := (i : Int) - d) (by omega) (by omega), wrap_succ (by omega), Int.toNat_natCast]
      by_cases c1 : 0 ≤ (i : Int) - d
      · by_cases c2 : (i : Int) - d < (w : Int)
        · obtain ⟨k, hk⟩ : ∃ k : Nat, (i : Int) - d = (k : Int) := ⟨((i : Int) - d).toNat, by omega⟩
          have hk2 : k < w := by omega
          rw [hk, bitsD_at hk2]
          have hs : (out.set i (.bool s)).length = w := by rw [List.length_set]; exact D0.1
          refine Ev.yes (decide_eq_true (by omega)) (Ev.yes (decide_eq_true (by omega)) (Ev.yes (and_tt (decide_eq_true (by omega)) (decide_eq_true (by omega))) (Ev.yes rfl (Ev.yes (and_tt (decide_eq_true (by omega)) (decide_eq_true (by omega))) ?_))))
          rw [List.set_set]
          refine ih (i + 1) _ (by omega) hi2 (D0.set hi2 ?_)
          show a.testBit k = moveF w a d s i
          unfold moveF
          rw [hk, decide_eq_true (by omega), decide_eq_true (by omega)]; rfl
        · refine Ev.yes (decide_eq_true (by omega)) (Ev.no (decide_eq_false (by omega)) (ih (i + 1) _ (by omega) hi2 (D0.set hi2 ?_)))
          unfold moveF
          rw [decide_eq_false c2, Bool.and_false]; rfl
      · refine Ev.no (decide_eq_false (by omega)) (ih (i + 1) _ (by omega) hi2 (D0.set hi2 ?_))
        unfold moveF
        rw [decide_eq_false c1, Bool.false_and]; rfl
  refine Ev.eq (fun n => ref01_Move_eq n ..) ?_
  rw [rlen, Int.toNat_natCast]
  refine Ev.yes (mk_ok hw) (Ev.bindL (loop w 0 _ rfl (Nat.zero_le _) (Done.zero w _ _)) (fun ds h => by obtain ⟨_, h⟩ := h; cases h) fun ds h => ?_)
  obtain ⟨_, h⟩ := h
  cases h
  exact Ev.yes rfl (Ev.ret rfl)
theorem Slice_is {w a lo k : Nat} (hw : w ≤ 1000) (h1 : 1 ≤ k) (hk : lo + k ≤ w) : Ev (fun n => ref01_Slice n (.lst 1 (bitsD w a)) (.int .i64 (lo : Int)) (.int .i64 (k : Int))) fun r => r = (true, [.int .i64 0, .lst 1 (bitsD k (fillN (cutF lo a) k))]) := by
  have hlen : (bitsD w a).length = w := bitsD_len w a
  refine Ev.eq (fun n => ref01_Slice_eq n ..) (Ev.no (decide_eq_false (by omega)) (Ev.no (decide_eq_false (by omega)) (Ev.no (decide_eq_false (by omega)) ?_)))
  rw [wrap_id (by omega) (by omega), decide_eq_false (by omega)]
  refine evDfn (fun n => ref01_Slice_j1_def n ..) (Ev.no rfl ?_)
  rw [show ((lo : Int) + (k : Int)) = ((lo + k : Nat) : Int) by omega, wrap_nat (by omega), Int.toNat_natCast, Int.toNat_natCast, show lo + k - lo = k by omega]
  have e : ((bitsD w a).drop lo).take k = bitsD k (fillN (cutF lo a) k) := by
    refine bitsD_ext (by rw [List.length_take, List.length_drop, hlen]; omega) fun i hi => ?_
    rw [List.getElem?_take, if_pos hi, List.getElem?_drop, bitsD_get (by omega), fill_bit, decide_eq_true hi]; rfl
  rw [e]
  refine Ev.yes (and_tt (and_tt (decide_eq_true (by omega)) (decide_eq_true (by omega))) (decide_eq_true (by omega))) (Ev.yes (Nat.ble_eq_true_of_le (by rw [bitsD_len]; simp only [maxLst]; omega)) (Ev.ret rfl))
theorem top_is {w a : Nat} (h1 : 1 ≤ w) (hw : w ≤ 1000) : Ev (fun n => ref01_top n (.lst 1 (bitsD w a))) fun r => r = (true, [.bool (a.testBit (w - 1))]) := by
  have hl : w - 1 < (bitsD w a).length := by rw [bitsD_len]; omega
  refine Ev.eq (fun n => ref01_top_eq n _) ?_
  rw [rlen, show ((w : Int) - 1) = ((w - 1 : Nat) : Int) by omega, wrap_nat (by omega), bitsD_at (by omega)]
  refine Ev.yes ?_ (Ev.yes rfl (Ev.ret rfl))
  exact and_tt (decide_eq_true (by omega)) (decide_eq_true (by omega))
theorem Ext_is {w a k : Nat} (h1 : 1 ≤ w) (hw : w ≤ 1000) (k1 : 1 ≤ k) (k2 : k ≤ 128) (s : Bool) : Ev (fun n => ref01_Ext n (.lst 1 (bitsD w a)) (.int .i64 (k : Int)) (.bool s)) fun r => r = (true, [.int .i64 0, .lst 1 (bitsD k (fillN (extF w a s) k))]) := by
  have hlen : (bitsD w a).length = w := bitsD_len w a
  have loop : ∀ (m i : Nat) (out : List D), k - i = m → i ≤ k → Done k (extF w a s) i out → Ev (fun n => ref01_Ext_L0 n (.lst 1 (bitsD w a)) (.int .i64 (k : Int)) (.bool s) (.int .i64 (i : Int)) (.lst 1 out)) fun r => ∃ i' : Int, r = (false, [.lst 1 (bitsD w a), .int .i64 (k : Int), .bool s, .int .i64 i', .lst 1 (bitsD k (fillN (extF w a s) k))]) := by
    intro m
    induction m with
    | zero =>
      intro i out hm hi D0
      have : i = k := by omega
      subst this
      rw [← D0.all]
      exact Ev.eq (fun n => ref01_Ext_L0_eq n ..) (Ev.no (decide_eq_false (by omega)) (Ev.ret ⟨_, rfl⟩))
    | succ m ih =>
      intro i out hm hi D0
      have hi2 : i < k := by omega
      have hio : i < out.length := by rw [D0.1]; exact hi2
      refine Ev.eq (fun n => ref01_Ext_L0_eq n ..) (Ev.yes (decide_eq_true (by omega)) ?_)
      rw [wrap_succ (by omega), Int.toNat_natCast]
      by_cases hc : i < w
      · refine Ev.yes (decide_eq_true (by omega)) (Ev.yes (and_tt (decide_eq_true (by omega)) (decide_eq_true (by omega))) ?_)
        have hg : (bitsD w a)[i]?.getD D.top = .bool (a.testBit i) := by rw [bitsD_get hc]; rfl
        rw [hg]
        refine Ev.yes rfl (Ev.yes (in_range hio) (ih (i + 1) _ (by omega) hi2 (D0.set hi2 ?_)))
        show a.testBit i = extF w a s i
        unfold extF
        rw [decide_eq_true hc]; rfl
      · refine Ev.no (decide_eq_false (by omega)) ?_
        cases s with
        | true =>
          refine Ev.yes rfl (evCall (top_is h1 hw) (Ev.yes rfl (Ev.yes (in_range hio) (ih (i + 1) _ (by omega) hi2 (D0.set hi2 ?_)))))
          show a.testBit (w - 1) = extF w a true i
          unfold extF
          rw [decide_eq_false hc]; rfl
        | false =>
          refine Ev.no rfl (Ev.yes (in_range hio) (ih (i + 1) _ (by omega) hi2 (D0.set hi2 ?_)))
          unfold extF
          rw [decide_eq_false hc]; rfl
  refine Ev.eq (fun n => ref01_Ext_eq n ..) (Ev.no (decide_eq_false (by omega)) (Ev.no (decide_eq_false (by omega)) ?_))
  rw [rlen, ne_zero h1]
  refine evDfn (fun n => ref01_Ext_j1_def n ..) (Ev.no rfl (Ev.yes (mk_ok (by omega)) ?_))
  rw [Int.toNat_natCast]
  refine Ev.bindL (loop k 0 _ rfl (Nat.zero_le _) (Done.zero k _ _)) (fun ds h => by obtain ⟨_, h⟩ := h; cases h) fun ds h => ?_
  obtain ⟨_, h⟩ := h
  cases h
  exact Ev.yes rfl (Ev.ret rfl)
theorem move_up {w a b : Nat} : fillN (moveF w a (b : Int) false) w = (a * 2 ^ b) % 2 ^ w := by
  refine fill_ext (Nat.mod_lt _ (Nat.two_pow_pos w)) fun i hi => ?_
  rw [Nat.testBit_mod_two_pow, decide_eq_true hi, Bool.true_and, Nat.testBit_mul_two_pow]
  unfold moveF
  by_cases h : b ≤ i
  · rw [decide_eq_true h, decide_eq_true (show (0 : Int) ≤ (i : Int) - (b : Int) by omega), decide_eq_true (show (i : Int) - (b : Int) < (w : Int) by omega), show ((i : Int) - (b : Int)).toNat = i - b by omega]; rfl
  · rw [decide_eq_false h, decide_eq_false (show ¬ (0 : Int) ≤ (i : Int) - (b : Int) by omega)]; rfl
theorem plain_plus (w n : Nat) : (chk ref01_Plus.osk [D.lst 1 (bitsD w n)] && plainDs ref01_Plus.osk [D.lst 1 (bitsD w n)]) = true := by
  simp [plainDs, bitsD_plain]; rfl
theorem Times_is {w a b : Nat} (hw : w ≤ 1000) (hb : b < 2 ^ w) : Ev (fun n => ref01_times n (.lst 1 (bitsD w a)) (.lst 1 (bitsD w b))) fun r => r = (true, [.lst 1 (bitsD w (a * b))]) := by
  have la : (bitsD w a).length = w := bitsD_len w a
  have lb : (bitsD w b).length = w := bitsD_len w b
  have loop : ∀ (m i : Nat), w - i = m → i ≤ w → Ev (fun n => ref01_times_L0 n (.lst 1 (bitsD w a)) (.lst 1 (bitsD w b)) (.int .i64 (i : Int)) (.lst 1 (bitsD w (a * (b % 2 ^ i))))) fun r => ∃ i' : Int, r = (false, [.lst 1 (bitsD w a), .lst 1 (bitsD w b), .int .i64 i', .lst 1 (bitsD w (a * b))]) := by
    intro m
    induction m with
    | zero =>
      intro i hm hi
      have : i = w := by omega
      subst this
      rw [Nat.mod_eq_of_lt hb]
      exact Ev.eq (fun n => ref01_times_L0_eq n ..) (Ev.no (decide_eq_false (by omega)) (Ev.ret ⟨_, rfl⟩))
    | succ m ih =>
      intro i hm hi
      have hi2 : i < w := by omega
      have nx := ih (i + 1) (by omega) hi2
      rw [mod_next] at nx
      refine Ev.eq (fun n => ref01_times_L0_eq n ..) (Ev.yes (decide_eq_true (by omega)) (Ev.yes (and_tt (decide_eq_true (by omega)) (decide_eq_true (by omega))) ?_))
      rw [bitsD_at hi2, wrap_succ (by omega)]
      refine Ev.yes rfl ?_
      show Ev (fun n => bif b.testBit i then _ else _) _
      cases hbit : b.testBit i with
      | true =>
        rw [hbit] at nx
        refine Ev.yes rfl (evCall (Move_is hw (d := (i : Int)) (by omega) (by omega) false) (Ev.yes rfl (evCall (Plus_is hw _ _ false) (Ev.yes (plain_plus w _) ?_))))
        have e : bitsD w (a * (b % 2 ^ i) + fillN (moveF w a (i : Int) false) w + false.toNat) = bitsD w (a * (b % 2 ^ i + 2 ^ i * true.toNat)) := by
          refine bitsD_congr ?_
          rw [move_up]
          show (a * (b % 2 ^ i) + a * 2 ^ i % 2 ^ w) % 2 ^ w = _
          rw [Nat.add_mod_mod, Nat.mul_add]
          show _ = (a * (b % 2 ^ i) + a * (2 ^ i * 1)) % 2 ^ w
          rw [Nat.mul_one]
        rw [← e] at nx
        exact nx
      | false =>
        rw [hbit] at nx
        exact Ev.no rfl nx
  refine Ev.eq (fun n => ref01_times_eq n ..) ?_
  rw [rlen, rep_is]
  have l := loop w 0 rfl (Nat.zero_le _)
  rw [Nat.pow_zero, Nat.mod_one, Nat.mul_zero] at l
  refine Ev.yes (mk_ok hw) (Ev.bindL l (fun ds h => by obtain ⟨_, h⟩ := h; cases h) fun ds h => ?_)
  obtain ⟨_, h⟩ := h
  cases h
  exact Ev.yes rfl (Ev.ret rfl)
end Go.Proofs.YthlhbocobgkdmaaGreat
