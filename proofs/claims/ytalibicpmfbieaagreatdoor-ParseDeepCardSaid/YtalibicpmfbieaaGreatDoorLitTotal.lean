/- Numbers as they are written: every function returns, and vectors are well formed. -/
import Derived.Test.YtalibicpmfbieaaGreatDoorAe1
import Derived.Test.YtalibicpmfbieaaGreatDoorAe2
import Derived.Test.YtalibicpmfbieaaGreatDoorEng
namespace Go.Proofs.YtalibicpmfbieaaGreatDoor
open Go.AE
set_option linter.unusedVariables false
set_option linter.unusedSimpArgs false
def U64s (ws : List D) : Prop := ∀ y ∈ ws, ∃ i : Int, y = .int .u64 i ∧ 0 ≤ i ∧ i < 18446744073709551616
/-- A vector: its width and its words. -/
def Vec (w : Int) (ws : List D) : Prop := 1 ≤ w ∧ w ≤ 128 ∧ (ws.length : Int) = (w + 63) / 64 ∧ U64s ws
theorem U64s.set {ws : List D} (h : U64s ws) {i : Nat} {x : Int} (hx : 0 ≤ x) (hx2 : x < 18446744073709551616) : U64s (ws.set i (.int .u64 x)) := fun y hy => by
  rcases List.mem_or_eq_of_mem_set hy with hy | rfl
  · exact h y hy
  · exact ⟨x, rfl, hx, hx2⟩
theorem U64s.append {a b : List D} (ha : U64s a) (hb : U64s b) : U64s (a ++ b) := fun y hy => by
  rcases List.mem_append.1 hy with hy | hy
  · exact ha y hy
  · exact hb y hy
theorem u64_nonneg (x : Int) : 0 ≤ IntKind.u64.wrap x := by rw [IntKind.wrap_u64]; omega
theorem u64_lt (x : Int) : IntKind.u64.wrap x < 18446744073709551616 := by rw [IntKind.wrap_u64]; omega
theorem count_ev {w : Int} (h1 : 0 ≤ w) (h2 : w ≤ 1000) : Ev (fun n => bv_count n (.int .i64 w)) fun r => r = (true, [.int .i64 ((w + 63) / 64)]) := by
  refine Ev.eq (fun n => bv_count_eq n w) (Ev.ret ?_)
  have e1 : IntKind.i64.wrap (w + 64) = w + 64 := wrap_id (by omega) (by omega)
  have e2 : IntKind.i64.wrap (w + 64 - 1) = w + 63 := by rw [wrap_id (by omega) (by omega)]; omega
  have e3 : (w + 63).tdiv 64 = (w + 63) / 64 := Int.tdiv_eq_ediv_of_nonneg (by omega)
  rw [e1, e2, e3, wrap_id (by omega) (by omega)]
theorem blank_ev {w : Int} (h1 : 1 ≤ w) (h2 : w ≤ 128) : Ev (fun n => bv_blank n (.int .i64 w)) fun r => ∃ ws, r = (true, [.int .i64 w, .lst 1 ws]) ∧ Vec w ws := by
  refine Ev.eq (fun n => bv_blank_eq n w) ?_
  refine Ev.bindC (count_ev (by omega) (by omega)) ?_
  intro b ds h; cases h; refine ⟨rfl, Ev.yes rfl ?_⟩
  refine Ev.yes (and_tt (and_tt (decide_eq_true (show (0 : Int) ≤ (w + 63) / 64 by omega)) (decide_eq_true (Int.le_refl _))) (decide_eq_true (show (w + 63) / 64 ≤ (maxLst : Int) by simp only [maxLst]; omega))) (Ev.ret ⟨_, rfl, h1, h2, ?_, ?_⟩)
  · simp [nth, D.i]; omega
  · intro y hy
    obtain ⟨_, rfl⟩ := List.mem_replicate.1 hy
    exact ⟨0, rfl, Int.le_refl _, by omega⟩
theorem cut_ev {w : Int} {ws : List D} (h : Vec w ws) : Ev (fun n => bv_Vec_cut n (.int .i64 w) (.lst 1 ws)) fun r => ∃ ws', r = (true, [.int .i64 w, .lst 1 ws']) ∧ Vec w ws' := by
  obtain ⟨h1, h2, h3, h4⟩ := h
  refine Ev.eq (fun n => bv_Vec_cut_eq n w ws) ?_
  have hl : 1 ≤ ws.length := by omega
  have e1 : IntKind.i64.wrap ((ws.length : Int) - 1) = ((ws.length - 1 : Nat) : Int) := by rw [wrap_id (by omega) (by omega)]; omega
  have hr : (decide ((0 : Int) ≤ ((ws.length - 1 : Nat) : Int)) && decide (((ws.length - 1 : Nat) : Int) < (ws.length : Int))) = true := and_tt (decide_eq_true (by omega)) (decide_eq_true (by omega))
  have e2 : w.tmod 64 = w % 64 := Int.tmod_eq_emod_of_nonneg (by omega)
  rw [e1]
  refine Ev.test (fun _ => ?_) (fun _ => Ev.ret ⟨ws, rfl, h1, h2, h3, h4⟩)
  refine Ev.yes hr ?_
  obtain ⟨i, hi, hi0, hi1⟩ := get_in (P := fun y => ∃ i : Int, y = .int .u64 i ∧ 0 ≤ i ∧ i < 18446744073709551616) h4 (v := ((ws.length - 1 : Nat) : Int)) (by omega) (by omega)
  rw [hi]
  refine Ev.yes rfl (Ev.no (decide_eq_false (by rw [e2]; omega)) (Ev.yes hr (Ev.ret ⟨_, rfl, h1, h2, by rw [List.length_set]; exact h3, h4.set (u64_nonneg _) (u64_lt _)⟩)))
theorem new_ev {w : Int} (h1 : 1 ≤ w) (h2 : w ≤ 128) {us : List D} (hu : U64s us) (hl : us.length ≤ 1) : Ev (fun n => bv_New n (.int .i64 w) (.lst 1 us)) fun r => ∃ ws, r = (true, [.agg [.int .i64 w, .lst 1 ws], .int .i64 0]) ∧ Vec w ws := by
  refine Ev.eq (fun n => bv_New_eq n w us) ?_
  refine Ev.bindC (Q := fun r => r = (true, [.bool true])) (Ev.eq (fun n => bv_good_eq n w) (Ev.yes (decide_eq_true (by omega)) (Ev.ret (by rw [decide_eq_true h2])))) ?_
  intro b ds h; cases h; refine ⟨rfl, Ev.yes rfl (Ev.no rfl ?_)⟩
  refine Ev.bindC (blank_ev h1 h2) ?_
  rintro _ _ ⟨ws, h, hv1, hv2, hv3, hv4⟩; cases h; refine ⟨rfl, Ev.yes rfl ?_⟩
  refine Ev.bindC (cut_ev (w := w) (ws := us.take ws.length ++ ws.drop us.length) ⟨h1, h2, ?_, ?_⟩) ?_
  · rw [← hv3]; simp; omega
  · exact U64s.append (fun y hy => hu y (List.mem_of_mem_take hy)) (fun y hy => hv4 y (List.mem_of_mem_drop hy))
  · rintro _ _ ⟨ws', h, hv⟩; cases h; exact ⟨rfl, Ev.yes rfl (Ev.ret ⟨ws', rfl, hv⟩)⟩
theorem mul64_ev (a b : Int) : Ev (fun n => math_bits_Mul64 n (.int .u64 a) (.int .u64 b)) fun r => ∃ h l, r = (true, [.int .u64 h, .int .u64 l]) ∧ 0 ≤ h ∧ h < 18446744073709551616 ∧ 0 ≤ l ∧ l < 18446744073709551616 :=
  Ev.eq (fun n => math_bits_Mul64_eq n a b) (Ev.ret ⟨_, _, rfl, u64_nonneg _, u64_lt _, u64_nonneg _, u64_lt _⟩)
theorem plus_ev {w : Int} {a b : List D} (ha : Vec w a) (hb : Vec w b) {k : Int} (hk0 : 0 ≤ k) (hk1 : k ≤ 1) :
    Ev (fun n => bv_plus n (.agg [.int .i64 w, .lst 1 a]) (.agg [.int .i64 w, .lst 1 b]) (.int .u64 k)) fun r => ∃ ws, r = (true, [.int .i64 w, .lst 1 ws]) ∧ Vec w ws := by
  obtain ⟨h1, h2, ha3, ha4⟩ := ha
  obtain ⟨_, _, hb3, hb4⟩ := hb
  refine Ev.eq (fun n => bv_plus_eq n w a w b k) ?_
  refine Ev.bindC (blank_ev h1 h2) ?_
  rintro _ _ ⟨ws, h, _, _, hv3, hv4⟩; cases h; refine ⟨rfl, Ev.yes rfl ?_⟩
  have loop : ∀ (m j : Nat) (k : Int) (out : List D), out.length - j = m → j ≤ out.length → (out.length : Int) = (w + 63) / 64 → 0 ≤ k → k ≤ 1 → U64s out →
      Ev (fun n => bv_plus_L0 n (.int .u64 k) (.int .i64 (out.length : Int)) (.int .i64 (j : Int)) (.int .i64 w) (.lst 1 a) (.int .i64 w) (.lst 1 b) (.int .i64 0) (.int .i64 w) (.lst 1 []) (.lst 1 out)) fun r =>
        ∃ k' j' out', r = (false, [.int .u64 k', .int .i64 (out.length : Int), .int .i64 j', .int .i64 w, .lst 1 a, .int .i64 w, .lst 1 b, .int .i64 0, .int .i64 w, .lst 1 [], .lst 1 out']) ∧ out'.length = out.length ∧ U64s out' := by
    intro m
    induction m with
    | zero =>
      intro j k out hm hj hl hk0 hk1 ho
      exact Ev.eq (fun n => bv_plus_L0_eq n _ _ _ _ _ _ _ _ _ _ _) (Ev.no (decide_eq_false (by omega)) (Ev.ret ⟨_, _, out, rfl, rfl, ho⟩))
    | succ m ih =>
      intro j k out hm hj hl hk0 hk1 ho
      have hja : j < a.length := by omega
      have hjb : j < b.length := by omega
      have hjo : j < out.length := by omega
      refine Ev.eq (fun n => bv_plus_L0_eq n _ _ _ _ _ _ _ _ _ _ _) (Ev.yes (decide_eq_true (by omega)) (Ev.yes (in_range hja) ?_))
      obtain ⟨x, hx, hx0, hx1⟩ := ha4 a[j] (List.getElem_mem hja)
      obtain ⟨y, hy, hy0, hy1⟩ := hb4 b[j] (List.getElem_mem hjb)
      rw [get_nat hja, get_nat hjb, hx, hy]
      refine Ev.yes rfl (Ev.yes (in_range hjb) (Ev.yes rfl (Ev.yes (and_tt (and_tt (and_tt (decide_eq_true hx0) (decide_eq_true hy0)) (decide_eq_true hk0)) (decide_eq_true hk1)) (Ev.yes (in_range hjo) ?_))))
      simp only [D.i]
      rw [wrap_succ (by omega), Int.toNat_natCast]
      have hl2 : (out.set j (.int .u64 ((x + y + k) % 18446744073709551616))).length = out.length := List.length_set
      have := ih (j + 1) ((x + y + k) / 18446744073709551616) (out.set j (.int .u64 ((x + y + k) % 18446744073709551616))) (by omega) (by omega) (by rw [hl2]; exact hl) (by omega) (by omega) (ho.set (by omega) (by omega))
      rw [hl2] at this
      exact this
  refine Ev.bindL (loop ws.length 0 k ws rfl (Nat.zero_le _) hv3 hk0 hk1 hv4) (fun ds h => by obtain ⟨_, _, _, h, _⟩ := h; cases h) fun ds h => ?_
  obtain ⟨k', j', out', h, hl, ho⟩ := h
  cases h
  refine Ev.yes rfl ?_
  refine Ev.bindC (cut_ev (w := w) (ws := out') ⟨h1, h2, by rw [hl]; exact hv3, ho⟩) ?_
  rintro _ _ ⟨ws', h, hv⟩; cases h; exact ⟨rfl, Ev.yes rfl (Ev.ret ⟨ws', rfl, hv⟩)⟩
theorem times_ev {w : Int} {a b : List D} (ha : Vec w a) (hb : Vec w b) :
    Ev (fun n => bv_times n (.agg [.int .i64 w, .lst 1 a]) (.agg [.int .i64 w, .lst 1 b])) fun r => ∃ ws, r = (true, [.agg [.int .i64 w, .lst 1 ws]]) ∧ Vec w ws := by
  obtain ⟨h1, h2, ha3, ha4⟩ := ha
  obtain ⟨_, _, hb3, hb4⟩ := hb
  have hal : a.length ≤ 2 := by omega
  refine Ev.eq (fun n => bv_times_eq n w a w b) ?_
  refine Ev.bindC (blank_ev h1 h2) ?_
  rintro _ _ ⟨ws, h, _, _, hv3, hv4⟩; cases h; refine ⟨rfl, Ev.yes rfl ?_⟩
  have inner : ∀ (m i j : Nat) (k : Int) (out : List D), out.length - (i + j) = m → i < a.length → (out.length : Int) = (w + 63) / 64 → j ≤ 1000 → 0 ≤ k → k < 18446744073709551616 → U64s out →
      Ev (fun n => bv_times_L2 n (.int .i64 (i : Int)) (.int .u64 k) (.int .i64 (j : Int)) (.int .i64 (a.length : Int)) (.int .i64 (i : Int)) (.int .i64 w) (.lst 1 a) (.int .i64 w) (.lst 1 b) (.int .i64 0) (.int .i64 w) (.lst 1 []) (.lst 1 out)) fun r =>
        ∃ k' j' out', r = (false, [.int .i64 (i : Int), .int .u64 k', .int .i64 j', .int .i64 (a.length : Int), .int .i64 (i : Int), .int .i64 w, .lst 1 a, .int .i64 w, .lst 1 b, .int .i64 0, .int .i64 w, .lst 1 [], .lst 1 out']) ∧ out'.length = out.length ∧ U64s out' := by
    intro m
    induction m with
    | zero =>
      intro i j k out hm hi hl hj hk0 hk1 ho
      · have e1 : IntKind.i64.wrap ((i : Int) + (j : Int)) = ((i + j : Nat) : Int) := by rw [wrap_id (by omega) (by omega)]; omega
        refine Ev.eq (fun n => bv_times_L2_eq n _ _ _ _ _ _ _ _ _ _ _ _ _) ?_
        rw [e1]
        exact Ev.no (decide_eq_false (by omega)) (Ev.ret ⟨_, _, out, rfl, rfl, ho⟩)
    | succ m ih =>
      intro i j k out hm hi hl hj hk0 hk1 ho
      have e1 : IntKind.i64.wrap ((i : Int) + (j : Int)) = ((i + j : Nat) : Int) := by rw [wrap_id (by omega) (by omega)]; omega
      have hjb : j < b.length := by omega
      have hjo : i + j < out.length := by omega
      refine Ev.eq (fun n => bv_times_L2_eq n _ _ _ _ _ _ _ _ _ _ _ _ _) ?_
      rw [e1]
      refine Ev.yes (decide_eq_true (by omega)) (Ev.yes (in_range hi) ?_)
      obtain ⟨x, hx, hx0, hx1⟩ := ha4 a[i] (List.getElem_mem hi)
      obtain ⟨y, hy, hy0, hy1⟩ := hb4 b[j] (List.getElem_mem hjb)
      obtain ⟨z, hz, hz0, hz1⟩ := ho out[i + j] (List.getElem_mem hjo)
      rw [get_nat hi, get_nat hjb, get_nat hjo, hx, hy, hz]
      refine Ev.yes rfl (Ev.yes (in_range hjb) (Ev.yes rfl ?_))
      refine Ev.bindC (mul64_ev _ _) ?_
      rintro _ _ ⟨hh, ll, h, p1, p2, p3, p4⟩; cases h; refine ⟨rfl, Ev.yes rfl ?_⟩
      simp only [nth, D.i]
      refine Ev.yes (and_tt (and_tt (and_tt (decide_eq_true p3) (decide_eq_true hk0)) (decide_eq_true (Int.le_refl _))) (decide_eq_true (by decide))) (Ev.yes (in_range hjo) (Ev.yes rfl (Ev.yes (and_tt (and_tt (and_tt (decide_eq_true hz0) (decide_eq_true (by omega))) (decide_eq_true (Int.le_refl _))) (decide_eq_true (by decide))) (Ev.yes (in_range hjo) ?_))))
      rw [wrap_succ (by omega), Int.toNat_natCast]
      have hl2 : (out.set (i + j) (.int .u64 ((z + (ll + k + 0) % 18446744073709551616 + 0) % 18446744073709551616))).length = out.length := List.length_set
      have := ih i (j + 1) (IntKind.u64.wrap (IntKind.u64.wrap (hh + (ll + k + 0) / 18446744073709551616) + (z + (ll + k + 0) % 18446744073709551616 + 0) / 18446744073709551616)) (out.set (i + j) (.int .u64 ((z + (ll + k + 0) % 18446744073709551616 + 0) % 18446744073709551616))) (by omega) hi (by rw [hl2]; exact hl) (by omega) (u64_nonneg _) (u64_lt _) (ho.set (by omega) (by omega))
      rw [hl2] at this
      exact this
  have outer : ∀ (m i : Nat) (out : List D), a.length - i = m → i ≤ a.length → (out.length : Int) = (w + 63) / 64 → U64s out →
      Ev (fun n => bv_times_L0 n (.int .i64 (a.length : Int)) (.int .i64 (i : Int)) (.int .i64 w) (.lst 1 a) (.int .i64 w) (.lst 1 b) (.int .i64 0) (.int .i64 w) (.lst 1 []) (.lst 1 out)) fun r =>
        ∃ j' out', r = (false, [.int .i64 (a.length : Int), .int .i64 j', .int .i64 w, .lst 1 a, .int .i64 w, .lst 1 b, .int .i64 0, .int .i64 w, .lst 1 [], .lst 1 out']) ∧ out'.length = out.length ∧ U64s out' := by
    intro m
    induction m with
    | zero =>
      intro i out hm hi hl ho
      exact Ev.eq (fun n => bv_times_L0_eq n _ _ _ _ _ _ _ _ _ _) (Ev.no (decide_eq_false (by omega)) (Ev.ret ⟨_, out, rfl, rfl, ho⟩))
    | succ m ih =>
      intro i out hm hi hl ho
      refine Ev.eq (fun n => bv_times_L0_eq n _ _ _ _ _ _ _ _ _ _) (Ev.yes (decide_eq_true (by omega)) ?_)
      refine Ev.bindL (inner _ i 0 0 out rfl (by omega) hl (by omega) (Int.le_refl _) (by omega) ho) (fun ds h => by obtain ⟨_, _, _, h, _⟩ := h; cases h) fun ds h => ?_
      obtain ⟨k', j', out', h, hl', ho'⟩ := h
      cases h
      refine Ev.yes rfl ?_
      simp only [nth, D.i, D.l]
      rw [wrap_succ (by omega)]
      refine (ih (i + 1) out' (by omega) (by omega) (by rw [hl']; exact hl) ho').mono ?_
      rintro r ⟨j', o2, h, h3, h4⟩
      exact ⟨j', o2, h, by rw [h3, hl'], h4⟩
  refine Ev.bindL (outer _ 0 ws rfl (Nat.zero_le _) hv3 hv4) (fun ds h => by obtain ⟨_, _, h, _⟩ := h; cases h) fun ds h => ?_
  obtain ⟨j', out', h, hl, ho⟩ := h
  cases h
  refine Ev.yes rfl ?_
  refine Ev.bindC (cut_ev (w := w) (ws := out') ⟨h1, h2, by rw [hl]; exact hv3, ho⟩) ?_
  rintro _ _ ⟨ws', h, hv⟩; cases h; exact ⟨rfl, Ev.yes rfl (Ev.ret ⟨ws', rfl, hv⟩)⟩
theorem bin_ev {op w : Int} (hop : op = 0 ∨ op = 2) {a b : List D} (ha : Vec w a) (hb : Vec w b) :
    Ev (fun n => bv_Bin n (.int .i64 op) (.agg [.int .i64 w, .lst 1 a]) (.agg [.int .i64 w, .lst 1 b])) fun r => ∃ ws, r = (true, [.agg [.int .i64 w, .lst 1 ws], .int .i64 0]) ∧ Vec w ws := by
  have hw := ha.1
  refine Ev.eq (fun n => bv_Bin_eq n op w a w b) ?_
  refine Ev.no (decide_eq_false (by omega)) (Ev.no (decide_eq_false (by omega)) (Ev.no (by simp) (Ev.no (by simp; omega) ?_)))
  rcases hop with rfl | rfl
  · refine Ev.yes rfl ?_
    refine Ev.bindC (plus_ev ha hb (Int.le_refl _) (by omega)) ?_
    rintro _ _ ⟨ws', h, hv⟩; cases h; exact ⟨rfl, Ev.yes rfl (Ev.ret ⟨ws', rfl, hv⟩)⟩
  · refine Ev.no rfl (Ev.no rfl (Ev.yes rfl ?_))
    refine Ev.bindC (times_ev ha hb) ?_
    rintro _ _ ⟨ws', h, hv⟩; cases h; exact ⟨rfl, Ev.yes rfl (Ev.ret ⟨ws', rfl, hv⟩)⟩
end Go.Proofs.YtalibicpmfbieaaGreatDoor
