/- TypedMakers, plain: parts, wider ones; the whole. -/
import Derived.Test.YthlhbocobgkdmaaGreatMkL
namespace Go.Proofs.YthlhbocobgkdmaaGreat
open Go.AE
set_option linter.unusedVariables false
set_option linter.unusedSimpArgs false
theorem tmod_bounds (p : Int) {n : Int} (hn : 0 < n) : -n < p.tmod n ∧ p.tmod n < n := by
  rcases Int.le_total 0 p with h | h
  · rw [Int.tmod_eq_emod_of_nonneg h]
    have h1 := Int.emod_nonneg p (show n ≠ 0 by omega)
    have h2 := Int.emod_lt_of_pos p hn
    omega
  · have e : p = -(-p) := by omega
    rw [e, Int.neg_tmod, Int.tmod_eq_emod_of_nonneg (by omega)]
    have h1 := Int.emod_nonneg (-p) (show n ≠ 0 by omega)
    have h2 := Int.emod_lt_of_pos (-p) hn
    omega
theorem tmod_nat {x : Int} {n : Nat} (h0 : 0 ≤ x) (hn : 0 < n) : ∃ k : Nat, k < n ∧ x.tmod (n : Int) = (k : Int) := by
  refine ⟨(x.tmod (n : Int)).toNat, ?_⟩
  rw [Int.tmod_eq_emod_of_nonneg h0]
  have h1 := Int.emod_nonneg x (show (n : Int) ≠ 0 by omega)
  have h2 := Int.emod_lt_of_pos x (show (0 : Int) < n by omega)
  omega
def padL (n : Nat) (l : List Bool) : List Bool := l.take n ++ List.replicate (n - l.length) false
theorem padL_len (n : Nat) (l : List Bool) : (padL n l).length = n := by
  unfold padL
  rw [List.length_append, List.length_take, List.length_replicate]; omega
theorem padL_is (n : Nat) (l : List Bool) : (l.map bD).take (List.replicate ((n : Nat) : Int).toNat (D.bool false)).length ++ (List.replicate ((n : Nat) : Int).toNat (D.bool false)).drop (l.map bD).length = (padL n l).map bD := by
  unfold padL
  rw [Int.toNat_natCast, List.length_replicate, List.length_map, List.drop_replicate, List.map_append, List.map_take, List.map_replicate]; rfl
section
variable {w a : Nat} (h1 : 1 ≤ w) (h2 : w ≤ 64) (ha : a < 2 ^ w)
include h1 h2 ha
omit h1 h2 in
theorem cut_all : fillN (cutF 0 a) w = a := fill_ext ha fun i _ => by unfold cutF; rw [Nat.zero_add]
theorem part_own {lo n : Nat} (hk : 1 ≤ n) (hn : lo + n ≤ w) : ∃ E : D, Ev (fun n' => typed_Part n' (numE w a) (.int .i64 (lo : Int)) (.int .i64 (n : Int))) (fun r => r = (true, [E])) ∧ chk typed_Part.osk [E] = true ∧ expTy ty_iiiiibil1l9 E = E ∧ ∀ k d, Ev (fun n' => typed_Eval n' E (.iface k d)) fun r => r = (true, [vec n (fillN (cutF lo a) n)]) := by
  by_cases hc : lo = 0 ∧ n = w
  · obtain ⟨rfl, rfl⟩ := hc
    refine ⟨numE n a, Ev.eq (fun n => typed_Part_eq n ..) (Ev.yes rfl ?_), rfl, rfl, fun k d => ?_⟩
    · rw [show (((n : Nat) : Int) == ((n : Nat) : Int)) = true from beq_self_eq_true _]
      exact evDfn (fun n => typed_Part_j1_def n ..) (Ev.yes rfl (Ev.ret rfl))
    · rw [cut_all ha]; exact eval_num
  · refine ⟨mkE 5 0 (n : Int) (lo : Int) false [numE w a], Ev.eq (fun n => typed_Part_eq n ..) ?_, rfl, rfl, fun k d => eval_part h1 h2 ha hk hn⟩
    have f : Ev (fun n' => typed_Part_j1 n' false 1 0 (w : Int) 0 0 false (w : Int) (wordsN w a) [] (n : Int) (lo : Int)) fun r => r = (true, [mkE 5 0 (n : Int) (lo : Int) false [numE w a]]) := evDfn (fun n => typed_Part_j1_def n ..) (Ev.no rfl (Ev.ret rfl))
    by_cases hl : lo = 0
    · have hw : ¬ (n : Int) = (w : Int) := fun h => hc ⟨hl, by omega⟩
      refine Ev.yes (by rw [hl]; rfl) ?_
      rw [show ((n : Int) == (w : Int)) = false from beq_eq_false_iff_ne.2 hw]
      exact f
    · exact Ev.no (beq_eq_false_iff_ne.2 (by omega)) f
theorem wide_own {n : Nat} (hk : 1 ≤ n) (hn : n ≤ 128) : ∃ E : D, Ev (fun n' => typed_Wide n' (numE w a) (.int .i64 (n : Int)) (.bool true)) (fun r => r = (true, [E])) ∧ chk typed_Wide.osk [E] = true ∧ expTy ty_iiiiibil1l9 E = E ∧ ∀ k d, Ev (fun n' => typed_Eval n' E (.iface k d)) fun r => r = (true, [vec n (fillN (extF w a true) n)]) := by
  by_cases hc : n ≤ w
  · obtain ⟨E, p1, p2, p3, p4⟩ := part_own h1 h2 ha (lo := 0) hk (by omega)
    refine ⟨E, Ev.eq (fun n => typed_Wide_eq n ..) (Ev.yes (decide_eq_true (by omega)) (evCall p1 (Ev.yes p2 (Ev.ret ?_)))), p2, p3, fun k d => ?_⟩
    · show (true, [expTy ty_iiiiibil1l9 E]) = _
      rw [p3]
    · have e : fillN (cutF 0 a) n = fillN (extF w a true) n := fill_ext (fill_lt _ _) fun i hi => by
        rw [fill_bit, decide_eq_true hi, Bool.true_and]
        unfold extF cutF
        rw [decide_eq_true (show i < w by omega), Nat.zero_add]; rfl
      rw [← e]
      exact p4 k d
  · exact ⟨mkE 10 0 (n : Int) 0 true [numE w a], Ev.eq (fun n => typed_Wide_eq n ..) (Ev.no (decide_eq_false (by omega)) (Ev.ret rfl)), rfl, rfl, fun k d => eval_ext h1 h2 ha hk hn true⟩
end
theorem own_bits {l : List Bool} (h1 : 1 ≤ l.length) (h2 : l.length ≤ 64) : Ev (fun n => law01_Own n (.lst 1 (bitsD l.length (numB l)))) fun r => r = (true, [vec l.length (numB l)]) := by
  have h := own1_is l
  rw [bits_of] at h
  unfold ownVec at h
  rwa [if_pos ⟨h1, by omega⟩] at h
theorem typedMakers_plain (la lb : List Bool) (p q s : Int) : Ev (fun n => law12_TypedMakers n (.lst 1 (la.map bD)) (.lst 1 (lb.map bD)) (.agg [.int .i64 p, .int .i64 q, .int .i64 s])) fun r => r = (true, [.bool true]) := by
  refine Ev.eq (fun n => law12_TypedMakers_eq n ..) (evCall awake12 (Ev.yes rfl (Ev.no rfl ?_)))
  by_cases h0 : la.length = 0
  · exact Ev.yes (by rw [List.length_map, h0]; rfl) (evDfn (fun n => law12_TypedMakers_j1_def n ..) (Ev.yes rfl (Ev.ret rfl)))
  refine Ev.no (beq_eq_false_iff_ne.2 (by rw [List.length_map]; omega)) ?_
  by_cases h64 : la.length > 64
  · rw [decide_eq_true (by rw [List.length_map]; omega)]
    exact evDfn (fun n => law12_TypedMakers_j1_def n ..) (Ev.yes rfl (Ev.ret rfl))
  rw [decide_eq_false (by rw [List.length_map]; omega)]
  have h1 : 1 ≤ la.length := by omega
  have h2 : la.length ≤ 64 := by omega
  have ow := own_bits h1 h2
  have hla := numB_lt la
  have hlp := numB_lt (padL la.length lb)
  have op := own_bits (l := padL la.length lb) (by rw [padL_len]; exact h1) (by rw [padL_len]; exact h2)
  rw [padL_len] at op hlp
  refine evDfn (fun n => law12_TypedMakers_j1_def n ..) (Ev.no rfl ?_)
  rw [List.length_map, padL_is, bits_of la, bits_of (padL la.length lb), padL_len]
  generalize numB (padL la.length lb) = b at *
  generalize numB la = a at *
  generalize la.length = w at *
  have hw0 : ¬ (w : Int) = 0 := by omega
  refine Ev.yes (mk_ok (by omega)) (evCall ow (Ev.yes rfl (evCall num_own (Ev.yes rfl (evCall op (Ev.yes rfl (evCall num_own (Ev.yes rfl ?_))))))))
  have bp := tmod_bounds p (show (0 : Int) < (w : Int) by omega)
  obtain ⟨lo, hlo, elo⟩ := tmod_nat (x := p.tmod (w : Int) + (w : Int)) (n := w) (by omega) (by omega)
  rw [wrap_id (x := p.tmod (w : Int) + (w : Int)) (by omega) (by omega), elo, show ((w : Int) - (lo : Int)) = ((w - lo : Nat) : Int) by omega, wrap_nat (by omega)]
  have bq := tmod_bounds q (show (0 : Int) < ((w - lo : Nat) : Int) by omega)
  obtain ⟨k, hk, ek⟩ := tmod_nat (x := q.tmod ((w - lo : Nat) : Int) + (w : Int) - (lo : Int)) (n := w - lo) (by omega) (by omega)
  rw [wrap_id (x := q.tmod ((w - lo : Nat) : Int) + (w : Int)) (by omega) (by omega), wrap_id (x := q.tmod ((w - lo : Nat) : Int) + (w : Int) - (lo : Int)) (by omega) (by omega), ek, show (1 : Int) + (k : Int) = ((k + 1 : Nat) : Int) by omega, wrap_nat (by omega)]
  obtain ⟨wi, hwi, ewi⟩ : ∃ wi : Nat, (1 ≤ wi ∧ wi ≤ 128) ∧ max (1 : Int) (min s 128) = (wi : Int) := ⟨(max (1 : Int) (min s 128)).toNat, by omega, by omega⟩
  rw [ewi]
  obtain ⟨E, p1, p2, p3, p4⟩ := part_own h1 h2 hla (lo := lo) (n := k + 1) (by omega) (by omega)
  obtain ⟨F, q1, q2, q3, q4⟩ := wide_own h1 h2 hla (n := wi) hwi.1 hwi.2
  have hm0 : ¬ ((w - lo : Nat) : Int) = 0 := by omega
  refine Ev.no (decide_eq_false hw0) (Ev.no (decide_eq_false hw0) (Ev.no (decide_eq_false hm0) (Ev.no (decide_eq_false hm0) (evCall (Slice_is (by omega) (by omega) (by omega)) (Ev.yes rfl (evCall (Ext_is h1 (by omega) hwi.1 hwi.2 true) (Ev.yes rfl (evCall p1 (Ev.yes p2 ?_)))))))))
  have e3 : expTy ty_iiiiibil1l9 (nth [E] 0) = E := p3
  rw [e3]
  refine evCall (p4 _ _) (Ev.yes rfl (evCall (is_true (by omega) (by omega) (fill_lt _ _)) (Ev.yes rfl (Ev.no rfl (evCall q1 (Ev.yes q2 ?_))))))
  have f3 : expTy ty_iiiiibil1l9 (nth [F] 0) = F := q3
  rw [f3]
  exact evCall (q4 _ _) (Ev.yes rfl (evCall (is_true hwi.1 hwi.2 (fill_lt _ _)) (Ev.yes rfl (two_is h1 h2 hla hlp))))
end Go.Proofs.YthlhbocobgkdmaaGreat
