/- The reference's words of a whole tree. -/
import Derived.Test.YtfadegfceobogaaTrF
namespace Go.Proofs.Ytfadegfceobogaa
open Go.AE
set_option linter.unusedVariables false
set_option linter.unusedSimpArgs false
section
variable {ms ps qs its : List D} {nm : List UInt8} {j0 : Int}
theorem paramsW (hn : ps.length ≤ 2) (h : ∀ p ∈ ps, wfP p) {acc0 : List D} (ha : acc0.length ≤ 12000000000) (hs0 : Str acc0) :
    Ev (fun n => ref09_Words_L2 n (.lst 4 ms) (.int .i64 j0) (.int .i64 0) (.lst 1 acc0) (.str nm) (.lst 11 ps) (.lst 11 qs) (.lst 11 its)) fun r => ∃ q acc, r = (false, [.lst 4 ms, .int .i64 j0, .int .i64 q, .lst 1 acc, .str nm, .lst 11 ps, .lst 11 qs, .lst 11 its]) ∧ acc.length ≤ acc0.length + 808 ∧ Str acc := by
  refine wdLoop (xs := ps) (N := 2) (m := 404) (C := acc0.length + 808) (T := fun j acc n => ref09_Words_L2 n (.lst 4 ms) (.int .i64 j0) (.int .i64 j) (.lst 1 acc) (.str nm) (.lst 11 ps) (.lst 11 qs) (.lst 11 its)) hn (by decide) (fun j acc hj hl hs K => ?_) (fun acc hl hs => ?_) (by omega) hs0
  · refine Ev.eq (fun n => ref09_Words_L2_eq n _ _ _ _ _ _ _ _) (Ev.yes (decide_eq_true (by omega)) ?_)
    obtain ⟨nm1, ty1, es, e, le, he⟩ := h ps[j] (List.getElem_mem hj)
    have R := in_range hj
    rw [get_nat hj, e]
    match es, le, he with
    | [x], _, he =>
      have h1 := he x (by simp)
      refine Ev.test (fun _ => ?_) fun _ => ?_
      · refine Ev.yes (Nat.ble_eq_true_of_le (by simp only [List.length_append, List.length_cons, List.length_nil, maxLst]; omega)) ?_
        refine Ev.yes R (Ev.yes rfl (Ev.yes rfl (Ev.yes R (Ev.yes rfl (Ev.yes rfl ?_)))))
        refine Ev.yes (Nat.ble_eq_true_of_le (by simp only [List.length_append, List.length_cons, List.length_nil, maxLst]; omega)) ?_
        refine Ev.yes R (Ev.yes rfl (Ev.yes rfl (Ev.yes rfl (Ev.yes (okE h1) (Ev.bindC (exprW' ew4 h1) ?_)))))
        (rintro _ _ ⟨ws, h, hl, hs⟩; cases h; refine ⟨rfl, Ev.yes rfl ?_⟩; try simp only [nth_l])
        refine Ev.yes (Nat.ble_eq_true_of_le (by simp only [List.length_append, List.length_cons, List.length_nil, maxLst]; omega)) ?_
        exact K _ (by simp only [List.length_append, List.length_cons, List.length_nil]; omega) (by simp [Str_app, Str_cons, Str_nil, *])
      · refine Ev.yes R (Ev.yes rfl (Ev.yes rfl (Ev.yes R (Ev.yes rfl (Ev.yes rfl ?_)))))
        refine Ev.yes (Nat.ble_eq_true_of_le (by simp only [List.length_append, List.length_cons, List.length_nil, maxLst]; omega)) ?_
        refine Ev.yes R (Ev.yes rfl (Ev.yes rfl (Ev.yes rfl (Ev.yes (okE h1) (Ev.bindC (exprW' ew4 h1) ?_)))))
        (rintro _ _ ⟨ws, h, hl, hs⟩; cases h; refine ⟨rfl, Ev.yes rfl ?_⟩; try simp only [nth_l])
        refine Ev.yes (Nat.ble_eq_true_of_le (by simp only [List.length_append, List.length_cons, List.length_nil, maxLst]; omega)) ?_
        exact K _ (by simp only [List.length_append, List.length_cons, List.length_nil]; omega) (by simp [Str_app, Str_cons, Str_nil, *])
  · exact Ev.eq (fun n => ref09_Words_L2_eq n _ _ _ _ _ _ _ _) (Ev.no (decide_eq_false (by omega)) (Ev.ret ⟨_, acc, rfl, hl, hs⟩))
theorem portsW (hn : qs.length ≤ 3) (h : ∀ p ∈ qs, wfN p) {acc0 : List D} (ha : acc0.length ≤ 12000000000) (hs0 : Str acc0) :
    Ev (fun n => ref09_Words_L4 n (.lst 4 ms) (.int .i64 j0) (.int .i64 0) (.lst 1 acc0) (.str nm) (.lst 11 ps) (.lst 11 qs) (.lst 11 its)) fun r => ∃ q acc, r = (false, [.lst 4 ms, .int .i64 j0, .int .i64 q, .lst 1 acc, .str nm, .lst 11 ps, .lst 11 qs, .lst 11 its]) ∧ acc.length ≤ acc0.length + 6303 ∧ Str acc := by
  refine wdLoop (xs := qs) (N := 3) (m := 2101) (C := acc0.length + 6303) (T := fun j acc n => ref09_Words_L4 n (.lst 4 ms) (.int .i64 j0) (.int .i64 j) (.lst 1 acc) (.str nm) (.lst 11 ps) (.lst 11 qs) (.lst 11 its)) hn (by decide) (fun j acc hj hl hs K => ?_) (fun acc hl hs => ?_) (by omega) hs0
  · refine Ev.eq (fun n => ref09_Words_L4_eq n _ _ _ _ _ _ _ _) (Ev.yes (decide_eq_true (by omega)) ?_)
    obtain ⟨nm1, ty1, sg1, es, fs, e, l1, l2, he, hf⟩ := h qs[j] (List.getElem_mem hj)
    have R := in_range hj
    rw [get_nat hj, e]
    have N := netW (es := es) (fs := fs) (nm := nm1) (ty := ty1) (k := 1) (sg := sg1) (bs := []) (its := []) (els := []) (ps := []) (qs := []) he l2 hf
    refine Ev.test (fun _ => ?_) fun _ => ?_
    · refine Ev.yes (Nat.ble_eq_true_of_le (by simp only [List.length_append, List.length_cons, List.length_nil, maxLst]; omega)) ?_
      refine Ev.yes R (Ev.yes rfl (Ev.bindC N ?_))
      (rintro _ _ ⟨ws, h, hl, hs⟩; cases h; refine ⟨rfl, Ev.yes rfl ?_⟩; try simp only [nth_l])
      refine Ev.yes (Nat.ble_eq_true_of_le (by simp only [List.length_append, List.length_cons, List.length_nil, maxLst]; omega)) ?_
      exact K _ (by simp only [List.length_append, List.length_cons, List.length_nil]; omega) (by simp [Str_app, Str_cons, Str_nil, *])
    · refine Ev.yes R (Ev.yes rfl (Ev.bindC N ?_))
      (rintro _ _ ⟨ws, h, hl, hs⟩; cases h; refine ⟨rfl, Ev.yes rfl ?_⟩; try simp only [nth_l])
      refine Ev.yes (Nat.ble_eq_true_of_le (by simp only [List.length_append, List.length_cons, List.length_nil, maxLst]; omega)) ?_
      exact K _ (by simp only [List.length_append, List.length_cons, List.length_nil]; omega) (by simp [Str_app, Str_cons, Str_nil, *])
  · exact Ev.eq (fun n => ref09_Words_L4_eq n _ _ _ _ _ _ _ _) (Ev.no (decide_eq_false (by omega)) (Ev.ret ⟨_, acc, rfl, hl, hs⟩))
end
theorem wordsW {ms : List D} (hn : ms.length ≤ 3) (h : ∀ m ∈ ms, wfM m) : Ev (fun n => ref09_Words n (.lst 4 ms)) (Wd 11313000000) := by
  refine Ev.eq (fun n => ref09_Words_eq n ms) ?_
  refine Ev.bindL (Q := fun r => ∃ q acc, r = (false, [.lst 4 ms, .int .i64 q, .lst 1 acc]) ∧ acc.length ≤ 11313000000 ∧ Str acc) ?_ (fun ds h => by obtain ⟨_, _, h, _⟩ := h; cases h) fun ds h => ?_
  · refine wdLoop (xs := ms) (N := 3) (m := 3771000000) (C := 11313000000) (T := fun j acc n => ref09_Words_L0 n (.lst 4 ms) (.int .i64 j) (.lst 1 acc)) hn (by decide) (fun j acc hj hl hs K => ?_) (fun acc hl hs => ?_) (by simp) (Str_nil.2 trivial)
    · refine Ev.eq (fun n => ref09_Words_L0_eq n _ _ _) (Ev.yes (decide_eq_true (by omega)) (Ev.yes (in_range hj) ?_))
      obtain ⟨nm, ps, qs, its, e, l0, l1, l2, l3, h1, h2, h3⟩ := h ms[j] (List.getElem_mem hj)
      rw [get_nat hj, e]
      refine Ev.yes rfl ?_
      refine Ev.yes (Nat.ble_eq_true_of_le (by simp only [List.length_append, List.length_cons, List.length_nil, maxLst]; omega)) ?_
      refine Ev.test (fun _ => ?_) fun _ => ?_
      · refine Ev.yes (Nat.ble_eq_true_of_le (by simp only [List.length_append, List.length_cons, List.length_nil, maxLst]; omega)) ?_
        refine Ev.bindL (paramsW l1 h1 (by simp only [List.length_append, List.length_cons, List.length_nil]; omega) (by simp [Str_app, Str_cons, Str_nil, *])) (fun ds h => by obtain ⟨_, _, h, _⟩ := h; cases h) fun ds h => ?_
        obtain ⟨q, a1, h, ha1, hs1⟩ := h
        cases h
        simp only [List.length_append, List.length_cons, List.length_nil] at ha1
        refine Ev.yes rfl ?_
        simp only [nth3]
        refine Ev.yes (Nat.ble_eq_true_of_le (by simp only [List.length_append, List.length_cons, List.length_nil, maxLst]; omega)) ?_
        refine Ev.yes (Nat.ble_eq_true_of_le (by simp only [List.length_append, List.length_cons, List.length_nil, maxLst]; omega)) ?_
        refine Ev.bindL (portsW l2 h2 (by simp only [List.length_append, List.length_cons, List.length_nil]; omega) (by simp [Str_app, Str_cons, Str_nil, *])) (fun ds h => by obtain ⟨_, _, h, _⟩ := h; cases h) fun ds h => ?_
        obtain ⟨q, a2, h, ha2, hs2⟩ := h
        cases h
        simp only [List.length_append, List.length_cons, List.length_nil] at ha2
        refine Ev.yes rfl ?_
        simp only [nth3]
        refine Ev.yes (Nat.ble_eq_true_of_le (by simp only [List.length_append, List.length_cons, List.length_nil, maxLst]; omega)) ?_
        refine Ev.bindC (itemsW (by decide) iw4 (N := 5) l3 (by decide) h3) ?_
        (rintro _ _ ⟨ws, h, hl, hs⟩; cases h; refine ⟨rfl, Ev.yes rfl ?_⟩; try simp only [nth_l])
        refine Ev.yes (Nat.ble_eq_true_of_le (by simp only [List.length_append, List.length_cons, List.length_nil, maxLst]; omega)) ?_
        refine Ev.yes (Nat.ble_eq_true_of_le (by simp only [List.length_append, List.length_cons, List.length_nil, maxLst]; omega)) ?_
        exact K _ (by simp only [List.length_append, List.length_cons, List.length_nil]; omega) (by simp [Str_app, Str_cons, Str_nil, *])
      · refine Ev.yes (Nat.ble_eq_true_of_le (by simp only [List.length_append, List.length_cons, List.length_nil, maxLst]; omega)) ?_
        refine Ev.bindL (portsW l2 h2 (by simp only [List.length_append, List.length_cons, List.length_nil]; omega) (by simp [Str_app, Str_cons, Str_nil, *])) (fun ds h => by obtain ⟨_, _, h, _⟩ := h; cases h) fun ds h => ?_
        obtain ⟨q, a2, h, ha2, hs2⟩ := h
        cases h
        simp only [List.length_append, List.length_cons, List.length_nil] at ha2
        refine Ev.yes rfl ?_
        simp only [nth3]
        refine Ev.yes (Nat.ble_eq_true_of_le (by simp only [List.length_append, List.length_cons, List.length_nil, maxLst]; omega)) ?_
        refine Ev.bindC (itemsW (by decide) iw4 (N := 5) l3 (by decide) h3) ?_
        (rintro _ _ ⟨ws, h, hl, hs⟩; cases h; refine ⟨rfl, Ev.yes rfl ?_⟩; try simp only [nth_l])
        refine Ev.yes (Nat.ble_eq_true_of_le (by simp only [List.length_append, List.length_cons, List.length_nil, maxLst]; omega)) ?_
        refine Ev.yes (Nat.ble_eq_true_of_le (by simp only [List.length_append, List.length_cons, List.length_nil, maxLst]; omega)) ?_
        exact K _ (by simp only [List.length_append, List.length_cons, List.length_nil]; omega) (by simp [Str_app, Str_cons, Str_nil, *])
    · exact Ev.eq (fun n => ref09_Words_L0_eq n _ _ _) (Ev.no (decide_eq_false (by omega)) (Ev.ret ⟨_, acc, rfl, hl, hs⟩))
  · obtain ⟨q, acc, h, hl, hs⟩ := h
    cases h
    exact Ev.yes rfl (Ev.ret ⟨acc, rfl, hl, hs⟩)
end Go.Proofs.Ytfadegfceobogaa
