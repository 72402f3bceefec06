/- The reference's maker of items by their kinds; the whole tree. -/
import Derived.Test.YtalibicpmfbieaaGreatDoorTrB
namespace Go.Proofs.YtalibicpmfbieaaGreatDoor
open Go.AE
set_option linter.unusedVariables false
set_option linter.unusedSimpArgs false
section
variable {d : Nat} {deep : Int} {b : List D} {a v : Int}
theorem itemKind_ev (hS : 2 ≤ deep → SubI (d + 1) deep) (hm : Mk b a) {k : Int} (h0 : 0 ≤ k) (h1 : k ≤ 11) (h2 : 8 < k → 2 ≤ deep) :
    Ev (fun n => ref09_MakeItem_j1 n k [.int .i64 v, .lst 1 b, .int .i64 a] deep) (fun r => ∃ x a', r = (true, [x, .lst 1 b, .int .i64 a']) ∧ wfI (d + 2) x ∧ Mk b a') := by
  have hk : k = 0 ∨ k = 1 ∨ k = 2 ∨ k = 3 ∨ k = 4 ∨ k = 5 ∨ k = 6 ∨ k = 7 ∨ k = 8 ∨ k = 9 ∨ k = 10 ∨ k = 11 := by omega
  have ifT : ∀ k : Int, 2 ≤ deep → (k == 0) = false → (k == 1) = false → (k == 2) = false → (k == 3) = false → (k == 4) = false → (k == 5) = false → (k == 6) = false → (k == 7) = false → (k == 8) = false → (k == 9) = false →
      Ev (fun n => ref09_MakeItem_j1 n k [.int .i64 v, .lst 1 b, .int .i64 a] deep) (fun r => ∃ x a', r = (true, [x, .lst 1 b, .int .i64 a']) ∧ wfI (d + 2) x ∧ Mk b a') := by
    intro k hdeep e0 e1 e2 e3 e4 e5 e6 e7 e8 e9
    have hS := hS hdeep
    refine evDf (fun n => ref09_MakeItem_j1_def n _ _ _) (Ev.no e0 (Ev.no e1 (Ev.no e2 (Ev.no e3 (Ev.no e4 (Ev.no e5 (Ev.no e6 (Ev.no e7 (Ev.no e8 (Ev.no e9 ?_))))))))))
    (refine Ev.bindC (mexprs_ev 1 (by decide) (c := 1) (by decide) (by decide) (by assumption)) ?_; rintro _ _ ⟨xs, a, h, hl, hx, hm⟩; cases h; refine ⟨rfl, ?_⟩; replace hx : ∀ e ∈ xs, wfE 4 e := fun e h => wfE_up (by decide) (hx e h))
    refine Ev.yes rfl ?_
    refine Ev.bindC (next_ev (k := 3) (by decide) (by decide) hm) ?_
    rintro _ _ ⟨c, a, h, hc0, hc1, hm⟩; cases h; refine ⟨rfl, ?_⟩
    refine Ev.yes rfl ?_
    refine Ev.bindC (hS b a c hc0 (by omega) hm) ?_
    rintro _ _ ⟨zs, a, h, hz1, hz, hm⟩; cases h; refine ⟨rfl, ?_⟩
    refine Ev.yes rfl ?_
    refine Ev.bindC (next_ev (k := 2) (by decide) (by decide) hm) ?_
    rintro _ _ ⟨w, a, h, hw0, hw1, hm⟩; cases h; refine ⟨rfl, ?_⟩
    refine Ev.yes rfl (Ev.test (fun _ => ?_) fun _ => Ev.ret ⟨_, a, rfl, ⟨10, [], [], false, xs, [], [], [I 11 [116] [] false [] [] [] zs [] [] []], [], [], [], rfl, (by refine ⟨by decide, by decide, ?_, ?_, ?_, ?_, ?_⟩ <;> intro h <;> first | omega | (simp only [List.length_cons, List.length_nil]; omega)), (by refine ⟨?_, ?_, ?_, ?_, ?_, ?_, ?_⟩ <;> first | decide | omega | (simp only [List.length_cons, List.length_nil]; omega)), hx, none_in, none_in, one_in ⟨fun h => (by cases h), fun _ => ⟨[116], zs, rfl, by omega, hz⟩⟩, none_in, none_in, none_in⟩, hm⟩)
    refine Ev.bindC (next_ev (k := 3) (by decide) (by decide) hm) ?_
    rintro _ _ ⟨c2, a, h, hc20, hc21, hm⟩; cases h; refine ⟨rfl, ?_⟩
    refine Ev.yes rfl ?_
    refine Ev.bindC (hS b a c2 hc20 (by omega) hm) ?_
    rintro _ _ ⟨ys, a, h, hy1, hy, hm⟩; cases h; refine ⟨rfl, ?_⟩
    exact Ev.yes rfl (Ev.ret ⟨_, a, rfl, ⟨10, [], [], false, xs, [], [], [I 11 [116] [] false [] [] [] zs [] [] []], [I 11 [101] [] false [] [] [] ys [] [] []], [], [], rfl, (by refine ⟨by decide, by decide, ?_, ?_, ?_, ?_, ?_⟩ <;> intro h <;> first | omega | (simp only [List.length_cons, List.length_nil]; omega)), (by refine ⟨?_, ?_, ?_, ?_, ?_, ?_, ?_⟩ <;> first | decide | omega | (simp only [List.length_cons, List.length_nil]; omega)), hx, none_in, none_in, one_in ⟨fun h => (by cases h), fun _ => ⟨[116], zs, rfl, by omega, hz⟩⟩, one_in ⟨[101], ys, rfl, by omega, hy⟩, none_in, none_in⟩, hm⟩)
  rcases hk with rfl | rfl | rfl | rfl | rfl | rfl | rfl | rfl | rfl | rfl | rfl | rfl
  · refine evDf (fun n => ref09_MakeItem_j1_def n _ _ _) (Ev.yes rfl (Ev.bindC (makeNet_ev _ (.inl rfl) hm) ?_))
    rintro _ _ ⟨x, a, h, hx, hm⟩; cases h
    have hx0 := hx
    obtain ⟨nm1, ty1, sg1, es1, fs1, rfl, _⟩ := hx
    exact ⟨rfl, Ev.yes rfl (Ev.ret ⟨_, a, rfl, wfN_I _ hx0, hm⟩)⟩
  · refine evDf (fun n => ref09_MakeItem_j1_def n _ _ _) (Ev.no rfl (Ev.yes rfl ?_))
    refine Ev.bindC (next_ev (k := 3) (by decide) (by decide) hm) ?_
    rintro _ _ ⟨w, a, h, hv0, hv1, hm⟩; cases h; refine ⟨rfl, ?_⟩
    have hv : w = 0 ∨ w = 1 ∨ w = 2 := by omega
    refine Ev.yes rfl ?_
    rcases hv with rfl | rfl | rfl
    all_goals
      refine Ev.yes rfl (Ev.yes rfl (Ev.bindC (makeNet_ev _ (.inr rfl) hm) ?_))
      rintro _ _ ⟨x, a, h, hx, hm⟩; cases h
      have hx0 := hx
      obtain ⟨nm1, ty1, sg1, es1, fs1, rfl, _⟩ := hx
      exact ⟨rfl, Ev.yes rfl (Ev.ret ⟨_, a, rfl, wfN_I _ hx0, hm⟩)⟩
  · refine evDf (fun n => ref09_MakeItem_j1_def n _ _ _) (Ev.no rfl (Ev.no rfl (Ev.yes rfl ?_)))
    (refine Ev.bindC (name_in (by assumption)) ?_; rintro _ _ ⟨s, a, h, hs, hm⟩; cases h; refine ⟨rfl, ?_⟩)
    refine Ev.yes rfl ?_
    (refine Ev.bindC (mexprs_ev 1 (by decide) (c := 1) (by decide) (by decide) (by assumption)) ?_; rintro _ _ ⟨xs, a, h, hl, hx, hm⟩; cases h; refine ⟨rfl, ?_⟩; replace hx : ∀ e ∈ xs, wfE 4 e := fun e h => wfE_up (by decide) (hx e h))
    exact Ev.yes rfl (Ev.ret ⟨_, a, rfl, ⟨2, s, _, false, xs, [], [], [], [], [], [], rfl, (by refine ⟨by decide, by decide, ?_, ?_, ?_, ?_, ?_⟩ <;> intro h <;> first | omega | (simp only [List.length_cons, List.length_nil]; omega)), (by refine ⟨?_, ?_, ?_, ?_, ?_, ?_, ?_⟩ <;> first | decide | omega | (simp only [List.length_cons, List.length_nil]; omega)), hx, none_in, none_in, none_in, none_in, none_in, none_in⟩, hm⟩)
  · refine evDf (fun n => ref09_MakeItem_j1_def n _ _ _) (Ev.no rfl (Ev.no rfl (Ev.no rfl (Ev.yes rfl ?_))))
    (refine Ev.bindC (name_in (by assumption)) ?_; rintro _ _ ⟨s, a, h, hs, hm⟩; cases h; refine ⟨rfl, ?_⟩)
    exact Ev.yes rfl (Ev.ret ⟨_, a, rfl, ⟨3, s, [], false, [], [], [], [], [], [], [], rfl, (by refine ⟨by decide, by decide, ?_, ?_, ?_, ?_, ?_⟩ <;> intro h <;> first | omega | (simp only [List.length_cons, List.length_nil]; omega)), (by refine ⟨?_, ?_, ?_, ?_, ?_, ?_, ?_⟩ <;> first | decide | omega | (simp only [List.length_cons, List.length_nil]; omega)), none_in, none_in, none_in, none_in, none_in, none_in, none_in⟩, hm⟩)
  · refine evDf (fun n => ref09_MakeItem_j1_def n _ _ _) (Ev.no rfl (Ev.no rfl (Ev.no rfl (Ev.no rfl (Ev.yes rfl ?_)))))
    refine Ev.bindC (left_ev hm) ?_
    rintro _ _ ⟨l, a, h, hl, hm⟩; cases h
    have hl0 := hl
    obtain ⟨k1, t1, ar1, rfl, _⟩ := hl
    refine ⟨rfl, Ev.yes rfl (Ev.bindC (mexpr_ev 3 (by decide) hm) ?_)⟩
    rintro _ _ ⟨e, a, h, he, hm⟩; cases h
    have he0 := he
    obtain ⟨k2, t2, ar2, rfl, _⟩ := he
    refine ⟨rfl, Ev.yes rfl (Ev.ret ⟨_, a, rfl, ⟨4, [], [], false, [E k1 t1 ar1, E k2 t2 ar2], [], [], [], [], [], [], rfl, (by refine ⟨by decide, by decide, ?_, ?_, ?_, ?_, ?_⟩ <;> intro h <;> first | omega | (simp only [List.length_cons, List.length_nil]; omega)), (by refine ⟨?_, ?_, ?_, ?_, ?_, ?_, ?_⟩ <;> first | decide | omega | (simp only [List.length_cons, List.length_nil]; omega)), fun x hx => ?_, none_in, none_in, none_in, none_in, none_in, none_in⟩, hm⟩)⟩
    rcases List.mem_cons.1 hx with rfl | hx
    · exact wfE_up (by decide) (isLeft_wf hl0)
    · rw [List.mem_singleton.1 hx]; exact he0
  · refine evDf (fun n => ref09_MakeItem_j1_def n _ _ _) (Ev.no rfl (Ev.no rfl (Ev.no rfl (Ev.no rfl (Ev.no rfl (Ev.yes rfl ?_))))))
    refine Ev.bindC (makeStmt_ev 3 3 (by decide) (by decide) (by decide) b a hm) ?_
    rintro _ _ ⟨x, a, h, hx, hm⟩; cases h
    have hx0 := hx
    obtain ⟨k1, t1, es1, bs1, as1, rfl, _⟩ := hx
    exact ⟨rfl, Ev.yes rfl (Ev.ret ⟨_, a, rfl, ⟨5, [], [], false, [], [], [S k1 t1 es1 bs1 as1], [], [], [], [], rfl, (by refine ⟨by decide, by decide, ?_, ?_, ?_, ?_, ?_⟩ <;> intro h <;> first | omega | (simp only [List.length_cons, List.length_nil]; omega)), (by refine ⟨?_, ?_, ?_, ?_, ?_, ?_, ?_⟩ <;> first | decide | omega | (simp only [List.length_cons, List.length_nil]; omega)), none_in, none_in, one_in hx0, none_in, none_in, none_in, none_in⟩, hm⟩)⟩
  · refine evDf (fun n => ref09_MakeItem_j1_def n _ _ _) (Ev.no rfl (Ev.no rfl (Ev.no rfl (Ev.no rfl (Ev.no rfl (Ev.no rfl (Ev.yes rfl ?_)))))))
    refine Ev.bindC (makeStmt_ev 3 4 (by decide) (by decide) (by decide) b a hm) ?_
    rintro _ _ ⟨x, a, h, hx, hm⟩; cases h
    have hx0 := hx
    obtain ⟨k1, t1, es1, bs1, as1, rfl, _⟩ := hx
    exact ⟨rfl, Ev.yes rfl (Ev.ret ⟨_, a, rfl, ⟨6, _, [], false, [], [], [S k1 t1 es1 bs1 as1], [], [], [], [], rfl, (by refine ⟨by decide, by decide, ?_, ?_, ?_, ?_, ?_⟩ <;> intro h <;> first | omega | (simp only [List.length_cons, List.length_nil]; omega)), (by refine ⟨?_, ?_, ?_, ?_, ?_, ?_, ?_⟩ <;> first | decide | omega | (simp only [List.length_cons, List.length_nil]; omega)), none_in, none_in, one_in hx0, none_in, none_in, none_in, none_in⟩, hm⟩)⟩
  · refine evDf (fun n => ref09_MakeItem_j1_def n _ _ _) (Ev.no rfl (Ev.no rfl (Ev.no rfl (Ev.no rfl (Ev.no rfl (Ev.no rfl (Ev.no rfl (Ev.yes rfl ?_))))))))
    refine Ev.bindC (next_ev (k := 2) (by decide) (by decide) hm) ?_
    rintro _ _ ⟨w2, a, h, _, _, hm⟩; cases h; refine ⟨rfl, ?_⟩
    refine Ev.yes rfl ?_
    refine Ev.bindC (next_ev (k := 2) (by decide) (by decide) hm) ?_
    rintro _ _ ⟨w3, a, h, h30, h31, hm⟩; cases h; refine ⟨rfl, ?_⟩
    refine Ev.yes rfl ?_
    have hw : IntKind.i64.wrap (2 * w3) = 2 * w3 := wrap_id (by omega) (by omega)
    refine Ev.bindC (mexprs_ev 1 (by decide) (c := IntKind.i64.wrap (2 * w3)) (by omega) (by omega) hm) ?_
    rintro _ _ ⟨xs, a, h, hl, hx, hm⟩; cases h; refine ⟨rfl, ?_⟩
    have hl : xs.length ≤ 4 := by omega
    have hx : ∀ e ∈ xs, wfE 4 e := fun e h => wfE_up (by decide) (hx e h)
    refine Ev.yes rfl ?_
    refine Ev.bindC (next_ev (k := 2) (by decide) (by decide) hm) ?_
    rintro _ _ ⟨w, a, h, hw0, hw1, hm⟩; cases h
    obtain ⟨c, rfl⟩ : ∃ c : Nat, w = (c : Int) := ⟨w.toNat, by omega⟩
    have hw : IntKind.i64.wrap (1 + (c : Int)) = ((c + 1 : Nat) : Int) := by rw [wrap_id (by omega) (by omega)]; omega
    have L := decls_mk (b := b) (w2 == 1) xs (c + 1) [] a (by simp; omega) none_in hm
    rw [← hw] at L
    refine ⟨rfl, Ev.yes rfl (Ev.bindL L (fun ds h => by obtain ⟨_, _, _, h, _⟩ := h; cases h) fun ds h => ?_)⟩
    obtain ⟨q, zs, a, h, hz1, hz, hm⟩ := h
    cases h
    refine Ev.yes rfl (Ev.bindC (makeStmt_ev 3 3 (by decide) (by decide) (by decide) b a hm) ?_)
    rintro _ _ ⟨x, a, h, hx', hm⟩; cases h
    have hx0 := hx'
    obtain ⟨k1, t1, es1, bs1, as1, rfl, _⟩ := hx'
    exact ⟨rfl, Ev.yes rfl (Ev.ret ⟨_, a, rfl, ⟨7, [102], [], w2 == 1, xs, [], [S k1 t1 es1 bs1 as1], zs, [], [], [], rfl, (by refine ⟨by decide, by decide, ?_, ?_, ?_, ?_, ?_⟩ <;> intro h <;> first | omega | (simp only [List.length_cons, List.length_nil]; omega)), (by refine ⟨?_, ?_, ?_, ?_, ?_, ?_, ?_⟩ <;> first | decide | omega | (simp only [List.length_cons, List.length_nil]; omega)), hx, none_in, one_in hx0, fun i hi => ⟨fun _ => wfN_I _ (hz i hi), fun h => absurd rfl h⟩, none_in, none_in, none_in⟩, hm⟩)⟩
  · refine evDf (fun n => ref09_MakeItem_j1_def n _ _ _) (Ev.no rfl (Ev.no rfl (Ev.no rfl (Ev.no rfl (Ev.no rfl (Ev.no rfl (Ev.no rfl (Ev.no rfl (Ev.yes rfl ?_)))))))))
    refine Ev.bindC (next_ev (k := 9) (by decide) (by decide) hm) ?_
    rintro _ _ ⟨w, a, h, hw0, hw1, hm⟩; cases h; refine ⟨rfl, ?_⟩
    refine Ev.yes rfl ?_
    refine Ev.bindC (dec_ev (v := w) hw0 (by omega)) ?_
    rintro _ _ ⟨s, h, hs⟩; cases h; refine ⟨rfl, ?_⟩
    refine Ev.yes rfl (Ev.yes (decide_eq_true (by show 1 + s.length ≤ maxStr; simp only [maxStr]; omega)) ?_)
    refine Ev.bindC (makeConns_ev hm) ?_
    rintro _ _ ⟨ps, a, h, hp1, hp, hm⟩; cases h; refine ⟨rfl, ?_⟩
    refine Ev.yes rfl ?_
    refine Ev.bindC (makeConns_ev hm) ?_
    rintro _ _ ⟨qs, a, h, hq1, hq, hm⟩; cases h; refine ⟨rfl, ?_⟩
    exact Ev.yes rfl (Ev.ret ⟨_, a, rfl, ⟨8, _, _, false, [], [], [], [], [], ps, qs, rfl, (by refine ⟨by decide, by decide, ?_, ?_, ?_, ?_, ?_⟩ <;> intro h <;> first | omega | (simp only [List.length_cons, List.length_nil]; omega)), (by refine ⟨?_, ?_, ?_, ?_, ?_, ?_, ?_⟩ <;> first | decide | omega | (simp only [List.length_cons, List.length_nil]; omega)), none_in, none_in, none_in, none_in, none_in, hp, hq⟩, hm⟩)
  · have hdeep := h2 (by decide)
    refine evDf (fun n => ref09_MakeItem_j1_def n _ _ _) (Ev.no rfl (Ev.no rfl (Ev.no rfl (Ev.no rfl (Ev.no rfl (Ev.no rfl (Ev.no rfl (Ev.no rfl (Ev.no rfl (Ev.yes rfl ?_))))))))))
    (refine Ev.bindC (mexprs_ev 1 (by decide) (c := 3) (by decide) (by decide) (by assumption)) ?_; rintro _ _ ⟨xs, a, h, hl, hx, hm⟩; cases h; refine ⟨rfl, ?_⟩; replace hx : ∀ e ∈ xs, wfE 4 e := fun e h => wfE_up (by decide) (hx e h))
    refine Ev.yes rfl ?_
    refine Ev.bindC (next_ev (k := 3) (by decide) (by decide) hm) ?_
    rintro _ _ ⟨c, a, h, hc0, hc1, hm⟩; cases h; refine ⟨rfl, ?_⟩
    refine Ev.yes rfl ?_
    refine Ev.bindC (hS hdeep b a c hc0 (by omega) hm) ?_
    rintro _ _ ⟨zs, a, h, hz1, hz, hm⟩; cases h; refine ⟨rfl, ?_⟩
    exact Ev.yes rfl (Ev.ret ⟨_, a, rfl, ⟨9, _, [], false, xs, [], [], [I 11 [103] [] false [] [] [] zs [] [] []], [], [], [], rfl, (by refine ⟨by decide, by decide, ?_, ?_, ?_, ?_, ?_⟩ <;> intro h <;> first | omega | (simp only [List.length_cons, List.length_nil]; omega)), (by refine ⟨?_, ?_, ?_, ?_, ?_, ?_, ?_⟩ <;> first | decide | omega | (simp only [List.length_cons, List.length_nil]; omega)), hx, none_in, none_in, one_in ⟨fun h => (by cases h), fun _ => ⟨[103], zs, rfl, by omega, hz⟩⟩, none_in, none_in, none_in⟩, hm⟩)
  · exact ifT 10 (h2 (by decide)) rfl rfl rfl rfl rfl rfl rfl rfl rfl rfl
  · exact ifT 11 (h2 (by decide)) rfl rfl rfl rfl rfl rfl rfl rfl rfl rfl
end
theorem items_mk {d : Nat} {deep : Int} (hI : ∀ b a, Mk b a → Ev (fun n => ref09_MakeItem n (.int .i64 deep) (.lst 1 b) (.int .i64 a)) (fun r => ∃ x a', r = (true, [x, .lst 1 b, .int .i64 a']) ∧ wfI d x ∧ Mk b a')) {m : Nat} (hmm : m ≤ 100) {b : List D} :
    ∀ (c j : Nat) (zs : List D) (a : Int), j + c = m → zs.length = j → (∀ x ∈ zs, wfI d x) → Mk b a → Ev (fun n => ref09_MakeItems_L0 n (.int .i64 deep) (.int .i64 (m : Int)) (.int .i64 (j : Int)) (.lst 1 b) (.int .i64 a) (.lst 11 zs))
    fun r => ∃ (q : Int) (zs' : List D) (a' : Int), r = (false, [.int .i64 deep, .int .i64 (m : Int), .int .i64 q, .lst 1 b, .int .i64 a', .lst 11 zs']) ∧ zs'.length = m ∧ (∀ x ∈ zs', wfI d x) ∧ Mk b a' := by
  intro c
  induction c with
  | zero =>
    intro j zs a hj hl hz hm
    exact Ev.eq (fun n => ref09_MakeItems_L0_eq n _ _ _ _ _ _) (Ev.no (decide_eq_false (by omega)) (Ev.ret ⟨_, zs, a, rfl, by omega, hz, hm⟩))
  | succ c ih =>
    intro j zs a hj hl hz hm
    refine Ev.eq (fun n => ref09_MakeItems_L0_eq n _ _ _ _ _ _) (Ev.yes (decide_eq_true (by omega)) ?_)
    rw [wrap_succ (by omega)]
    refine Ev.bindC (hI b a hm) ?_
    rintro _ _ ⟨x, a, h, hx, hm⟩; cases h; refine ⟨rfl, ?_⟩
    cases d with
    | zero => exact hx.elim
    | succ d =>
      have hx0 := hx
      obtain ⟨k1, nm1, ty1, sg1, es1, fs1, bs1, its1, els1, ps1, qs1, rfl, _⟩ := hx
      refine Ev.yes rfl (Ev.yes (Nat.ble_eq_true_of_le (by simp only [maxLst]; omega)) ?_)
      exact ih (j + 1) _ a (by omega) (by simp; omega) (snoc_in hz hx0) hm
theorem makeItems_ev {d : Nat} {deep : Int} (hI : ∀ b a, Mk b a → Ev (fun n => ref09_MakeItem n (.int .i64 deep) (.lst 1 b) (.int .i64 a)) (fun r => ∃ x a', r = (true, [x, .lst 1 b, .int .i64 a']) ∧ wfI d x ∧ Mk b a')) {b : List D} {a c : Int} (h0 : 0 ≤ c) (h1 : c ≤ 100) (hm : Mk b a) :
    Ev (fun n => ref09_MakeItems n (.int .i64 deep) (.int .i64 c) (.lst 1 b) (.int .i64 a)) fun r => ∃ zs a', r = (true, [.lst 1 b, .int .i64 a', .lst 11 zs]) ∧ zs.length ≤ c.toNat ∧ (∀ x ∈ zs, wfI d x) ∧ Mk b a' := by
  obtain ⟨m, rfl⟩ : ∃ m : Nat, c = (m : Int) := ⟨c.toNat, by omega⟩
  refine Ev.eq (fun n => ref09_MakeItems_eq n _ _ b a) ?_
  refine Ev.bindL (items_mk hI (m := m) (by omega) m 0 [] a (by omega) rfl none_in hm) (fun ds h => by obtain ⟨_, _, _, h, _⟩ := h; cases h) fun ds h => ?_
  obtain ⟨q, zs, a, h, h1, h2, hm⟩ := h
  cases h
  exact Ev.yes rfl (Ev.ret ⟨zs, a, rfl, by omega, h2, hm⟩)
theorem makeItem_ev : ∀ (d : Nat) (deep : Int), d ≤ 10 → -1000 ≤ deep → deep ≤ (d : Int) + 1 → ∀ b a, Mk b a → Ev (fun n => ref09_MakeItem n (.int .i64 deep) (.lst 1 b) (.int .i64 a)) (fun r => ∃ x a', r = (true, [x, .lst 1 b, .int .i64 a']) ∧ wfI (d + 2) x ∧ Mk b a') := by
  intro d
  induction d with
  | zero =>
    intro deep hd h0 h1 b a hm
    refine Ev.eq (fun n => ref09_MakeItem_eq n deep b a) ?_
    refine Ev.bindC (next_ev (k := 12) (by decide) (by decide) hm) ?_
    rintro _ _ ⟨v, a, h, hv0, hv1, hm⟩; cases h; refine ⟨rfl, ?_⟩
    refine Ev.yes rfl (Ev.yes (decide_eq_true (by omega)) ?_)
    have e1 : 0 ≤ v.tmod 9 := Int.tmod_nonneg 9 hv0
    have e2 : v.tmod 9 < 9 := Int.tmod_lt_of_pos v (by decide)
    exact itemKind_ev (fun h => by omega) hm e1 (by show v.tmod 9 ≤ 11; omega) (fun h => by have h : 8 < v.tmod 9 := h; omega)
  | succ d ih =>
    intro deep hd h0 h1 b a hm
    have hS : 2 ≤ deep → SubI (d + 1 + 1) deep := by
      intro h b a c hc0 hc1 hm
      rw [wrap_id (by omega) (by omega)]
      exact makeItems_ev (fun b a hm => ih (deep - 1) (by omega) (by omega) (by omega) b a hm) hc0 (by omega) hm
    refine Ev.eq (fun n => ref09_MakeItem_eq n deep b a) ?_
    refine Ev.bindC (next_ev (k := 12) (by decide) (by decide) hm) ?_
    rintro _ _ ⟨v, a, h, hv0, hv1, hm⟩; cases h; refine ⟨rfl, ?_⟩
    refine Ev.yes rfl (Ev.test (fun _ => ?_) fun hc => ?_)
    · have e1 : 0 ≤ v.tmod 9 := Int.tmod_nonneg 9 hv0
      have e2 : v.tmod 9 < 9 := Int.tmod_lt_of_pos v (by decide)
      exact itemKind_ev hS hm e1 (by show v.tmod 9 ≤ 11; omega) (fun h => by have h : 8 < v.tmod 9 := h; omega)
    · have hc := of_decide_eq_false hc
      exact itemKind_ev hS hm hv0 (by show v ≤ 11; omega) (fun _ => by omega)
/-! Modules. -/
def M (nm : List UInt8) (ps qs its : List D) : D := .agg [.str nm, .lst 11 ps, .lst 11 qs, .lst 11 its]
def wfP (x : D) : Prop := ∃ nm ty es, x = I 2 nm ty false es [] [] [] [] [] [] ∧ es.length = 1 ∧ ∀ e ∈ es, wfE 4 e
def wfM (x : D) : Prop := ∃ nm ps qs its, x = M nm ps qs its ∧ nm.length ≤ 100 ∧ ps.length ≤ 2 ∧ qs.length ≤ 3 ∧ its.length ≤ 5 ∧ (∀ p ∈ ps, wfP p) ∧ (∀ q ∈ qs, wfN q) ∧ ∀ i ∈ its, wfI 4 i
section
variable {b b0 : List D} {i0 : Int} {ms its0 : List D} {nm : List UInt8}
theorem params_mk : ∀ (c : Nat) (zs : List D) (a : Int), zs.length + c ≤ 2 → (∀ x ∈ zs, wfP x) → Mk b a → Ev (fun n => ref09_Make_L2 n (.lst 1 b0) (.int .i64 i0) (.int .i64 (c : Int)) (.lst 1 b) (.int .i64 a) (.lst 4 ms) (.str nm) (.lst 11 zs) (.lst 11 []) (.lst 11 []))
    fun r => ∃ (q : Int) (zs' : List D) (a' : Int), r = (false, [.lst 1 b0, .int .i64 i0, .int .i64 q, .lst 1 b, .int .i64 a', .lst 4 ms, .str nm, .lst 11 zs', .lst 11 [], .lst 11 []]) ∧ zs'.length ≤ 2 ∧ (∀ x ∈ zs', wfP x) ∧ Mk b a' := by
  intro c
  induction c with
  | zero =>
    intro zs a hl hz hm
    exact Ev.eq (fun n => ref09_Make_L2_eq n _ _ _ _ _ _ _ _ _ _) (Ev.no rfl (Ev.ret ⟨_, zs, a, rfl, by omega, hz, hm⟩))
  | succ c ih =>
    intro zs a hl hz hm
    have hw : IntKind.i64.wrap (((c + 1 : Nat) : Int) - 1) = (c : Int) := by rw [wrap_id (by omega) (by omega)]; omega
    refine Ev.eq (fun n => ref09_Make_L2_eq n _ _ _ _ _ _ _ _ _ _) (Ev.yes (decide_eq_true (by omega)) ?_)
    rw [hw]
    (refine Ev.bindC (name_in (by assumption)) ?_; rintro _ _ ⟨s, a, h, hs, hm⟩; cases h; refine ⟨rfl, ?_⟩)
    refine Ev.yes rfl ?_
    (refine Ev.bindC (mexprs_ev 1 (by decide) (c := 1) (by decide) (by decide) (by assumption)) ?_; rintro _ _ ⟨xs, a, h, hl, hx, hm⟩; cases h; refine ⟨rfl, ?_⟩; replace hx : ∀ e ∈ xs, wfE 4 e := fun e h => wfE_up (by decide) (hx e h))
    exact Ev.yes rfl (Ev.yes (Nat.ble_eq_true_of_le (by simp only [maxLst]; omega)) (ih _ a (by simp; omega) (snoc_in hz ⟨_, _, xs, rfl, by rw [‹xs.length = _›]; decide, hx⟩) hm))
theorem ports_mk (ps : List D) : ∀ (c : Nat) (zs : List D) (a : Int), zs.length + c ≤ 3 → (∀ x ∈ zs, wfN x) → Mk b a → Ev (fun n => ref09_Make_L4 n (.lst 1 b0) (.int .i64 i0) (.int .i64 (c : Int)) (.lst 1 b) (.int .i64 a) (.lst 4 ms) (.str nm) (.lst 11 ps) (.lst 11 zs) (.lst 11 []))
    fun r => ∃ (q : Int) (zs' : List D) (a' : Int), r = (false, [.lst 1 b0, .int .i64 i0, .int .i64 q, .lst 1 b, .int .i64 a', .lst 4 ms, .str nm, .lst 11 ps, .lst 11 zs', .lst 11 []]) ∧ zs'.length ≤ 3 ∧ (∀ x ∈ zs', wfN x) ∧ Mk b a' := by
  intro c
  induction c with
  | zero =>
    intro zs a hl hz hm
    exact Ev.eq (fun n => ref09_Make_L4_eq n _ _ _ _ _ _ _ _ _ _) (Ev.no rfl (Ev.ret ⟨_, zs, a, rfl, by omega, hz, hm⟩))
  | succ c ih =>
    intro zs a hl hz hm
    have hw : IntKind.i64.wrap (((c + 1 : Nat) : Int) - 1) = (c : Int) := by rw [wrap_id (by omega) (by omega)]; omega
    refine Ev.eq (fun n => ref09_Make_L4_eq n _ _ _ _ _ _ _ _ _ _) (Ev.yes (decide_eq_true (by omega)) ?_)
    rw [hw]
    refine Ev.bindC (makePort_ev hm) ?_
    rintro _ _ ⟨x, a, h, hx, hm⟩; cases h; refine ⟨rfl, ?_⟩
    have hx0 := hx
    obtain ⟨nm1, ty1, sg1, es1, fs1, rfl, _⟩ := hx
    refine Ev.yes rfl (Ev.yes (Nat.ble_eq_true_of_le (by simp only [maxLst]; omega)) ?_)
    exact ih _ a (by simp; omega) (snoc_in hz hx0) hm
end
theorem mods_mk {b0 : List D} : ∀ (c : Nat) (ms b : List D) (a : Int), ms.length + c ≤ 3 → (∀ x ∈ ms, wfM x) → Mk b a →
    Ev (fun n => ref09_Make_L0 n (.lst 1 b0) (.int .i64 ((c : Int) - 1)) (.lst 1 b) (.int .i64 a) (.lst 4 ms))
    fun r => ∃ ds ms', r = (false, ds) ∧ nth ds 4 = .lst 4 ms' ∧ chk ref09_Make_L0.sk ds = true ∧ (ms ≠ [] ∨ c ≠ 0 → ms' ≠ []) ∧ ms'.length ≤ 3 ∧ ∀ x ∈ ms', wfM x := by
  intro c
  have stop : ∀ (i : Int) (ms b : List D) (a : Int), ms.length ≤ 3 → (∀ x ∈ ms, wfM x) → (c = 0 ∨ ms ≠ []) → Ev (fun n => ref09_Make_L0_j1 n false ms b a b0 i)
      fun r => ∃ ds ms', r = (false, ds) ∧ nth ds 4 = .lst 4 ms' ∧ chk ref09_Make_L0.sk ds = true ∧ (ms ≠ [] ∨ c ≠ 0 → ms' ≠ []) ∧ ms'.length ≤ 3 ∧ ∀ x ∈ ms', wfM x :=
    fun i ms b a hl hz hc => evDf (fun n => ref09_Make_L0_j1_def n _ _ _ _ _ _) (Ev.no rfl (Ev.ret ⟨_, ms, rfl, rfl, rfl, fun h => by rcases hc with hc | hc; exact h.elim id (fun h => absurd hc h); exact hc, hl, hz⟩))
  induction c with
  | zero =>
    intro ms b a hl hz hm
    exact Ev.eq (fun n => ref09_Make_L0_eq n _ _ _ _ _) (Ev.no rfl (stop _ ms b a (by omega) hz (.inl rfl)))
  | succ c ih =>
    intro ms b a hl hz hm
    have hw : IntKind.i64.wrap (((c + 1 : Nat) : Int) - 1 - 1) = (c : Int) - 1 := by rw [wrap_id (by omega) (by omega)]; omega
    have go : Ev (fun n => ref09_Make_L0_j1 n true ms b a b0 (((c + 1 : Nat) : Int) - 1)) fun r => ∃ ds ms', r = (false, ds) ∧ nth ds 4 = .lst 4 ms' ∧ chk ref09_Make_L0.sk ds = true ∧ (ms ≠ [] ∨ c + 1 ≠ 0 → ms' ≠ []) ∧ ms'.length ≤ 3 ∧ ∀ x ∈ ms', wfM x := by
      refine evDf (fun n => ref09_Make_L0_j1_def n _ _ _ _ _ _) (Ev.yes rfl ?_)
      refine Ev.bindC (dec_ev (by omega) (by omega)) ?_
      rintro _ _ ⟨s, h, hs⟩; cases h; refine ⟨rfl, ?_⟩
      refine Ev.yes rfl (Ev.yes (decide_eq_true (by show 1 + s.length ≤ maxStr; simp only [maxStr]; omega)) ?_)
      refine Ev.bindC (next_ev (k := 3) (by decide) (by decide) hm) ?_
      rintro _ _ ⟨w, a, h, hw0, hw1, hm⟩; cases h; refine ⟨rfl, ?_⟩
      obtain ⟨w, rfl⟩ : ∃ m : Nat, w = (m : Int) := ⟨w.toNat, by omega⟩
      refine Ev.yes rfl (Ev.bindL (params_mk w [] a (by simp; omega) none_in hm) (fun ds h => by obtain ⟨_, _, _, h, _⟩ := h; cases h) fun ds h => ?_)
      obtain ⟨q, ps, a, h, hp1, hp, hm⟩ := h
      cases h
      refine Ev.yes rfl (Ev.bindC (next_ev (k := 4) (by decide) (by decide) hm) ?_)
      rintro _ _ ⟨w, a, h, hw0, hw1, hm⟩; cases h; refine ⟨rfl, ?_⟩
      obtain ⟨w, rfl⟩ : ∃ m : Nat, w = (m : Int) := ⟨w.toNat, by omega⟩
      refine Ev.yes rfl (Ev.bindL (ports_mk ps w [] a (by simp; omega) none_in hm) (fun ds h => by obtain ⟨_, _, _, h, _⟩ := h; cases h) fun ds h => ?_)
      obtain ⟨q, qs, a, h, hq1, hq, hm⟩ := h
      cases h
      refine Ev.yes rfl (Ev.bindC (next_ev (k := 6) (by decide) (by decide) hm) ?_)
      rintro _ _ ⟨w, a, h, hw0, hw1, hm⟩; cases h; refine ⟨rfl, ?_⟩
      refine Ev.yes rfl (Ev.bindC (makeItems_ev (d := 4) (fun b a hm => makeItem_ev 2 3 (by decide) (by decide) (by decide) b a hm) (c := w) hw0 (by omega) hm) ?_)
      rintro _ _ ⟨its, a, h, hi1, hi, hm⟩; cases h; refine ⟨rfl, ?_⟩
      refine Ev.yes rfl (Ev.yes (Nat.ble_eq_true_of_le (by show ms.length + 1 ≤ maxLst; simp only [maxLst]; omega)) ?_)
      have hx : wfM (M ([109] ++ s) ps qs its) := ⟨_, ps, qs, its, rfl, by simp; omega, hp1, hq1, by omega, hp, hq, hi⟩
      have L := ih (fun i ms b a hl hz hc => evDf (fun n => ref09_Make_L0_j1_def n _ _ _ _ _ _) (Ev.no rfl (Ev.ret ⟨_, ms, rfl, rfl, rfl, fun h => by rcases hc with hc | hc; exact h.elim id (fun h => absurd hc h); exact hc, hl, hz⟩))) (ms ++ [M ([109] ++ s) ps qs its]) b a (by simp; omega) (snoc_in hz hx) hm
      rw [← hw] at L
      refine L.mono fun r hr => ?_
      obtain ⟨ds, ms', h1, h2, h3, h4, h5⟩ := hr
      exact ⟨ds, ms', h1, h2, h3, fun _ => h4 (.inl (by simp)), h5⟩
    refine Ev.eq (fun n => ref09_Make_L0_eq n _ _ _ _ _) (Ev.yes (decide_eq_true (by omega)) (Ev.test (fun _ => go) fun hne => ?_))
    have hne : ms ≠ [] := by
      rintro rfl
      exact absurd hne (by decide)
    refine (show ∀ g : Bool, Ev (fun n => ref09_Make_L0_j1 n g ms b a b0 (((c + 1 : Nat) : Int) - 1)) _ from fun g => ?_) _
    cases g with
    | true => exact go
    | false => exact stop _ ms b a (by omega) hz (.inr hne)
theorem make_ev {b : List D} (hb : Bytes b) (hl : b.length ≤ 300) : Ev (fun n => ref09_Make n (.lst 1 b)) fun r => ∃ ms, r = (true, [.lst 4 ms]) ∧ ms ≠ [] ∧ ms.length ≤ 3 ∧ ∀ x ∈ ms, wfM x := by
  refine Ev.eq (fun n => ref09_Make_eq n b) ?_
  refine Ev.bindC (next_ev (k := 3) (by decide) (by decide) (a := 0) ⟨hb, hl, by decide, by omega⟩) ?_
  rintro _ _ ⟨v, a, h, hv0, hv1, hm⟩; cases h; refine ⟨rfl, ?_⟩
  obtain ⟨c, rfl⟩ : ∃ c : Nat, v = ((c + 1 : Nat) : Int) - 1 := ⟨v.toNat, by omega⟩
  refine Ev.yes rfl (Ev.bindL (mods_mk (c + 1) [] b a (by simp; omega) none_in hm) (fun ds h => by obtain ⟨_, _, h, _⟩ := h; cases h) fun ds h => ?_)
  obtain ⟨ds', ms, h, h1, h2, h3, h4, h5⟩ := h
  cases h
  refine Ev.yes h2 (Ev.ret ⟨ms, ?_, h3 (.inr (by simp)), h4, h5⟩)
  rw [h1]; rfl
end Go.Proofs.YtalibicpmfbieaaGreatDoor
