/- The reference's maker of items, ports, modules: what it makes is well formed. -/
import Derived.Test.YtalibicpmfbieaaGreatDoorTrA
namespace Go.Proofs.YtalibicpmfbieaaGreatDoor
open Go.AE
set_option linter.unusedVariables false
set_option linter.unusedSimpArgs false
/-- An item. -/
def I (k : Int) (nm ty : List UInt8) (sg : Bool) (es fs bs its els ps qs : List D) : D :=
  .agg [.int .i64 k, .str nm, .str ty, .bool sg, .lst 6 es, .lst 6 fs, .lst 5 bs, .lst 11 its, .lst 11 els, .lst 2 ps, .lst 2 qs]
def wfN (x : D) : Prop := ∃ nm ty sg es fs, x = I 1 nm ty sg es fs [] [] [] [] [] ∧ es.length ≤ 4 ∧ fs.length ≤ 1 ∧ (∀ e ∈ es, wfE 4 e) ∧ ∀ e ∈ fs, wfE 4 e
def wfC (x : D) : Prop := ∃ nm es, x = .agg [.str nm, .lst 6 es] ∧ es.length ≤ 1 ∧ ∀ e ∈ es, wfE 4 e
def blkI (P : D → Prop) (x : D) : Prop := ∃ t its, x = I 11 t [] false [] [] [] its [] [] [] ∧ its.length ≤ 3 ∧ ∀ j ∈ its, P j
def minI (k : Int) (es bs : List D) : Prop := 1 ≤ k ∧ k ≤ 10 ∧ (k = 2 → 1 ≤ es.length) ∧ (k = 4 → 2 ≤ es.length) ∧ ((k = 5 ∨ k = 6 ∨ k = 7) → 1 ≤ bs.length) ∧ (k = 9 → 3 ≤ es.length) ∧ (k = 10 → 1 ≤ es.length)
def maxI (es fs bs its els ps qs : List D) : Prop := es.length ≤ 4 ∧ fs.length ≤ 1 ∧ bs.length ≤ 1 ∧ its.length ≤ 2 ∧ els.length ≤ 1 ∧ ps.length ≤ 2 ∧ qs.length ≤ 2
def wfI : Nat → D → Prop
  | 0, _ => False
  | n + 1, x => ∃ k nm ty sg es fs bs its els ps qs, x = I k nm ty sg es fs bs its els ps qs ∧ minI k es bs ∧ maxI es fs bs its els ps qs ∧ (∀ e ∈ es, wfE 4 e) ∧ (∀ e ∈ fs, wfE 4 e) ∧ (∀ e ∈ bs, wfS 4 e) ∧
    (∀ i ∈ its, (k = 7 → wfI n i) ∧ (k ≠ 7 → blkI (wfI n) i)) ∧ (∀ i ∈ els, blkI (wfI n) i) ∧ (∀ c ∈ ps, wfC c) ∧ ∀ c ∈ qs, wfC c
theorem none_in {P : D → Prop} : ∀ x ∈ ([] : List D), P x := fun _ h => by cases h
theorem one_in {P : D → Prop} {y : D} (h : P y) : ∀ x ∈ [y], P x := fun _ hx => by rw [List.mem_singleton.1 hx]; exact h
theorem snoc_in {P : D → Prop} {l : List D} {y : D} (hl : ∀ x ∈ l, P x) (h : P y) : ∀ x ∈ l ++ [y], P x := fun x hx => by
  rcases List.mem_append.1 hx with hx | hx
  · exact hl x hx
  · rw [List.mem_singleton.1 hx]; exact h
theorem wfN_I {x : D} (n : Nat) (h : wfN x) : wfI (n + 1) x := by
  obtain ⟨nm, ty, sg, es, fs, rfl, h1, h2, h3, h4⟩ := h
  exact ⟨1, nm, ty, sg, es, fs, [], [], [], [], [], rfl, by simp [minI], ⟨h1, h2, by decide, by decide, by decide, by decide, by decide⟩, h3, h4, none_in, none_in, none_in, none_in, none_in⟩
theorem dec_ev {v : Int} (h0 : 0 ≤ v) (h1 : v ≤ 9) : Ev (fun n => ref02_Dec n (.int .i64 v)) fun r => ∃ s, r = (true, [.str s]) ∧ s.length = 1 := by
  refine Ev.eq (fun n => ref02_Dec_eq n v) ?_
  refine Ev.bindL (Q := fun r => r = (false, [.int .i64 v, .str []])) (Ev.eq (fun n => ref02_Dec_L0_eq n v []) (Ev.no (decide_eq_false (by omega)) (Ev.ret rfl))) (fun ds h => by cases h) fun ds h => ?_
  cases h
  refine Ev.yes rfl (Ev.yes (decide_eq_true (by show 1 + 0 ≤ maxStr; simp only [maxStr]; omega)) (Ev.ret ⟨_, rfl, rfl⟩))
section
variable {b : List D} {a : Int}
theorem net_j1 (hm : Mk b a) (g : Bool) (r2 : List D) (ty : List UInt8) (r3 r4 : List D) (hl0 : (nth r4 2).l.length ≤ 4) (he : ∀ e ∈ (nth r4 2).l, wfE 4 e) :
    Ev (fun n => ref09_MakeNet_j1 n g b a r2 ty r3 r4) (fun r => ∃ x a', r = (true, [x, .lst 1 b, .int .i64 a']) ∧ wfN x ∧ Mk b a') := by
  refine evDf (fun n => ref09_MakeNet_j1_def n _ _ _ _ _ _ _) ?_
  cases g with
  | false => exact Ev.no rfl (Ev.ret ⟨_, a, rfl, ⟨_, _, _, _, [], rfl, hl0, by decide, he, none_in⟩, hm⟩)
  | true =>
    refine Ev.yes rfl ?_
    (refine Ev.bindC (mexprs_ev 1 (by decide) (c := 1) (by decide) (by decide) (by assumption)) ?_; rintro _ _ ⟨xs, a, h, hl, hx, hm⟩; cases h; refine ⟨rfl, ?_⟩)
    exact Ev.yes rfl (Ev.ret ⟨_, a, rfl, ⟨_, _, _, _, xs, rfl, hl0, by rw [‹xs.length = _›]; decide, he, fun e h => wfE_up (by decide) (hx e h)⟩, hm⟩)
theorem makeNet_ev (ty : List UInt8) {c : Int} (hc : c = 1 ∨ c = 2) (hm : Mk b a) : Ev (fun n => ref09_MakeNet n (.str ty) (.int .i64 c) (.lst 1 b) (.int .i64 a)) (fun r => ∃ x a', r = (true, [x, .lst 1 b, .int .i64 a']) ∧ wfN x ∧ Mk b a') := by
  refine Ev.eq (fun n => ref09_MakeNet_eq n ty c b a) ?_
  have hw : IntKind.i64.wrap (c + 1) = c + 1 := wrap_id (by omega) (by omega)
  rw [hw]
  refine Ev.bindC (next_ev (by omega) (by omega) hm) ?_
  rintro _ _ ⟨v, a, h, hv0, hv1, hm⟩; cases h; refine ⟨rfl, ?_⟩
  refine Ev.yes rfl ?_
  refine Ev.test (fun _ => ?_) fun _ => ?_
  · (refine Ev.bindC (name_in (by assumption)) ?_; rintro _ _ ⟨s, a, h, hs, hm⟩; cases h; refine ⟨rfl, ?_⟩)
    exact Ev.yes rfl (Ev.ret ⟨_, a, rfl, ⟨_, _, _, [], [], rfl, by decide, by decide, none_in, none_in⟩, hm⟩)
  · (refine Ev.bindC (name_in (by assumption)) ?_; rintro _ _ ⟨s, a, h, hs, hm⟩; cases h; refine ⟨rfl, ?_⟩)
    refine Ev.yes rfl ?_
    refine Ev.bindC (next_ev (k := 3) (by decide) (by decide) hm) ?_
    rintro _ _ ⟨v3, a, h, _, _, hm⟩; cases h; refine ⟨rfl, ?_⟩
    refine Ev.yes rfl ?_
    have hw : IntKind.i64.wrap (2 * v) = 2 * v := wrap_id (by omega) (by omega)
    refine Ev.bindC (mexprs_ev 1 (by decide) (c := IntKind.i64.wrap (2 * v)) (by omega) (by omega) hm) ?_
    rintro _ _ ⟨xs, a, h, hl, hx, hm⟩; cases h; refine ⟨rfl, ?_⟩
    have hl : xs.length ≤ 4 := by omega
    have hx : ∀ e ∈ xs, wfE 4 e := fun e h => wfE_up (by decide) (hx e h)
    refine Ev.yes rfl ?_
    refine Ev.test (fun _ => ?_) fun _ => Ev.test (fun _ => ?_) fun _ => net_j1 hm _ _ _ _ _ hl hx
    all_goals
      refine Ev.test (fun _ => Ev.test (fun _ => ?_) fun _ => net_j1 hm _ _ _ _ _ hl hx) fun _ => net_j1 hm _ _ _ _ _ hl hx
      refine Ev.bindC (next_ev (k := 3) (by decide) (by decide) hm) ?_
      rintro _ _ ⟨v4, a, h, _, _, hm⟩; cases h
      exact ⟨rfl, Ev.yes rfl (net_j1 hm _ _ _ _ _ hl hx)⟩
theorem port_j1 (hm : Mk b a) (g : Bool) (x : D) (ds : List D) (h : wfN x) : Ev (fun n => ref09_MakePort_j1 n g b a (x :: ds)) (fun r => ∃ x a', r = (true, [x, .lst 1 b, .int .i64 a']) ∧ wfN x ∧ Mk b a') := by
  refine evDf (fun n => ref09_MakePort_j1_def n _ _ _ _) ?_
  obtain ⟨nm, ty, sg, es, fs, rfl, h1, h2, h3, h4⟩ := h
  cases g with
  | false => exact Ev.no rfl (Ev.ret ⟨_, a, rfl, ⟨nm, ty, sg, es, fs, rfl, h1, h2, h3, h4⟩, hm⟩)
  | true =>
    refine Ev.yes rfl ?_
    (refine Ev.bindC (mexprs_ev 1 (by decide) (c := 1) (by decide) (by decide) (by assumption)) ?_; rintro _ _ ⟨xs, a, h, hl, hx, hm⟩; cases h; refine ⟨rfl, ?_⟩)
    exact Ev.yes rfl (Ev.ret ⟨_, a, rfl, ⟨nm, ty, sg, es, xs, rfl, h1, by rw [‹xs.length = _›]; decide, h3, fun e h => wfE_up (by decide) (hx e h)⟩, hm⟩)
theorem makePort_ev (hm : Mk b a) : Ev (fun n => ref09_MakePort n (.lst 1 b) (.int .i64 a)) (fun r => ∃ x a', r = (true, [x, .lst 1 b, .int .i64 a']) ∧ wfN x ∧ Mk b a') := by
  refine Ev.eq (fun n => ref09_MakePort_eq n b a) ?_
  refine Ev.bindC (next_ev (k := 3) (by decide) (by decide) hm) ?_
  rintro _ _ ⟨v, a, h, hv0, hv1, hm⟩; cases h; refine ⟨rfl, ?_⟩
  have hv : v = 0 ∨ v = 1 ∨ v = 2 := by omega
  refine Ev.yes rfl ?_
  rcases hv with rfl | rfl | rfl
  all_goals
    refine Ev.yes rfl (Ev.yes rfl (Ev.bindC (makeNet_ev _ (.inl rfl) hm) ?_))
    rintro _ _ ⟨x, a, h, hx, hm⟩; cases h; refine ⟨rfl, ?_⟩
    have hx0 := hx
    obtain ⟨nm1, ty1, sg1, es1, fs1, rfl, _⟩ := hx
    refine Ev.yes rfl (Ev.test (fun _ => ?_) fun _ => port_j1 hm _ _ _ hx0)
    refine Ev.bindC (next_ev (k := 3) (by decide) (by decide) hm) ?_
    rintro _ _ ⟨v4, a, h, _, _, hm⟩; cases h
    exact ⟨rfl, Ev.yes rfl (port_j1 hm _ _ _ hx0)⟩
theorem conns_mk : ∀ (c : Nat) (zs : List D) (a : Int), zs.length + c ≤ 2 → (∀ x ∈ zs, wfC x) → Mk b a → Ev (fun n => ref09_MakeConns_L0 n (.int .i64 (c : Int)) (.lst 1 b) (.int .i64 a) (.lst 2 zs))
    fun r => ∃ (q : Int) (zs' : List D) (a' : Int), r = (false, [.int .i64 q, .lst 1 b, .int .i64 a', .lst 2 zs']) ∧ zs'.length ≤ 2 ∧ (∀ x ∈ zs', wfC x) ∧ Mk b a' := by
  intro c
  induction c with
  | zero =>
    intro zs a hl hz hm
    exact Ev.eq (fun n => ref09_MakeConns_L0_eq n _ _ _ _) (Ev.no rfl (Ev.ret ⟨_, zs, a, rfl, by omega, hz, hm⟩))
  | succ c ih =>
    intro zs a hl hz hm
    have hw : IntKind.i64.wrap (((c + 1 : Nat) : Int) - 1) = (c : Int) := by rw [wrap_id (by omega) (by omega)]; omega
    refine Ev.eq (fun n => ref09_MakeConns_L0_eq n _ _ _ _) (Ev.yes (decide_eq_true (by omega)) ?_)
    rw [hw]
    (refine Ev.bindC (name_in (by assumption)) ?_; rintro _ _ ⟨s, a, h, hs, hm⟩; cases h; refine ⟨rfl, ?_⟩)
    refine Ev.yes rfl ?_
    (refine Ev.bindC (next_ev (by decide) (by decide) (by assumption)) ?_; rintro _ _ ⟨v, a, h, hv0, hv1, hm⟩; cases h; refine ⟨rfl, ?_⟩)
    refine Ev.yes rfl ?_
    refine Ev.bindC (mexprs_ev 1 (by decide) (c := v) hv0 (by omega) hm) ?_
    rintro _ _ ⟨xs, a, h, hl2, hx, hm⟩; cases h; refine ⟨rfl, ?_⟩
    refine Ev.yes rfl (Ev.yes (Nat.ble_eq_true_of_le (by simp only [maxLst]; omega)) (ih _ a (by simp; omega) (snoc_in hz ⟨_, xs, rfl, by omega, fun e h => wfE_up (by decide) (hx e h)⟩) hm))
theorem makeConns_ev (hm : Mk b a) : Ev (fun n => ref09_MakeConns n (.lst 1 b) (.int .i64 a)) fun r => ∃ zs a', r = (true, [.lst 1 b, .int .i64 a', .lst 2 zs]) ∧ zs.length ≤ 2 ∧ (∀ x ∈ zs, wfC x) ∧ Mk b a' := by
  refine Ev.eq (fun n => ref09_MakeConns_eq n b a) ?_
  (refine Ev.bindC (next_ev (by decide) (by decide) (by assumption)) ?_; rintro _ _ ⟨v, a, h, hv0, hv1, hm⟩; cases h; refine ⟨rfl, ?_⟩)
  obtain ⟨c, rfl⟩ : ∃ c : Nat, v = (c : Int) := ⟨v.toNat, by omega⟩
  refine Ev.yes rfl (Ev.bindL (conns_mk c [] a (by simp; omega) none_in hm) (fun ds h => by obtain ⟨_, _, _, h, _⟩ := h; cases h) fun ds h => ?_)
  obtain ⟨q, zs, a, h, h1, h2, hm⟩ := h
  cases h
  exact Ev.yes rfl (Ev.ret ⟨zs, a, rfl, h1, h2, hm⟩)
theorem decls_mk (sg : Bool) (es : List D) : ∀ (c : Nat) (zs : List D) (a : Int), zs.length + c ≤ 2 → (∀ x ∈ zs, wfN x) → Mk b a →
    Ev (fun n => ref09_MakeItem_L1 n (.int .i64 (c : Int)) (.lst 1 b) (.int .i64 a) (.int .i64 0) (.str []) (.str []) (.bool false) (.int .i64 7) (.str [102]) (.str []) (.bool sg) (.lst 6 []) (.lst 6 []) (.lst 5 []) (.lst 11 []) (.lst 11 []) (.lst 2 []) (.lst 2 []) (.lst 6 es) (.lst 6 []) (.lst 5 []) (.lst 11 zs) (.lst 11 []) (.lst 2 []) (.lst 2 []))
    fun r => ∃ (q : Int) (zs' : List D) (a' : Int), r = (false, [.int .i64 q, .lst 1 b, .int .i64 a', .int .i64 0, .str [], .str [], .bool false, .int .i64 7, .str [102], .str [], .bool sg, .lst 6 [], .lst 6 [], .lst 5 [], .lst 11 [], .lst 11 [], .lst 2 [], .lst 2 [], .lst 6 es, .lst 6 [], .lst 5 [], .lst 11 zs', .lst 11 [], .lst 2 [], .lst 2 []]) ∧ zs'.length ≤ 2 ∧ (∀ x ∈ zs', wfN x) ∧ Mk b a' := by
  intro c
  induction c with
  | zero =>
    intro zs a hl hz hm
    exact Ev.eq (fun n => ref09_MakeItem_L1_eq n _ _ _ _ _ _ _ _ _ _ _ _ _ _ _ _ _ _ _ _ _ _ _ _ _) (Ev.no rfl (Ev.ret ⟨_, zs, a, rfl, by omega, hz, hm⟩))
  | succ c ih =>
    intro zs a hl hz hm
    have hw : IntKind.i64.wrap (((c + 1 : Nat) : Int) - 1) = (c : Int) := by rw [wrap_id (by omega) (by omega)]; omega
    refine Ev.eq (fun n => ref09_MakeItem_L1_eq n _ _ _ _ _ _ _ _ _ _ _ _ _ _ _ _ _ _ _ _ _ _ _ _ _) (Ev.yes (decide_eq_true (by omega)) ?_)
    rw [hw]
    refine Ev.bindC (next_ev (k := 3) (by decide) (by decide) hm) ?_
    rintro _ _ ⟨v, a, h, hv0, hv1, hm⟩; cases h; refine ⟨rfl, ?_⟩
    have hv : v = 0 ∨ v = 1 ∨ v = 2 := by omega
    refine Ev.yes rfl ?_
    rcases hv with rfl | rfl | rfl
    all_goals
      refine Ev.yes rfl (Ev.yes rfl (Ev.bindC (makeNet_ev _ (.inl rfl) hm) ?_))
      rintro _ _ ⟨x, a, h, hx, hm⟩; cases h; refine ⟨rfl, ?_⟩
      have hx0 := hx
      obtain ⟨nm1, ty1, sg1, es1, fs1, rfl, _⟩ := hx
      refine Ev.yes rfl (Ev.yes (Nat.ble_eq_true_of_le (by simp only [maxLst]; omega)) ?_)
      exact ih _ a (by simp; omega) (snoc_in hz hx0) hm
/-- The maker of items, one less deep. -/
def SubI (d : Nat) (deep : Int) : Prop := ∀ (b : List D) (a c : Int), 0 ≤ c → c ≤ 3 → Mk b a → Ev (fun n => ref09_MakeItems n (.int .i64 (IntKind.i64.wrap (deep - 1))) (.int .i64 c) (.lst 1 b) (.int .i64 a))
  fun r => ∃ zs a', r = (true, [.lst 1 b, .int .i64 a', .lst 11 zs]) ∧ zs.length ≤ c.toNat ∧ (∀ x ∈ zs, wfI d x) ∧ Mk b a'
end
end Go.Proofs.YtalibicpmfbieaaGreatDoor
