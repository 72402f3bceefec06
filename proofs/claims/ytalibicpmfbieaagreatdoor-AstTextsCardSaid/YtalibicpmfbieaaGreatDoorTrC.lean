/- The law's own tree of the reference's one: what it is, by relations. -/
import Derived.Test.YtalibicpmfbieaaGreatDoorTrI
namespace Go.Proofs.YtalibicpmfbieaaGreatDoor
open Go.AE
set_option linter.unusedVariables false
set_option linter.unusedSimpArgs false
/-- Two lists, one against one. -/
def Rl (R : D → D → Prop) (xs ys : List D) : Prop := xs.length = ys.length ∧ ∀ (i : Nat) (h : i < xs.length) (h' : i < ys.length), R xs[i] ys[i]
theorem Rl.refl {R : D → D → Prop} {xs : List D} (h : ∀ x ∈ xs, R x x) : Rl R xs xs := ⟨rfl, fun i hi _ => h _ (List.getElem_mem hi)⟩
theorem ownLoop {R : D → D → Prop} {Q : Bool × List D → Prop} {xs : List D} {T : Int → List D → Nat → Out} (hl : xs.length ≤ 1000)
    (step : ∀ (j : Nat) (acc : List D) (hj : j < xs.length), acc.length = j → (∀ y, R xs[j] y → Ev (T (IntKind.i64.wrap ((j : Int) + 1)) (acc ++ [y])) Q) → Ev (T (j : Int) acc) Q)
    (fin : ∀ acc, Rl R xs acc → Ev (T (xs.length : Int) acc) Q) : Ev (T 0 []) Q := by
  have aux : ∀ (m j : Nat) (acc : List D), xs.length - j = m → j ≤ xs.length → acc.length = j → (∀ (i : Nat) (h : i < xs.length) (h' : i < acc.length), R xs[i] acc[i]) → Ev (T (j : Int) acc) Q := by
    intro m
    induction m with
    | zero =>
      intro j acc hm hj ha hr
      have : j = xs.length := by omega
      subst this
      exact fin acc ⟨ha.symm, hr⟩
    | succ m ih =>
      intro j acc hm hj ha hr
      refine step j acc (by omega) ha fun y hy => ?_
      rw [wrap_succ (by omega)]
      refine ih (j + 1) _ (by omega) (by omega) (by simp [ha]) fun i h h' => ?_
      by_cases hi : i < acc.length
      · rw [List.getElem_append_left hi]; exact hr i h hi
      · have e : i = j := by simp at h'; omega
        subst e
        rw [List.getElem_append_right (by omega)]
        simpa [ha] using hy
  exact aux xs.length 0 [] rfl (Nat.zero_le _) rfl fun i h h' => absurd h' (by simp)
theorem ownExprs_ev {d : Nat} {xs : List D} (hl : xs.length ≤ 10) (h : ∀ x ∈ xs, wfE d x) : Ev (fun n => law09_OwnExprs n (.lst 6 xs)) fun r => r = (true, [.lst 6 xs]) := by
  refine Ev.eq (fun n => law09_OwnExprs_eq n xs) ?_
  refine Ev.bindL (Q := fun r => ∃ q ys, r = (false, [.lst 6 xs, .int .i64 (xs.length : Int), .int .i64 q, .lst 6 ys]) ∧ Rl (fun x y => y = x) xs ys) ?_ (fun ds h => by obtain ⟨_, _, h, _⟩ := h; cases h) fun ds h => ?_
  · refine ownLoop (xs := xs) (R := fun x y => y = x) (T := fun j acc n => law09_OwnExprs_L0 n (.lst 6 xs) (.int .i64 (xs.length : Int)) (.int .i64 j) (.lst 6 acc)) (by omega) (fun j acc hj ha K => ?_) fun acc hr => ?_
    · refine Ev.eq (fun n => law09_OwnExprs_L0_eq n xs _ _ _) (Ev.yes (decide_eq_true (by omega)) (Ev.yes (in_range hj) ?_))
      have hw := h xs[j] (List.getElem_mem hj)
      obtain ⟨e1, e2⟩ := wfE_exp hw
      rw [get_nat hj, e1, e2]
      refine Ev.yes rfl (Ev.bindC (own_ev d xs[j] hw) ?_)
      intro b ds h; cases h; refine ⟨rfl, ?_⟩
      refine Ev.yes (show chk law09_OwnExpr.osk [xs[j]] = true by have := e2; simp only [chk, law09_OwnExpr.osk, chkSlots, chkV, chkLeaf, chkObs] at this ⊢; simp [show okTy ty_iiiisl6 xs[j] = true from e2]) ?_
      refine Ev.yes (Nat.ble_eq_true_of_le (by simp only [maxLst]; omega)) ?_
      rw [show expTy ty_iiiisl6 (nth [xs[j]] 0) = xs[j] from e1]
      exact K _ rfl
    · exact Ev.eq (fun n => law09_OwnExprs_L0_eq n xs _ _ _) (Ev.no (decide_eq_false (by omega)) (Ev.ret ⟨_, acc, rfl, hr⟩))
  · obtain ⟨q, ys, h, hr⟩ := h
    cases h
    have : ys = xs := List.ext_getElem hr.1.symm fun i h1 h2 => hr.2 i h2 h1
    subst this
    exact Ev.yes rfl (Ev.ret rfl)
/-! The relations: what the law's own tree says of the reference's. -/
def wEs (es : List D) : Prop := es.length ≤ 10 ∧ ∀ e ∈ es, wfE 4 e
def AS (k : Int) (t : List UInt8) (es bs zs : List D) : D := .agg [.int .i64 k, .int .i64 0, .int .i64 0, .int .i64 0, .str t, .lst 6 es, .lst 8 bs, .lst 9 zs]
def AA (es : List D) (k : Int) (t : List UInt8) (fs bs zs : List D) : D := .agg [.lst 6 es, .int .i64 k, .int .i64 0, .int .i64 0, .int .i64 0, .str t, .lst 6 fs, .lst 8 bs, .lst 9 zs]
def OA (R : D → D → Prop) (x y : D) : Prop := ∃ es k t fs bs zs bs' zs', x = arm es (S k t fs bs zs) ∧ y = AA es k t fs bs' zs' ∧ wEs es ∧ R (S k t fs bs zs) (AS k t fs bs' zs')
def OS : Nat → D → D → Prop
  | 0, _, _ => False
  | n + 1, x, y => ∃ k t es bs zs bs' zs', x = S k t es bs zs ∧ y = AS k t es bs' zs' ∧ wEs es ∧ bs.length ≤ 10 ∧ zs.length ≤ 10 ∧ Rl (OS n) bs bs' ∧ Rl (OA (OS n)) zs zs'
theorem shapeS_le {n : Nat} {k : Int} {t : List UInt8} {es bs zs : List D} (h : shapeS n k t es bs zs) : es.length ≤ 10 ∧ bs.length ≤ 10 ∧ zs.length ≤ 10 := by
  rcases h with ⟨_, _, rfl, h, rfl⟩ | ⟨_, _, ⟨l, e, rfl, _⟩, rfl, rfl⟩ | ⟨_, _, h, ⟨b, c, rfl, _⟩, rfl⟩ | ⟨_, _, h, rfl, _, h2⟩ | ⟨_, _, h, h2, rfl⟩ | ⟨_, _, h, rfl, rfl⟩ | ⟨_, _, rfl, rfl, rfl⟩ <;>
    refine ⟨?_, ?_, ?_⟩ <;> first | decide | omega | (simp only [List.length_cons, List.length_nil]; omega)
theorem stmts_own : ∀ (d : Nat) (xs : List D), xs.length ≤ 10 → (∀ x ∈ xs, wfS d x) → Ev (fun n => law09_stmts n (.lst 5 xs)) fun r => ∃ ys, r = (true, [.lst 8 ys]) ∧ Rl (OS d) xs ys := by
  intro d
  induction d with
  | zero =>
    intro xs hl h
    cases xs with
    | cons x xs => exact (h x List.mem_cons_self).elim
    | nil =>
      refine Ev.eq (fun n => law09_stmts_eq n []) (Ev.bindL (Q := fun r => r = (false, [.lst 5 [], .int .i64 0, .int .i64 0, .lst 8 []])) (Ev.eq (fun n => law09_stmts_L0_eq n _ _ _ _) (Ev.no rfl (Ev.ret rfl))) (fun ds h => by cases h) fun ds h => ?_)
      cases h
      exact Ev.yes rfl (Ev.ret ⟨[], rfl, rfl, fun i h => absurd h (by simp)⟩)
  | succ d ih =>
    intro xs hl h
    refine Ev.eq (fun n => law09_stmts_eq n xs) ?_
    refine Ev.bindL (Q := fun r => ∃ q ys, r = (false, [.lst 5 xs, .int .i64 (xs.length : Int), .int .i64 q, .lst 8 ys]) ∧ Rl (OS (d + 1)) xs ys) ?_ (fun ds h => by obtain ⟨_, _, h, _⟩ := h; cases h) fun ds h => ?_
    · refine ownLoop (xs := xs) (R := OS (d + 1)) (T := fun j acc n => law09_stmts_L0 n (.lst 5 xs) (.int .i64 (xs.length : Int)) (.int .i64 j) (.lst 8 acc)) (by omega) (fun j acc hj ha K => ?_) fun acc hr => ?_
      · refine Ev.eq (fun n => law09_stmts_L0_eq n xs _ _ _) (Ev.yes (decide_eq_true (by omega)) (Ev.yes (in_range hj) ?_))
        obtain ⟨k, t, es, bs, zs, e, he, hb, hz, hsh⟩ := h xs[j] (List.getElem_mem hj)
        obtain ⟨le, lb, lz⟩ := shapeS_le hsh
        rw [get_nat hj, e]
        rw [e] at K
        refine Ev.yes rfl (Ev.bindC (ownExprs_ev (xs := es) le he) ?_)
        intro b ds h; cases h; refine ⟨rfl, ?_⟩
        refine Ev.yes rfl (Ev.bindC (ih bs lb hb) ?_)
        rintro b ds ⟨bs', h, hbs⟩; cases h; refine ⟨rfl, ?_⟩
        refine Ev.yes rfl (Ev.bindL (Q := fun r => ∃ q zs', r = (false, [.lst 5 xs, .int .i64 (xs.length : Int), .int .i64 (j : Int), .lst 6 zs, .int .i64 (zs.length : Int), .int .i64 q, .lst 8 acc, .int .i64 k, .int .i64 0, .int .i64 0, .int .i64 0, .str t, .lst 6 es, .lst 8 bs', .lst 9 zs']) ∧ Rl (OA (OS d)) zs zs') ?_ (fun ds h => by obtain ⟨_, _, h, _⟩ := h; cases h) fun ds h => ?_)
        · refine ownLoop (xs := zs) (R := OA (OS d)) (T := fun i acc2 n => law09_stmts_L2 n (.lst 5 xs) (.int .i64 (xs.length : Int)) (.int .i64 (j : Int)) (.lst 6 zs) (.int .i64 (zs.length : Int)) (.int .i64 i) (.lst 8 acc) (.int .i64 k) (.int .i64 0) (.int .i64 0) (.int .i64 0) (.str t) (.lst 6 es) (.lst 8 bs') (.lst 9 acc2)) (by omega) (fun i acc2 hi ha2 K2 => ?_) fun acc2 hr => ?_
          · refine Ev.eq (fun n => law09_stmts_L2_eq n _ _ _ _ _ _ _ _ _ _ _ _ _ _ _) (Ev.yes (decide_eq_true (by omega)) (Ev.yes (in_range hi) ?_))
            obtain ⟨es2, s, e2, l2, he2, hs⟩ := hz zs[i] (List.getElem_mem hi)
            rw [get_nat hi, e2]
            rw [e2] at K2
            cases d with
            | zero => exact hs.elim
            | succ d =>
              have hs0 := hs
              obtain ⟨k3, t3, fs, bs3, zs3, rfl, _⟩ := hs
              refine Ev.yes rfl (Ev.bindC (ownExprs_ev (xs := es2) (by omega) he2) ?_)
              intro b ds h; cases h; refine ⟨rfl, ?_⟩
              refine Ev.yes rfl (Ev.bindC (ih [S k3 t3 fs bs3 zs3] (by simp) (one_in hs0)) ?_)
              rintro b ds ⟨ys, h, hys⟩; cases h; refine ⟨rfl, ?_⟩
              obtain ⟨y, rfl⟩ : ∃ y, ys = [y] := by
                match ys, hys.1 with
                | [y], _ => exact ⟨y, rfl⟩
              have hy := hys.2 0 (by simp) (by simp)
              have hy : OS (d + 1) (S k3 t3 fs bs3 zs3) y := hy
              have hy0 := hy
              obtain ⟨k4, t4, fs4, bs4, zs4, bs5, zs5, e4, rfl, _⟩ := hy
              cases e4
              refine Ev.yes rfl (Ev.yes rfl (Ev.yes rfl (Ev.yes (Nat.ble_eq_true_of_le (by simp only [maxLst]; omega)) ?_)))
              exact K2 (AA es2 k3 t3 fs bs5 zs5) ⟨es2, k3, t3, fs, bs3, zs3, bs5, zs5, rfl, rfl, ⟨by omega, he2⟩, hy0⟩
          · exact Ev.eq (fun n => law09_stmts_L2_eq n _ _ _ _ _ _ _ _ _ _ _ _ _ _ _) (Ev.no (decide_eq_false (by omega)) (Ev.ret ⟨_, acc2, rfl, hr⟩))
        · obtain ⟨q, zs', h, hzs⟩ := h
          cases h
          refine Ev.yes rfl (Ev.yes (Nat.ble_eq_true_of_le (by show acc.length + 1 ≤ maxLst; simp only [maxLst]; omega)) ?_)
          exact K (AS k t es bs' zs') ⟨k, t, es, bs, zs, bs', zs', rfl, rfl, ⟨le, he⟩, lb, lz, hbs, hzs⟩
      · exact Ev.eq (fun n => law09_stmts_L0_eq n xs _ _ _) (Ev.no (decide_eq_false (by omega)) (Ev.ret ⟨_, acc, rfl, hr⟩))
    · obtain ⟨q, ys, h, hr⟩ := h
      cases h
      exact Ev.yes rfl (Ev.ret ⟨ys, rfl, hr⟩)
def AC (nm : List UInt8) (es : List D) : D := .agg [.str nm, .int .i64 0, .int .i64 0, .int .i64 0, .lst 6 es]
def OC (x y : D) : Prop := ∃ nm es, x = .agg [.str nm, .lst 6 es] ∧ y = AC nm es ∧ wEs es
theorem conns_own {xs : List D} (hl : xs.length ≤ 10) (h : ∀ x ∈ xs, wfC x) : Ev (fun n => law09_conns n (.lst 2 xs)) fun r => ∃ ys, r = (true, [.lst 5 ys]) ∧ Rl OC xs ys := by
  refine Ev.eq (fun n => law09_conns_eq n xs) ?_
  refine Ev.bindL (Q := fun r => ∃ q ys, r = (false, [.lst 2 xs, .int .i64 (xs.length : Int), .int .i64 q, .lst 5 ys]) ∧ Rl OC xs ys) ?_ (fun ds h => by obtain ⟨_, _, h, _⟩ := h; cases h) fun ds h => ?_
  · refine ownLoop (xs := xs) (R := OC) (T := fun j acc n => law09_conns_L0 n (.lst 2 xs) (.int .i64 (xs.length : Int)) (.int .i64 j) (.lst 5 acc)) (by omega) (fun j acc hj ha K => ?_) fun acc hr => ?_
    · refine Ev.eq (fun n => law09_conns_L0_eq n xs _ _ _) (Ev.yes (decide_eq_true (by omega)) (Ev.yes (in_range hj) ?_))
      obtain ⟨nm, es, e, le, he⟩ := h xs[j] (List.getElem_mem hj)
      rw [get_nat hj, e]
      rw [e] at K
      refine Ev.yes rfl (Ev.bindC (ownExprs_ev (xs := es) (by omega) he) ?_)
      intro b ds h; cases h; refine ⟨rfl, ?_⟩
      refine Ev.yes rfl (Ev.yes (Nat.ble_eq_true_of_le (by simp only [maxLst]; omega)) ?_)
      exact K (AC nm es) ⟨nm, es, rfl, rfl, by omega, he⟩
    · exact Ev.eq (fun n => law09_conns_L0_eq n xs _ _ _) (Ev.no (decide_eq_false (by omega)) (Ev.ret ⟨_, acc, rfl, hr⟩))
  · obtain ⟨q, ys, h, hr⟩ := h
    cases h
    exact Ev.yes rfl (Ev.ret ⟨ys, rfl, hr⟩)
/-! Items, by depth alone. -/
def gI : Nat → D → Prop
  | 0, _ => False
  | n + 1, x => ∃ k nm ty sg es fs bs its els ps qs, x = I k nm ty sg es fs bs its els ps qs ∧ maxI es fs bs [] els ps qs ∧ its.length ≤ 10 ∧ (∀ e ∈ es, wfE 4 e) ∧ (∀ e ∈ fs, wfE 4 e) ∧ (∀ e ∈ bs, wfS 4 e) ∧
    (∀ i ∈ its, gI n i) ∧ (∀ i ∈ els, gI n i) ∧ (∀ c ∈ ps, wfC c) ∧ ∀ c ∈ qs, wfC c
theorem gI_mono : ∀ {n : Nat} {x : D}, gI n x → gI (n + 1) x := by
  intro n
  induction n with
  | zero => intro x h; exact h.elim
  | succ n ih =>
    rintro x ⟨k, nm, ty, sg, es, fs, bs, its, els, ps, qs, e, h1, h2, h3, h4, h5, h6, h7, h8⟩
    exact ⟨k, nm, ty, sg, es, fs, bs, its, els, ps, qs, e, h1, h2, h3, h4, h5, fun i hi => ih (h6 i hi), fun i hi => ih (h7 i hi), h8⟩
theorem blk_gI {n m : Nat} (h : ∀ x, wfI n x → gI m x) {x : D} (hx : blkI (wfI n) x) : gI (m + 1) x := by
  obtain ⟨t, its, rfl, hl, hi⟩ := hx
  exact ⟨11, t, [], false, [], [], [], its, [], [], [], rfl, ⟨by decide, by decide, by decide, by decide, by decide, by decide, by decide⟩, by omega, none_in, none_in, none_in, fun i h' => h i (hi i h'), none_in, none_in, none_in⟩
theorem wfI_gI : ∀ (n : Nat) (x : D), wfI n x → gI (2 * n) x := by
  intro n
  induction n with
  | zero => intro x h; exact h.elim
  | succ n ih =>
    rintro x ⟨k, nm, ty, sg, es, fs, bs, its, els, ps, qs, e, _, h2, h3, h4, h5, h6, h7, h8⟩
    obtain ⟨m1, m2, m3, m4, m5, m6, m7⟩ := h2
    refine ⟨k, nm, ty, sg, es, fs, bs, its, els, ps, qs, e, ⟨m1, m2, m3, by decide, m5, m6, m7⟩, by omega, h3, h4, h5, fun i hi => ?_, fun i hi => blk_gI ih (h7 i hi), h8⟩
    by_cases hk : k = 7
    · exact gI_mono (ih i ((h6 i hi).1 hk))
    · exact blk_gI ih ((h6 i hi).2 hk)
def AI (k : Int) (nm ty : List UInt8) (sg : Bool) (es fs bs its els ps qs : List D) : D :=
  .agg [.int .i64 k, .int .i64 0, .int .i64 0, .int .i64 0, .str nm, .str ty, .bool sg, .lst 6 es, .lst 6 fs, .lst 8 bs, .lst 14 its, .lst 14 els, .lst 5 ps, .lst 5 qs]
def OI : Nat → D → D → Prop
  | 0, _, _ => False
  | n + 1, x, y => ∃ k nm ty sg es fs bs its els ps qs bs' its' els' ps' qs', x = I k nm ty sg es fs bs its els ps qs ∧ y = AI k nm ty sg es fs bs' its' els' ps' qs' ∧ wEs es ∧ wEs fs ∧ bs.length ≤ 10 ∧ its.length ≤ 10 ∧ els.length ≤ 10 ∧ ps.length ≤ 10 ∧ qs.length ≤ 10 ∧
    Rl (OS 4) bs bs' ∧ Rl (OI n) its its' ∧ Rl (OI n) els els' ∧ Rl OC ps ps' ∧ Rl OC qs qs'
theorem items_own : ∀ (d : Nat) (xs : List D), xs.length ≤ 10 → (∀ x ∈ xs, gI d x) → Ev (fun n => law09_items n (.lst 11 xs)) fun r => ∃ ys, r = (true, [.lst 14 ys]) ∧ Rl (OI d) xs ys := by
  intro d
  induction d with
  | zero =>
    intro xs hl h
    cases xs with
    | cons x xs => exact (h x List.mem_cons_self).elim
    | nil =>
      refine Ev.eq (fun n => law09_items_eq n []) (Ev.bindL (Q := fun r => r = (false, [.lst 11 [], .int .i64 0, .int .i64 0, .lst 14 []])) (Ev.eq (fun n => law09_items_L0_eq n _ _ _ _) (Ev.no rfl (Ev.ret rfl))) (fun ds h => by cases h) fun ds h => ?_)
      cases h
      exact Ev.yes rfl (Ev.ret ⟨[], rfl, rfl, fun i h => absurd h (by simp)⟩)
  | succ d ih =>
    intro xs hl h
    refine Ev.eq (fun n => law09_items_eq n xs) ?_
    refine Ev.bindL (Q := fun r => ∃ q ys, r = (false, [.lst 11 xs, .int .i64 (xs.length : Int), .int .i64 q, .lst 14 ys]) ∧ Rl (OI (d + 1)) xs ys) ?_ (fun ds h => by obtain ⟨_, _, h, _⟩ := h; cases h) fun ds h => ?_
    · refine ownLoop (xs := xs) (R := OI (d + 1)) (T := fun j acc n => law09_items_L0 n (.lst 11 xs) (.int .i64 (xs.length : Int)) (.int .i64 j) (.lst 14 acc)) (by omega) (fun j acc hj ha K => ?_) fun acc hr => ?_
      · refine Ev.eq (fun n => law09_items_L0_eq n xs _ _ _) (Ev.yes (decide_eq_true (by omega)) (Ev.yes (in_range hj) ?_))
        obtain ⟨k, nm, ty, sg, es, fs, bs, its, els, ps, qs, e, ⟨m1, m2, m3, _, m5, m6, m7⟩, m4, h3, h4, h5, h6, h7, h8, h9⟩ := h xs[j] (List.getElem_mem hj)
        rw [get_nat hj, e]
        rw [e] at K
        refine Ev.yes rfl (Ev.bindC (ownExprs_ev (xs := es) (by omega) h3) ?_)
        intro b ds h; cases h; refine ⟨rfl, ?_⟩
        refine Ev.yes rfl (Ev.bindC (ownExprs_ev (xs := fs) (by omega) h4) ?_)
        intro b ds h; cases h; refine ⟨rfl, ?_⟩
        refine Ev.yes rfl (Ev.bindC (stmts_own 4 bs (by omega) h5) ?_)
        rintro b ds ⟨bs', h, hbs⟩; cases h; refine ⟨rfl, ?_⟩
        refine Ev.yes rfl (Ev.bindC (ih its (by omega) h6) ?_)
        rintro b ds ⟨its', h, hits⟩; cases h; refine ⟨rfl, ?_⟩
        refine Ev.yes rfl (Ev.bindC (ih els (by omega) h7) ?_)
        rintro b ds ⟨els', h, hels⟩; cases h; refine ⟨rfl, ?_⟩
        refine Ev.yes rfl (Ev.bindC (conns_own (xs := ps) (by omega) h8) ?_)
        rintro b ds ⟨ps', h, hps⟩; cases h; refine ⟨rfl, ?_⟩
        refine Ev.yes rfl (Ev.bindC (conns_own (xs := qs) (by omega) h9) ?_)
        rintro b ds ⟨qs', h, hqs⟩; cases h; refine ⟨rfl, ?_⟩
        refine Ev.yes rfl (Ev.yes (Nat.ble_eq_true_of_le (by simp only [maxLst]; omega)) ?_)
        exact K (AI k nm ty sg es fs bs' its' els' ps' qs') ⟨k, nm, ty, sg, es, fs, bs, its, els, ps, qs, bs', its', els', ps', qs', rfl, rfl, ⟨by omega, h3⟩, ⟨by omega, h4⟩, by omega, by omega, by omega, by omega, by omega, hbs, hits, hels, hps, hqs⟩
      · exact Ev.eq (fun n => law09_items_L0_eq n xs _ _ _) (Ev.no (decide_eq_false (by omega)) (Ev.ret ⟨_, acc, rfl, hr⟩))
    · obtain ⟨q, ys, h, hr⟩ := h
      cases h
      exact Ev.yes rfl (Ev.ret ⟨ys, rfl, hr⟩)
def AM (nm : List UInt8) (i j l : Int) (ps qs its : List D) : D := .agg [.str nm, .int .i64 i, .int .i64 j, .int .i64 l, .lst 14 ps, .lst 14 qs, .lst 14 its]
def OM (x y : D) : Prop := ∃ nm i j l ps qs its ps' qs' its', x = M nm ps qs its ∧ y = AM nm i j l ps' qs' its' ∧ nm.length ≤ 200 ∧ ps.length ≤ 10 ∧ qs.length ≤ 10 ∧ its.length ≤ 10 ∧ Rl (OI 8) ps ps' ∧ Rl (OI 8) qs qs' ∧ Rl (OI 8) its its'
theorem wfP_gI {x : D} (h : wfP x) : gI 8 x := by
  obtain ⟨nm, ty, es, rfl, hl, he⟩ := h
  exact ⟨2, nm, ty, false, es, [], [], [], [], [], [], rfl, ⟨by omega, by decide, by decide, by decide, by decide, by decide, by decide⟩, by decide, he, none_in, none_in, none_in, none_in, none_in, none_in⟩
theorem own_all {ms : List D} (hl : ms.length ≤ 3) (h : ∀ m ∈ ms, wfM m) : Ev (fun n => law09_Own n (.lst 4 ms)) fun r => ∃ ys, r = (true, [.lst 7 ys]) ∧ Rl OM ms ys := by
  refine Ev.eq (fun n => law09_Own_eq n ms) ?_
  refine Ev.bindL (Q := fun r => ∃ q ys, r = (false, [.lst 4 ms, .int .i64 (ms.length : Int), .int .i64 q, .lst 7 ys]) ∧ Rl OM ms ys) ?_ (fun ds h => by obtain ⟨_, _, h, _⟩ := h; cases h) fun ds h => ?_
  · refine ownLoop (xs := ms) (R := OM) (T := fun j acc n => law09_Own_L0 n (.lst 4 ms) (.int .i64 (ms.length : Int)) (.int .i64 j) (.lst 7 acc)) (by omega) (fun j acc hj ha K => ?_) fun acc hr => ?_
    · refine Ev.eq (fun n => law09_Own_L0_eq n ms _ _ _) (Ev.yes (decide_eq_true (by omega)) (Ev.yes (in_range hj) ?_))
      obtain ⟨nm, ps, qs, its, e, l0, l1, l2, l3, h1, h2, h3⟩ := h ms[j] (List.getElem_mem hj)
      rw [get_nat hj, e]
      rw [e] at K
      refine Ev.yes rfl (Ev.bindC (items_own 8 ps (by omega) fun x hx => wfP_gI (h1 x hx)) ?_)
      rintro b ds ⟨ps', h, hps⟩; cases h; refine ⟨rfl, ?_⟩
      refine Ev.yes rfl (Ev.bindC (items_own 8 qs (by omega) fun x hx => wfI_gI 4 x (wfN_I 3 (h2 x hx))) ?_)
      rintro b ds ⟨qs', h, hqs⟩; cases h; refine ⟨rfl, ?_⟩
      refine Ev.yes rfl (Ev.bindC (items_own 8 its (by omega) fun x hx => wfI_gI 4 x (h3 x hx)) ?_)
      rintro b ds ⟨its', h, hits⟩; cases h; refine ⟨rfl, ?_⟩
      refine Ev.yes rfl (Ev.yes (Nat.ble_eq_true_of_le (by simp only [maxLst]; omega)) ?_)
      exact K (AM nm 0 0 0 ps' qs' its') ⟨nm, 0, 0, 0, ps, qs, its, ps', qs', its', rfl, rfl, by omega, by omega, by omega, by omega, hps, hqs, hits⟩
    · exact Ev.eq (fun n => law09_Own_L0_eq n ms _ _ _) (Ev.no (decide_eq_false (by omega)) (Ev.ret ⟨_, acc, rfl, hr⟩))
  · obtain ⟨q, ys, h, hr⟩ := h
    cases h
    exact Ev.yes rfl (Ev.ret ⟨ys, rfl, hr⟩)
end Go.Proofs.YtalibicpmfbieaaGreatDoor
