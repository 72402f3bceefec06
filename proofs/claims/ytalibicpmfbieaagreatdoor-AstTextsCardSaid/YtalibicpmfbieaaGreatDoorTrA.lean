/- The reference's maker of statements: what it makes is well formed. -/
import Derived.Test.YtalibicpmfbieaaGreatDoorAstNames
namespace Go.Proofs.YtalibicpmfbieaaGreatDoor
open Go.AE
set_option linter.unusedVariables false
set_option linter.unusedSimpArgs false
theorem wfE_mono : ∀ {n : Nat} {x : D}, wfE n x → wfE (n + 1) x
  | 0, _, h => h.elim
  | n + 1, _, ⟨k, t, ar, h1, h2, h3⟩ => ⟨k, t, ar, h1, h2, fun a ha => wfE_mono (h3 a ha)⟩
theorem wfE_up : ∀ {m n : Nat} {x : D}, n ≤ m → wfE n x → wfE m x
  | 0, n, x, hm, h => by
    have : n = 0 := by omega
    subst this; exact h
  | m + 1, n, x, hm, h => by
    by_cases e : n = m + 1
    · subst e; exact h
    · exact wfE_mono (wfE_up (by omega) h)
/-- What is set. -/
def isLeft (x : D) : Prop := ∃ k t ar, x = E k t ar ∧ t ∈ nameT ∧ ((k = 2 ∧ ar.length = 0) ∨ (k = 8 ∧ ar.length = 1) ∨ (k = 9 ∧ ar.length = 2)) ∧ ∀ a ∈ ar, wfE 2 a
theorem isLeft_wf {x : D} (h : isLeft x) : wfE 3 x := by
  obtain ⟨k, t, ar, rfl, ht, hk, ha⟩ := h
  refine ⟨k, t, ar, rfl, ?_, ha⟩
  rcases hk with ⟨rfl, h⟩ | ⟨rfl, h⟩ | ⟨rfl, h⟩
  · exact .inr (.inl ⟨rfl, ht, h⟩)
  · exact .inr (.inr (.inr (.inr (.inr (.inr (.inr (.inl ⟨rfl, ht, h⟩)))))))
  · exact .inr (.inr (.inr (.inr (.inr (.inr (.inr (.inr (.inl ⟨rfl, ht, h⟩))))))))
theorem mexpr_ev (d : Nat) (hd : d ≤ 10) {b : List D} {a : Int} (hm : Mk b a) : Ev (fun n => ref09_MakeExpr n (.int .i64 ((d + 1 : Nat) : Int)) (.lst 1 b) (.int .i64 a)) fun r => ∃ x a', r = (true, [x, .lst 1 b, .int .i64 a']) ∧ wfE (d + 1) x ∧ Mk b a' :=
  makeExpr_ev d _ (by omega) (by omega) (by omega) b a hm
theorem mexprs_ev (d : Nat) (hd : d ≤ 10) {c : Int} (hc : 0 ≤ c) (hc2 : c ≤ 100) {b : List D} {a : Int} (hm : Mk b a) : Ev (fun n => ref09_MakeExprs n (.int .i64 ((d + 1 : Nat) : Int)) (.int .i64 c) (.lst 1 b) (.int .i64 a)) fun r => ∃ xs a', r = (true, [.lst 1 b, .int .i64 a', .lst 6 xs]) ∧ xs.length = c.toNat ∧ (∀ x ∈ xs, wfE (d + 1) x) ∧ Mk b a' :=
  makeExprs_ev (fun b a hm => makeExpr_ev d _ (by omega) (by omega) (by omega) b a hm) hc hc2 hm
theorem left_ev {b : List D} {a : Int} (hm : Mk b a) : Ev (fun n => ref09_left n (.lst 1 b) (.int .i64 a)) fun r => ∃ x a', r = (true, [x, .lst 1 b, .int .i64 a']) ∧ isLeft x ∧ Mk b a' := by
  refine Ev.eq (fun n => ref09_left_eq n b a) ?_
  (refine Ev.bindC (next_ev (by decide) (by decide) (by assumption)) ?_; rintro _ _ ⟨v, a, h, hv0, hv1, hm⟩; cases h; refine ⟨rfl, ?_⟩)
  refine Ev.yes rfl ?_
  refine Ev.yes (and_tt (decide_eq_true hv0) (decide_eq_true hv1)) ?_
  have hv : v = 0 ∨ v = 1 ∨ v = 2 := by omega
  have fin : ∀ (k : Int), (v = 0 ∧ k = 2 ∨ v = 1 ∧ k = 8 ∨ v = 2 ∧ k = 9) → Ev (fun n => AE.bindC (ref09_name n (.lst 1 b) (.int .i64 a)) fun r2 => bif chk ref09_name.osk r2 then
      (AE.bindC (ref09_MakeExprs n (.int .i64 2) (.int .i64 v) (.lst 1 (nth r2 1).l) (.int .i64 (nth r2 2).i)) fun r3 => bif chk ref09_MakeExprs.osk r3 then
        (some (true, [(.agg [(.int .i64 k), (.int .i64 (0 : Int)), (.int .i64 (0 : Int)), (.int .i64 (0 : Int)), (.str (nth r2 0).s), (.lst 6 (nth r3 2).l)]), (.lst 1 (nth r3 0).l), (.int .i64 (nth r3 1).i)])) else none) else none)
      fun r => ∃ x a', r = (true, [x, .lst 1 b, .int .i64 a']) ∧ isLeft x ∧ Mk b a' := by
    intro k hk
    refine Ev.bindC (name_in hm) ?_
    rintro _ _ ⟨s, a, h, hs, hm⟩; cases h; refine ⟨rfl, ?_⟩
    refine Ev.yes rfl ?_
    refine Ev.bindC (mexprs_ev 1 (by decide) (c := v) hv0 (by omega) hm) ?_
    rintro _ _ ⟨xs, a, h, hl, hx, hm⟩; cases h; refine ⟨rfl, ?_⟩
    refine Ev.yes rfl ?_
    refine Ev.ret ⟨E k s xs, a, rfl, ⟨k, s, xs, rfl, hs, ?_, hx⟩, hm⟩
    rcases hk with ⟨e1, e2⟩ | ⟨e1, e2⟩ | ⟨e1, e2⟩
    · exact .inl ⟨e2, by rw [hl, e1]; rfl⟩
    · exact .inr (.inl ⟨e2, by rw [hl, e1]; rfl⟩)
    · exact .inr (.inr ⟨e2, by rw [hl, e1]; rfl⟩)
  rcases hv with rfl | rfl | rfl
  · exact Ev.yes rfl (fin 2 (.inl ⟨rfl, rfl⟩))
  · exact Ev.yes rfl (fin 8 (.inr (.inl ⟨rfl, rfl⟩)))
  · exact Ev.yes rfl (fin 9 (.inr (.inr ⟨rfl, rfl⟩)))

/-! Statements. -/
def S (k : Int) (t : List UInt8) (es bs zs : List D) : D := .agg [.int .i64 k, .str t, .lst 6 es, .lst 5 bs, .lst 6 zs]
/-- An arm: its expressions, its statement. -/
def arm (es : List D) (s : D) : D := .agg (.lst 6 es :: s.cells)
def nullS : D := S 8 [] [] [] []
def openS : Nat → D → Bool
  | n + 1, .agg [.int _ k, _, _, .lst _ bs, _] => bif k == 4 then (match bs with | [_, .agg (.int _ k' :: r)] => k' == 8 || openS n (.agg (.int .i64 k' :: r)) | _ => false) else bif k == 6 then (match bs with | [b] => openS n b | _ => false) else false
  | _, _ => false
def shapeS (n : Nat) (k : Int) (t : List UInt8) (es bs zs : List D) : Prop :=
  (k = 1 ∧ t = [] ∧ es = [] ∧ bs.length ≤ 3 ∧ zs = []) ∨ ((k = 2 ∨ k = 3) ∧ t = [] ∧ (∃ l e, es = [l, e] ∧ isLeft l) ∧ bs = [] ∧ zs = []) ∨
  (k = 4 ∧ t = [] ∧ es.length = 1 ∧ (∃ b c, bs = [b, c] ∧ (c = nullS ∨ openS n b = false)) ∧ zs = []) ∨ (k = 5 ∧ t = [] ∧ es.length = 1 ∧ bs = [] ∧ 1 ≤ zs.length ∧ zs.length ≤ 4) ∨
  (k = 6 ∧ t = [105] ∧ es.length = 3 ∧ bs.length = 1 ∧ zs = []) ∨ (k = 7 ∧ (t = [] ∨ t = [112, 49]) ∧ es.length = 1 ∧ bs = [] ∧ zs = []) ∨ (k = 8 ∧ t = [] ∧ es = [] ∧ bs = [] ∧ zs = [])
def wfS : Nat → D → Prop
  | 0, _ => False
  | n + 1, x => ∃ k t es bs zs, x = S k t es bs zs ∧ (∀ e ∈ es, wfE 4 e) ∧ (∀ b ∈ bs, wfS n b) ∧ (∀ a ∈ zs, ∃ es' s, a = arm es' s ∧ es'.length ≤ 2 ∧ (∀ e ∈ es', wfE 4 e) ∧ wfS n s) ∧ shapeS n k t es bs zs
theorem wfS_null (n : Nat) : wfS (n + 1) nullS := ⟨8, [], [], [], [], rfl, fun _ h => (by cases h), fun _ h => (by cases h), fun _ h => (by cases h), .inr (.inr (.inr (.inr (.inr (.inr ⟨rfl, rfl, rfl, rfl, rfl⟩)))))⟩
theorem wfS_exp {n : Nat} {x : D} (h : wfS n x) : expTy ty_isl6l5l6 x = x ∧ okTy ty_isl6l5l6 x = true := by
  cases n with
  | zero => exact h.elim
  | succ n => obtain ⟨k, t, es, bs, zs, rfl, _⟩ := h; exact ⟨rfl, rfl⟩
theorem open_ev : ∀ (n : Nat) (x : D), wfS n x → Ev (fun m => ref09_open m x) fun r => r = (true, [.bool (openS n x)]) := by
  intro n
  induction n with
  | zero => intro x h; exact h.elim
  | succ n ih =>
    rintro x ⟨k, t, es, bs, zs, rfl, _, hb, _, hsh⟩
    refine Ev.eq (fun m => ref09_open_eq m k t es bs zs) ?_
    rcases hsh with ⟨rfl, _⟩ | ⟨rfl | rfl, _⟩ | ⟨rfl, rfl, h1, ⟨b, c, rfl, _⟩, rfl⟩ | ⟨rfl, _⟩ | ⟨rfl, rfl, h1, h2, rfl⟩ | ⟨rfl, _⟩ | ⟨rfl, _⟩
    · exact Ev.no rfl (Ev.no rfl (Ev.ret rfl))
    · exact Ev.no rfl (Ev.no rfl (Ev.ret rfl))
    · exact Ev.no rfl (Ev.no rfl (Ev.ret rfl))
    · have hc := hb c (by simp)
      have ih := ih c hc
      cases n with
      | zero => exact hc.elim
      | succ n =>
        obtain ⟨k', t', es', bs', zs', rfl, _⟩ := hc
        refine Ev.yes rfl (Ev.yes rfl (Ev.yes rfl (Ev.yes rfl (Ev.test (fun h8 => ?_) fun h8 => ?_))))
        · have h8 : (k' == 8) = true := h8
          refine Ev.ret ?_
          show _ = (true, [D.bool (k' == 8 || openS (n + 1) (S k' t' es' bs' zs'))])
          rw [h8]; rfl
        · have h8 : (k' == 8) = false := h8
          refine Ev.yes rfl (Ev.yes rfl (Ev.bindC ih ?_))
          intro _ ds h; cases h
          refine ⟨rfl, Ev.yes rfl (Ev.ret ?_)⟩
          show _ = (true, [D.bool (k' == 8 || openS (n + 1) (S k' t' es' bs' zs'))])
          rw [h8]; rfl
    · exact Ev.no rfl (Ev.no rfl (Ev.ret rfl))
    · obtain ⟨b, rfl⟩ : ∃ b, bs = [b] := by
        match bs, h2 with
        | [b], _ => exact ⟨b, rfl⟩
      have hb := hb b (by simp)
      obtain ⟨e1, e2⟩ := wfS_exp hb
      refine Ev.no rfl (Ev.yes rfl (Ev.yes rfl ?_))
      have e3 : ([b][0]?.getD D.top) = b := rfl
      rw [e3, e1, e2]
      refine Ev.yes rfl (Ev.bindC (ih b hb) ?_)
      intro _ ds h; cases h
      exact ⟨rfl, Ev.yes rfl (Ev.ret rfl)⟩
    · exact Ev.no rfl (Ev.no rfl (Ev.ret rfl))
    · exact Ev.no rfl (Ev.no rfl (Ev.ret rfl))
theorem evDf {t u : Nat → Out} {P : Bool × List D → Prop} (he : ∀ n, t n = u n) (h : Ev u P) : Ev t P := by
  have : t = u := funext he
  rw [this]; exact h
section
variable {d : Nat} {deep : Int} {b : List D} {a v : Int}
/-- The maker of statements, one less deep. -/
def SubS (d : Nat) (deep : Int) : Prop := ∀ b a, Mk b a → Ev (fun n => ref09_MakeStmt n (.int .i64 (IntKind.i64.wrap (deep - 1))) (.lst 1 b) (.int .i64 a)) (fun r => ∃ x a', r = (true, [x, .lst 1 b, .int .i64 a']) ∧ wfS (d) x ∧ Mk b a')
theorem block_ev (hS : SubS d deep) : ∀ (c : Nat) (bs : List D) (a : Int), c ≤ 3 → bs.length + c ≤ 3 → (∀ x ∈ bs, wfS d x) → Mk b a →
    Ev (fun n => ref09_MakeStmt_L1 n (.int .i64 deep) (.int .i64 (c : Int)) (.lst 1 b) (.int .i64 a) (.int .i64 0) (.str []) (.int .i64 1) (.str []) (.lst 6 []) (.lst 5 []) (.lst 6 []) (.lst 6 []) (.lst 5 bs) (.lst 6 []))
      fun r => ∃ (q : Int) (bs' : List D) (a' : Int), r = (false, [.int .i64 deep, .int .i64 q, .lst 1 b, .int .i64 a', .int .i64 0, .str [], .int .i64 1, .str [], .lst 6 [], .lst 5 [], .lst 6 [], .lst 6 [], .lst 5 bs', .lst 6 []]) ∧ bs'.length ≤ 3 ∧ (∀ x ∈ bs', wfS d x) ∧ Mk b a' := by
  intro c
  induction c with
  | zero =>
    intro bs a hc hl hb hm
    exact Ev.eq (fun n => ref09_MakeStmt_L1_eq n _ _ _ _ _ _ _ _ _ _ _ _ _ _) (Ev.no rfl (Ev.ret ⟨_, bs, a, rfl, by omega, hb, hm⟩))
  | succ c ih =>
    intro bs a hc hl hb hm
    have hw : IntKind.i64.wrap (((c + 1 : Nat) : Int) - 1) = (c : Int) := by rw [wrap_id (by omega) (by omega)]; omega
    refine Ev.eq (fun n => ref09_MakeStmt_L1_eq n _ _ _ _ _ _ _ _ _ _ _ _ _ _) (Ev.yes (decide_eq_true (by omega)) (Ev.bindC (hS b a hm) ?_))
    rintro _ _ ⟨x, a', h, hx, hm⟩
    cases h
    have hx0 := hx
    cases d with
    | zero => exact hx.elim
    | succ d =>
      obtain ⟨k, t, es, bs', zs, rfl, _⟩ := hx
      rw [hw]
      refine ⟨rfl, Ev.yes rfl (Ev.yes (Nat.ble_eq_true_of_le (by simp only [maxLst]; omega)) (ih (bs ++ [S k t es bs' zs]) a' (by omega) (by simp; omega) (fun y hy => ?_) hm))⟩
      rcases List.mem_append.1 hy with hy | hy
      · exact hb y hy
      · rw [List.mem_singleton.1 hy]; exact hx0
/-- An arm of a case. -/
def wfA (d : Nat) (x : D) : Prop := ∃ es' s, x = arm es' s ∧ es'.length ≤ 2 ∧ (∀ e ∈ es', wfE 4 e) ∧ wfS d s
theorem arms_ev (hS : SubS d deep) (es : List D) : ∀ (c : Nat) (zs : List D) (a : Int), c ≤ 3 → zs.length + c ≤ 3 → (∀ x ∈ zs, wfA d x) → Mk b a →
    Ev (fun n => ref09_MakeStmt_L3 n (.int .i64 deep) (.int .i64 (c : Int)) (.lst 1 b) (.int .i64 a) (.int .i64 0) (.str []) (.int .i64 5) (.str []) (.lst 6 []) (.lst 5 []) (.lst 6 []) (.lst 6 es) (.lst 5 []) (.lst 6 zs))
      fun r => ∃ (q : Int) (zs' : List D) (a' : Int), r = (false, [.int .i64 deep, .int .i64 q, .lst 1 b, .int .i64 a', .int .i64 0, .str [], .int .i64 5, .str [], .lst 6 [], .lst 5 [], .lst 6 [], .lst 6 es, .lst 5 [], .lst 6 zs']) ∧ zs'.length = zs.length + c ∧ (∀ x ∈ zs', wfA d x) ∧ Mk b a' := by
  intro c
  induction c with
  | zero =>
    intro zs a hc hl hb hm
    exact Ev.eq (fun n => ref09_MakeStmt_L3_eq n _ _ _ _ _ _ _ _ _ _ _ _ _ _) (Ev.no rfl (Ev.ret ⟨_, zs, a, rfl, rfl, hb, hm⟩))
  | succ c ih =>
    intro zs a hc hl hb hm
    have hw : IntKind.i64.wrap (((c + 1 : Nat) : Int) - 1) = (c : Int) := by rw [wrap_id (by omega) (by omega)]; omega
    refine Ev.eq (fun n => ref09_MakeStmt_L3_eq n _ _ _ _ _ _ _ _ _ _ _ _ _ _) (Ev.yes (decide_eq_true (by omega)) ?_)
    rw [hw]
    (refine Ev.bindC (next_ev (by decide) (by decide) (by assumption)) ?_; rintro _ _ ⟨v, a, h, hv0, hv1, hm⟩; cases h; refine ⟨rfl, ?_⟩)
    refine Ev.yes rfl ?_
    have e2 : IntKind.i64.wrap (1 + v) = 1 + v := wrap_id (by omega) (by omega)
    refine Ev.bindC (mexprs_ev 0 (by decide) (c := IntKind.i64.wrap (1 + v)) (by rw [e2]; omega) (by rw [e2]; omega) hm) ?_
    rintro _ _ ⟨xs, a, h, hl2, hxs, hm⟩; cases h; refine ⟨rfl, ?_⟩
    rw [e2] at hl2
    refine Ev.yes rfl ?_
    refine Ev.bindC (hS b a hm) ?_
    rintro _ _ ⟨x, a', h, hx, hm⟩
    cases h
    have hx0 := hx
    cases d with
    | zero => exact hx.elim
    | succ d =>
      obtain ⟨k, t, es', bs', zs', rfl, _⟩ := hx
      refine ⟨rfl, Ev.yes rfl (Ev.yes (Nat.ble_eq_true_of_le (by simp only [maxLst]; omega)) ((ih (zs ++ [arm xs (S k t es' bs' zs')]) a' (by omega) (by simp; omega) (fun y hy => ?_) hm).mono fun r hr => ?_))⟩
      · rcases List.mem_append.1 hy with hy | hy
        · exact hb y hy
        · rw [List.mem_singleton.1 hy]
          exact ⟨xs, _, rfl, by omega, fun e he => wfE_up (by decide) (hxs e he), hx0⟩
      · obtain ⟨q, as2, a2, h1, h2, h3⟩ := hr
        exact ⟨q, as2, a2, h1, by rw [h2]; simp; omega, h3⟩
theorem set_ev (hd : d = d) (k : Int) (hk : k = 2 ∨ k = 3) (hm : Mk b a) :
    Ev (fun n => AE.bindC (ref09_left n (.lst 1 b) (.int .i64 a)) fun r2 => bif chk ref09_left.osk r2 then (AE.bindC (ref09_MakeExpr n (.int .i64 3) (.lst 1 (nth r2 1).l) (.int .i64 (nth r2 2).i)) fun r3 => bif chk ref09_MakeExpr.osk r3 then
      (some (true, [(.agg [.int .i64 k, (.str ([] : List UInt8)), (.lst 6 ([(expTy ty_iiiisl6 (nth r2 0)), (expTy ty_iiiisl6 (nth r3 0))] : List D)), (.lst 5 ([] : List D)), (.lst 6 ([] : List D))]), (.lst 1 (nth r3 1).l), .int .i64 (nth r3 2).i])) else none) else none) (fun r => ∃ x a', r = (true, [x, .lst 1 b, .int .i64 a']) ∧ wfS (d + 1) x ∧ Mk b a') := by
  refine Ev.bindC (left_ev hm) ?_
  rintro _ _ ⟨l, a, h, hl, hm⟩; cases h
  have hl0 := hl
  obtain ⟨k1, t1, ar1, rfl, _⟩ := hl
  refine ⟨rfl, Ev.yes rfl (Ev.bindC (mexpr_ev 2 (by decide) hm) ?_)⟩
  rintro _ _ ⟨e, a, h, he, hm⟩; cases h
  have he0 := he
  obtain ⟨k2, t2, ar2, rfl, _⟩ := he
  refine ⟨rfl, Ev.yes rfl (Ev.ret ⟨S k [] [E k1 t1 ar1, E k2 t2 ar2] [] [], a, rfl, ⟨k, [], _, [], [], rfl, fun x hx => ?_, fun _ h => (by cases h), fun _ h => (by cases h), .inr (.inl ⟨hk, rfl, ⟨_, _, rfl, hl0⟩, rfl, rfl⟩)⟩, hm⟩)⟩
  rcases List.mem_cons.1 hx with rfl | hx
  · exact wfE_up (by decide) (isLeft_wf hl0)
  · rw [List.mem_singleton.1 hx]; exact wfE_up (by decide) he0
/-- .. of a kind. -/
theorem stmtKind_ev (hS : 2 ≤ deep → SubS d deep) (hd : 2 ≤ deep → 1 ≤ d) (hm : Mk b a) {k : Int} (h0 : 0 ≤ k) (h1 : k ≤ 10) (h2 : 3 < k → 2 ≤ deep) :
    Ev (fun n => ref09_MakeStmt_j1 n k [.int .i64 v, .lst 1 b, .int .i64 a] deep) (fun r => ∃ x a', r = (true, [x, .lst 1 b, .int .i64 a']) ∧ wfS (d + 1) x ∧ Mk b a') := by
  have setT : Ev (fun n => ref09_MakeStmt_j2 n true [.int .i64 v, .lst 1 b, .int .i64 a] k deep) (fun r => ∃ x a', r = (true, [x, .lst 1 b, .int .i64 a']) ∧ wfS (d + 1) x ∧ Mk b a') :=
    evDf (fun n => ref09_MakeStmt_j2_def n _ _ _ _) (Ev.yes rfl (set_ev rfl 2 (.inl rfl) hm))
  have blockT : 2 ≤ deep → Ev (fun n => ref09_MakeStmt_j3 n true [.int .i64 v, .lst 1 b, .int .i64 a] deep k) (fun r => ∃ x a', r = (true, [x, .lst 1 b, .int .i64 a']) ∧ wfS (d + 1) x ∧ Mk b a') := by
    intro h
    refine evDf (fun n => ref09_MakeStmt_j3_def n _ _ _ _) (Ev.yes rfl ?_)
    refine Ev.bindC (next_ev (k := 4) (by decide) (by decide) hm) ?_
    rintro _ _ ⟨v, a, h, hv0, hv1, hm⟩; cases h
    obtain ⟨c, rfl⟩ : ∃ c : Nat, v = (c : Int) := ⟨v.toNat, by omega⟩
    refine ⟨rfl, Ev.yes rfl (Ev.bindL (block_ev (hS (by assumption)) c [] a (by omega) (by simp; omega) (fun _ h => by cases h) hm) (fun ds h => by obtain ⟨_, _, _, h, _⟩ := h; cases h) fun ds h => ?_)⟩
    obtain ⟨q, bs, a, h, hl, hb, hm⟩ := h
    cases h
    exact Ev.yes rfl (Ev.ret ⟨S 1 [] [] bs [], a, rfl, ⟨1, [], [], bs, [], rfl, fun _ h => (by cases h), hb, fun _ h => (by cases h), .inl ⟨rfl, rfl, rfl, hl, rfl⟩⟩, hm⟩)
  have ifT : 2 ≤ deep → Ev (fun n => ref09_MakeStmt_j4 n true [.int .i64 v, .lst 1 b, .int .i64 a] deep k) (fun r => ∃ x a', r = (true, [x, .lst 1 b, .int .i64 a']) ∧ wfS (d + 1) x ∧ Mk b a') := by
    intro hdeep
    have hd1 := hd hdeep
    refine evDf (fun n => ref09_MakeStmt_j4_def n _ _ _ _) (Ev.yes rfl ?_)
    refine Ev.bindC (mexprs_ev 1 (by decide) (c := 1) (by decide) (by decide) hm) ?_
    rintro _ _ ⟨xs, a, h, hl, hx, hm⟩; cases h
    refine ⟨rfl, Ev.yes rfl (Ev.bindC (hS hdeep b a hm) ?_)⟩
    rintro _ _ ⟨s1, a, h, hs1, hm⟩; cases h
    have hs10 := hs1
    obtain ⟨d', rfl⟩ : ∃ d', d = d' + 1 := ⟨d - 1, by omega⟩
    obtain ⟨k1, t1, es1, bs1, as1, rfl, _⟩ := hs1
    refine ⟨rfl, Ev.yes rfl ?_⟩
    have fin : ∀ (c : D) (a : Int), (c = nullS ∨ openS (d' + 1) (S k1 t1 es1 bs1 as1) = false) → wfS (d' + 1) c → Mk b a → ∃ x a', (true, [S 4 [] xs [S k1 t1 es1 bs1 as1, c] [], D.lst 1 b, D.int .i64 a]) = (true, [x, .lst 1 b, .int .i64 a']) ∧ wfS (d' + 1 + 1) x ∧ Mk b a' := by
      intro c a hc hw hm
      refine ⟨_, a, rfl, ⟨4, [], xs, [S k1 t1 es1 bs1 as1, c], [], rfl, fun e he => wfE_up (by decide) (hx e he), fun y hy => ?_, fun _ h => (by cases h), .inr (.inr (.inl ⟨rfl, rfl, hl, ⟨_, _, rfl, hc⟩, rfl⟩))⟩, hm⟩
      rcases List.mem_cons.1 hy with rfl | hy
      · exact hs10
      · rw [List.mem_singleton.1 hy]; exact hw
    refine Ev.bindC (next_ev (k := 2) (by decide) (by decide) hm) ?_
    rintro _ _ ⟨v2, a, h, hv0, hv1, hm⟩; cases h
    refine ⟨rfl, Ev.yes rfl (Ev.test (fun _ => ?_) fun _ => Ev.ret (fin nullS a (.inl rfl) (wfS_null d') hm))⟩
    refine Ev.bindC (open_ev (d' + 1) _ hs10) ?_
    intro _ ds h; cases h
    refine ⟨rfl, Ev.yes rfl (Ev.test (fun ho => ?_) fun _ => Ev.ret (fin nullS a (.inl rfl) (wfS_null d') hm))⟩
    have ho : (!(openS (d' + 1) (S k1 t1 es1 bs1 as1))) = true := ho
    refine Ev.bindC (hS hdeep b a hm) ?_
    rintro _ _ ⟨s2, a, h, hs2, hm⟩; cases h
    have hs20 := hs2
    obtain ⟨k2, t2, es2, bs2, as2, rfl, _⟩ := hs2
    exact ⟨rfl, Ev.yes rfl (Ev.ret (fin _ a (.inr (by simpa using ho)) hs20 hm))⟩
  have hm' := hm
  have hk : k = 0 ∨ k = 1 ∨ k = 2 ∨ k = 3 ∨ k = 4 ∨ k = 5 ∨ k = 6 ∨ k = 7 ∨ k = 8 ∨ k = 9 ∨ k = 10 := by omega
  refine evDf (fun n => ref09_MakeStmt_j1_def n _ _ _) ?_
  rcases hk with rfl | rfl | rfl | rfl | rfl | rfl | rfl | rfl | rfl | rfl | rfl
  · exact Ev.yes rfl setT
  · exact Ev.no rfl setT
  · exact Ev.no rfl (evDf (fun n => ref09_MakeStmt_j2_def n _ _ _ _) (Ev.no rfl (Ev.yes rfl (set_ev rfl 3 (.inr rfl) hm))))
  · refine Ev.no rfl (evDf (fun n => ref09_MakeStmt_j2_def n _ _ _ _) (Ev.no rfl (Ev.no rfl (Ev.yes rfl ?_))))
    refine Ev.bindC (next_ev (k := 2) (by decide) (by decide) hm) ?_
    rintro _ _ ⟨w, a, h, hv0, hv1, hm⟩; cases h
    have fin : ∀ t : List UInt8, (t = [] ∨ t = [112, 49]) → Ev (fun n => AE.bindC (ref09_MakeExprs n (.int .i64 3) (.int .i64 1) (.lst 1 b) (.int .i64 a)) fun r3 => bif chk ref09_MakeExprs.osk r3 then
        (some (true, [(.agg [.int .i64 7, (.str t), (.lst 6 (nth r3 2).l), (.lst 5 ([] : List D)), (.lst 6 ([] : List D))]), (.lst 1 (nth r3 0).l), .int .i64 (nth r3 1).i])) else none) (fun r => ∃ x a', r = (true, [x, .lst 1 b, .int .i64 a']) ∧ wfS (d + 1) x ∧ Mk b a') := by
      intro t ht
      refine Ev.bindC (mexprs_ev 2 (by decide) (c := 1) (by decide) (by decide) hm) ?_
      rintro _ _ ⟨xs, a, h, hl, hx, hm⟩; cases h
      exact ⟨rfl, Ev.yes rfl (Ev.ret ⟨S 7 t xs [] [], a, rfl, ⟨7, t, xs, [], [], rfl, fun e he => wfE_up (by decide) (hx e he), fun _ h => (by cases h), fun _ h => (by cases h), .inr (.inr (.inr (.inr (.inr (.inl ⟨rfl, ht, hl, rfl, rfl⟩)))))⟩, hm⟩)⟩
    have hw : w = 0 ∨ w = 1 := by omega
    rcases hw with rfl | rfl
    · exact ⟨rfl, Ev.yes rfl (Ev.yes rfl (Ev.yes rfl (fin [] (.inl rfl))))⟩
    · exact ⟨rfl, Ev.yes rfl (Ev.yes rfl (Ev.yes rfl (fin [112, 49] (.inr rfl))))⟩
  · exact Ev.no rfl (evDf (fun n => ref09_MakeStmt_j2_def n _ _ _ _) (Ev.no rfl (Ev.no rfl (Ev.no rfl (Ev.yes rfl (blockT (h2 (by decide))))))))
  · exact Ev.no rfl (evDf (fun n => ref09_MakeStmt_j2_def n _ _ _ _) (Ev.no rfl (Ev.no rfl (Ev.no rfl (Ev.no rfl (blockT (h2 (by decide))))))))
  · exact Ev.no rfl (evDf (fun n => ref09_MakeStmt_j2_def n _ _ _ _) (Ev.no rfl (Ev.no rfl (Ev.no rfl (Ev.no rfl (evDf (fun n => ref09_MakeStmt_j3_def n _ _ _ _) (Ev.no rfl (Ev.yes rfl (ifT (h2 (by decide)))))))))))
  · exact Ev.no rfl (evDf (fun n => ref09_MakeStmt_j2_def n _ _ _ _) (Ev.no rfl (Ev.no rfl (Ev.no rfl (Ev.no rfl (evDf (fun n => ref09_MakeStmt_j3_def n _ _ _ _) (Ev.no rfl (Ev.no rfl (ifT (h2 (by decide)))))))))))
  · refine Ev.no rfl (evDf (fun n => ref09_MakeStmt_j2_def n _ _ _ _) (Ev.no rfl (Ev.no rfl (Ev.no rfl (Ev.no rfl (evDf (fun n => ref09_MakeStmt_j3_def n _ _ _ _) (Ev.no rfl (Ev.no rfl (evDf (fun n => ref09_MakeStmt_j4_def n _ _ _ _) (Ev.no rfl (Ev.yes rfl ?_)))))))))))
    have hdeep := h2 (by decide)
    refine Ev.bindC (mexprs_ev 1 (by decide) (c := 1) (by decide) (by decide) hm) ?_
    rintro _ _ ⟨xs, a, h, hl, hx, hm⟩; cases h
    refine ⟨rfl, Ev.yes rfl (Ev.bindC (next_ev (k := 3) (by decide) (by decide) hm) ?_)⟩
    rintro _ _ ⟨w, a, h, hv0, hv1, hm⟩; cases h
    obtain ⟨c, rfl⟩ : ∃ c : Nat, w = (c : Int) := ⟨w.toNat, by omega⟩
    have hw : IntKind.i64.wrap (1 + (c : Int)) = ((c + 1 : Nat) : Int) := by rw [wrap_id (by omega) (by omega)]; omega
    have L := arms_ev (hS hdeep) (b := b) xs (c + 1) [] a (by omega) (by simp; omega) (fun _ h => by cases h) hm
    rw [← hw] at L
    refine ⟨rfl, Ev.yes rfl (Ev.bindL L (fun ds h => by obtain ⟨_, _, _, h, _⟩ := h; cases h) fun ds h => ?_)⟩
    obtain ⟨q, zs, a, h, hla, hb, hm⟩ := h
    cases h
    refine Ev.yes rfl (Ev.bindC (next_ev (k := 2) (by decide) (by decide) hm) ?_)
    rintro _ _ ⟨w, a, h, hv0, hv1, hm⟩; cases h
    have la : zs.length = c + 1 := by rw [hla]; simp
    refine ⟨rfl, Ev.yes rfl (Ev.test (fun _ => ?_) fun _ => Ev.ret ⟨S 5 [] xs [] zs, a, rfl, ⟨5, [], xs, [], zs, rfl, fun e he => wfE_up (by decide) (hx e he), fun _ h => (by cases h), hb, .inr (.inr (.inr (.inl ⟨rfl, rfl, hl, rfl, by omega, by omega⟩)))⟩, hm⟩)⟩
    refine Ev.bindC (hS hdeep b a hm) ?_
    rintro _ _ ⟨s2, a, h, hs2, hm⟩; cases h
    have hs20 := hs2
    have hd1 := hd hdeep
    obtain ⟨d', rfl⟩ : ∃ d', d = d' + 1 := ⟨d - 1, by omega⟩
    obtain ⟨k2, t2, es2, bs2, as2, rfl, _⟩ := hs2
    refine ⟨rfl, Ev.yes rfl (Ev.yes (Nat.ble_eq_true_of_le (by show zs.length + 1 ≤ maxLst; simp only [maxLst]; omega)) (Ev.ret ⟨S 5 [] xs [] (zs ++ [arm [] (S k2 t2 es2 bs2 as2)]), a, rfl, ⟨5, [], xs, [], _, rfl, fun e he => wfE_up (by decide) (hx e he), fun _ h => (by cases h), fun y hy => ?_, .inr (.inr (.inr (.inl ⟨rfl, rfl, hl, rfl, by simp, by simp; omega⟩)))⟩, hm⟩))⟩
    rcases List.mem_append.1 hy with hy | hy
    · exact hb y hy
    · rw [List.mem_singleton.1 hy]
      exact ⟨[], _, rfl, by decide, fun _ h => (by cases h), hs20⟩
  · refine Ev.no rfl (evDf (fun n => ref09_MakeStmt_j2_def n _ _ _ _) (Ev.no rfl (Ev.no rfl (Ev.no rfl (Ev.no rfl (evDf (fun n => ref09_MakeStmt_j3_def n _ _ _ _) (Ev.no rfl (Ev.no rfl (evDf (fun n => ref09_MakeStmt_j4_def n _ _ _ _) (Ev.no rfl (Ev.no rfl (Ev.yes rfl ?_))))))))))))
    have hdeep := h2 (by decide)
    refine Ev.bindC (mexprs_ev 1 (by decide) (c := 3) (by decide) (by decide) hm) ?_
    rintro _ _ ⟨xs, a, h, hl, hx, hm⟩; cases h
    refine ⟨rfl, Ev.yes rfl (Ev.bindC (hS hdeep b a hm) ?_)⟩
    rintro _ _ ⟨s2, a, h, hs2, hm⟩; cases h
    have hs20 := hs2
    have hd1 := hd hdeep
    obtain ⟨d', rfl⟩ : ∃ d', d = d' + 1 := ⟨d - 1, by omega⟩
    obtain ⟨k2, t2, es2, bs2, as2, rfl, _⟩ := hs2
    refine ⟨rfl, Ev.yes rfl (Ev.ret ⟨S 6 [105] xs [S k2 t2 es2 bs2 as2] [], a, rfl, ⟨6, [105], xs, _, [], rfl, fun e he => wfE_up (by decide) (hx e he), fun y hy => ?_, fun _ h => (by cases h), .inr (.inr (.inr (.inr (.inl ⟨rfl, rfl, hl, rfl, rfl⟩))))⟩, hm⟩)⟩
    rw [List.mem_singleton.1 hy]; exact hs20
  · refine Ev.no rfl (evDf (fun n => ref09_MakeStmt_j2_def n _ _ _ _) (Ev.no rfl (Ev.no rfl (Ev.no rfl (Ev.no rfl (evDf (fun n => ref09_MakeStmt_j3_def n _ _ _ _) (Ev.no rfl (Ev.no rfl (evDf (fun n => ref09_MakeStmt_j4_def n _ _ _ _) (Ev.no rfl (Ev.no rfl (Ev.no rfl ?_))))))))))))
    exact Ev.ret ⟨nullS, a, rfl, wfS_null d, hm⟩
end
theorem makeStmt_ev : ∀ (d : Nat) (deep : Int), d ≤ 10 → -1000 ≤ deep → deep ≤ (d : Int) + 1 → ∀ b a, Mk b a → Ev (fun n => ref09_MakeStmt n (.int .i64 deep) (.lst 1 b) (.int .i64 a)) fun r => ∃ x a', r = (true, [x, .lst 1 b, .int .i64 a']) ∧ wfS (d + 1) x ∧ Mk b a' := by
  intro d
  induction d with
  | zero =>
    intro deep hd h0 h1 b a hm
    refine Ev.eq (fun n => ref09_MakeStmt_eq n deep b a) ?_
    (refine Ev.bindC (next_ev (by decide) (by decide) (by assumption)) ?_; rintro _ _ ⟨v, a, h, hv0, hv1, hm⟩; cases h; refine ⟨rfl, ?_⟩)
    refine Ev.yes rfl (Ev.yes (decide_eq_true (by omega)) ?_)
    have e1 : 0 ≤ v.tmod 4 := Int.tmod_nonneg 4 hv0
    have e2 : v.tmod 4 < 4 := Int.tmod_lt_of_pos v (by decide)
    exact stmtKind_ev (fun h => by omega) (fun h => by omega) hm e1 (by show v.tmod 4 ≤ 10; omega) (fun h => by have h : 3 < v.tmod 4 := h; omega)
  | succ d ih =>
    intro deep hd h0 h1 b a hm
    have hS : 2 ≤ deep → SubS (d + 1) deep := by
      intro h b a hm
      rw [wrap_id (by omega) (by omega)]
      exact ih (deep - 1) (by omega) (by omega) (by omega) b a hm
    refine Ev.eq (fun n => ref09_MakeStmt_eq n deep b a) ?_
    (refine Ev.bindC (next_ev (by decide) (by decide) (by assumption)) ?_; rintro _ _ ⟨v, a, h, hv0, hv1, hm⟩; cases h; refine ⟨rfl, ?_⟩)
    refine Ev.yes rfl (Ev.test (fun _ => ?_) fun hc => ?_)
    · have e1 : 0 ≤ v.tmod 4 := Int.tmod_nonneg 4 hv0
      have e2 : v.tmod 4 < 4 := Int.tmod_lt_of_pos v (by decide)
      exact stmtKind_ev hS (fun _ => by omega) hm e1 (by show v.tmod 4 ≤ 10; omega) (fun h => by have h : 3 < v.tmod 4 := h; omega)
    · have hc := of_decide_eq_false hc
      exact stmtKind_ev hS (fun _ => by omega) hm hv0 (by show v ≤ 10; omega) (fun _ => by omega)
end Go.Proofs.YtalibicpmfbieaaGreatDoor
