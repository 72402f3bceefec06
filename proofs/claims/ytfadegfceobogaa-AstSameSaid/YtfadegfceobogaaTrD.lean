/- Same: the law's own trees are the same as the reference's are. -/
import Derived.Test.YtfadegfceobogaaTrC
namespace Go.Proofs.Ytfadegfceobogaa
open Go.AE
set_option linter.unusedVariables false
set_option linter.unusedSimpArgs false
def F7 (k : Nat) (len : Int) (ys vs : List D) (j : Int) : List D := [.lst k vs, .lst k ys, .int .i64 len, .int .i64 j]
theorem eqList {R : D → D → Prop} {k : Nat} {T : Ty} {F : Nat → D → D → Out} {L : Nat → D → D → D → D → Out} {same : Nat → D → D → Out} {sk osk : Sk}
    (hF : ∀ n a0 a1, F (n + 1) (.lst k a0) (.lst k a1) = (bif ((a0.length : Int) != (a1.length : Int)) then (some (true, [(.bool false)])) else (AE.bindL (L n (.lst k a1) (.lst k a0) (.int .i64 (a0.length : Int)) (.int .i64 (0 : Int))) fun r1 => bif chk sk r1 then (some (true, [(.bool true)])) else none)))
    (hL : ∀ n a0 a1 a2 a3, L (n + 1) (.lst k a0) (.lst k a1) (.int .i64 a2) (.int .i64 a3) = (bif (decide (a3 < a2)) then (bif (decide (0 ≤ a3) && decide (a3 < (a1.length : Int))) then (bif notAny T && okTy T (a1[a3.toNat]?.getD D.top) then (bif (decide (0 ≤ a3) && decide (a3 < (a0.length : Int))) then (bif notAny T && okTy T (a0[a3.toNat]?.getD D.top) then
      (AE.bindC (same n (expTy T (a1[a3.toNat]?.getD D.top)) (expTy T (a0[a3.toNat]?.getD D.top))) fun r1 => bif chk osk r1 then (bif (!(nth r1 0).b) then (some (true, [(.bool false)])) else (L n (.lst k a0) (.lst k a1) (.int .i64 a2) (.int .i64 (IntKind.i64.wrap (a3 + 1))))) else none) else none) else none) else none) else none) else (some (false, [(.lst k a0), (.lst k a1), (.int .i64 a2), (.int .i64 a3)]))))
    (hT : notAny T = true) (hsk : ∀ a0 a1 i j, chk sk [.lst k a0, .lst k a1, .int .i64 i, .int .i64 j] = true) (hosk : ∀ b, chk osk [.bool b] = true)
    (ht : ∀ x y, R x y → expTy T y = y ∧ okTy T y = true)
    (hs : ∀ x y u v, R x y → R u v → Ev (fun n => same n y v) fun r => ∃ b, r = (true, [.bool b]) ∧ (b = true ↔ x = u))
    {xs ys us vs : List D} (h1 : Rl R xs ys) (h2 : Rl R us vs) (hl : xs.length ≤ 1000) :
    Ev (fun n => F n (.lst k ys) (.lst k vs)) fun r => ∃ b, r = (true, [.bool b]) ∧ (b = true ↔ xs = us) := by
  refine Ev.eq (fun n => hF n ys vs) (Ev.test (fun hne => Ev.ret ⟨false, rfl, fun h => (by cases h), fun h => ?_⟩) fun he => ?_)
  · subst h
    have e : ys.length = vs.length := by rw [← h1.1, ← h2.1]
    rw [e] at hne
    simp at hne
  · have he : ys.length = vs.length := by simp at he; omega
    have hu : xs.length = us.length := by rw [h1.1, he, h2.1]
    have aux : ∀ (m j : Nat), xs.length - j = m → j ≤ xs.length → Ev (fun n => L n (.lst k vs) (.lst k ys) (.int .i64 (ys.length : Int)) (.int .i64 (j : Int))) fun r =>
        (r = (true, [.bool false]) ∧ xs.drop j ≠ us.drop j) ∨ (∃ q, r = (false, [.lst k vs, .lst k ys, .int .i64 (ys.length : Int), .int .i64 q]) ∧ xs.drop j = us.drop j) := by
      intro m
      induction m with
      | zero =>
        intro j hm hj
        have hy := h1.1
        refine Ev.eq (fun n => hL n _ _ _ _) (Ev.no (decide_eq_false (by omega)) (Ev.ret (.inr ⟨_, rfl, ?_⟩)))
        rw [List.drop_eq_nil_of_le (by omega), List.drop_eq_nil_of_le (by omega)]
      | succ m ih =>
        intro j hm hj
        have hy := h1.1
        have hv := h2.1
        have j1 : j < xs.length := by omega
        have j2 : j < ys.length := by omega
        have j3 : j < us.length := by omega
        have j4 : j < vs.length := by omega
        have r1 := h1.2 j j1 j2
        have r2 := h2.2 j j3 j4
        refine Ev.eq (fun n => hL n _ _ _ _) (Ev.yes (decide_eq_true (by omega)) (Ev.yes (in_range j2) ?_))
        rw [get_nat j2, get_nat j4, (ht _ _ r1).1, (ht _ _ r2).1]
        refine Ev.yes (and_tt hT (ht _ _ r1).2) (Ev.yes (in_range j4) (Ev.yes (and_tt hT (ht _ _ r2).2) (Ev.bindC (hs _ _ _ _ r1 r2) ?_)))
        rintro b ds ⟨c, h, hc⟩
        cases h
        refine ⟨rfl, Ev.yes (hosk c) (Ev.test (fun hn => Ev.ret (.inl ⟨rfl, ?_⟩)) fun hn => ?_)⟩
        · have hn : (!c) = true := hn
          rw [drop_cons j1, drop_cons j3]
          intro e
          have := hc.2 (List.cons.inj e).1
          rw [this] at hn; cases hn
        · have hn : (!c) = false := hn
          have hc' := hc.1 (by simpa using hn)
          have K := ih (j + 1) (by omega) (by omega)
          rw [← wrap_succ (by omega)] at K
          refine K.mono fun r hr => ?_
          rcases hr with ⟨e1, e2⟩ | ⟨q, e1, e2⟩
          · exact .inl ⟨e1, fun e => e2 (by rw [drop_cons j1, drop_cons j3] at e; exact (List.cons.inj e).2)⟩
          · exact .inr ⟨q, e1, by rw [drop_cons j1, drop_cons j3, hc', e2]⟩
    refine Ev.bindL (aux xs.length 0 rfl (Nat.zero_le _)) (fun ds h => ?_) fun ds h => ?_
    · rcases h with ⟨h, hn⟩ | ⟨q, h, _⟩
      · exact ⟨false, h, fun h => (by cases h), fun h => absurd h (by simpa using hn)⟩
      · cases h
    · rcases h with ⟨h, hn⟩ | ⟨q, h, hn⟩
      · cases h
      · cases h
        exact Ev.yes (hsk _ _ _ _) (Ev.ret ⟨true, rfl, fun _ => by simpa using hn, fun _ => rfl⟩)
theorem not_iff {p : Prop} (h : ¬ p) : (false = true) ↔ p := ⟨fun h => (by cases h), fun x => absurd x h⟩
theorem ne_of_beq {α : Type} [BEq α] [LawfulBEq α] {a b : α} (h : (a == b) = false) : a ≠ b := fun e => by subst e; simp at h
theorem E_inj {k k' : Int} {t t' : List UInt8} {xs xs' : List D} : E k t xs = E k' t' xs' ↔ k = k' ∧ t = t' ∧ xs = xs' := by simp [E]
def RE (d : Nat) (x y : D) : Prop := y = x ∧ wfE d x
theorem RE_list {d : Nat} {xs : List D} (h : ∀ x ∈ xs, wfE d x) : Rl (RE d) xs xs := Rl.refl fun x hx => ⟨rfl, h x hx⟩
theorem exprs_same' {d : Nat} (hs : ∀ x u, wfE d x → wfE d u → Ev (fun n => ast_sameExpr n x u) fun r => ∃ b, r = (true, [.bool b]) ∧ (b = true ↔ x = u)) {xs us : List D} (hl : xs.length ≤ 1000) (h1 : ∀ x ∈ xs, wfE d x) (h2 : ∀ x ∈ us, wfE d x) :
    Ev (fun n => slices_EqualFunc_Expr n (.lst 6 xs) (.lst 6 us)) fun r => ∃ b, r = (true, [.bool b]) ∧ (b = true ↔ xs = us) :=
  eqList (R := RE d) slices_EqualFunc_Expr_eq slices_EqualFunc_Expr_L0_eq rfl (fun _ _ _ _ => rfl) (fun _ => rfl) (fun x y h => by obtain ⟨rfl, h⟩ := h; exact wfE_exp h)
    (fun x y u v h h' => by obtain ⟨rfl, h⟩ := h; obtain ⟨rfl, h'⟩ := h'; exact hs _ _ h h') (RE_list h1) (RE_list h2) hl
theorem expr_same : ∀ (d : Nat) (x u : D), wfE d x → wfE d u → Ev (fun n => ast_sameExpr n x u) fun r => ∃ b, r = (true, [.bool b]) ∧ (b = true ↔ x = u) := by
  intro d
  induction d with
  | zero => intro x u h; exact h.elim
  | succ d ih =>
    rintro x u ⟨k, t, xs, rfl, hs, ha⟩ ⟨k', t', us, rfl, hs', ha'⟩
    have hl := shapeE_le hs
    refine Ev.eq (fun n => ast_sameExpr_eq n k 0 0 0 t xs k' 0 0 0 t' us) ?_
    refine Ev.test (fun e1 => Ev.test (fun e2 => ?_) fun e2 => Ev.ret ⟨false, rfl, not_iff fun e => ne_of_beq e2 (E_inj.1 e).2.1⟩) fun e1 => Ev.ret ⟨false, rfl, not_iff fun e => ne_of_beq e1 (E_inj.1 e).1⟩
    refine Ev.bindC (exprs_same' ih (by omega) ha ha') ?_
    rintro _ _ ⟨b, h, hb⟩; cases h
    exact ⟨rfl, Ev.yes rfl (Ev.ret ⟨b, rfl, by rw [hb, E_inj]; exact ⟨fun h => ⟨eq_of_beq e1, eq_of_beq e2, h⟩, fun h => h.2.2⟩⟩)⟩
theorem exprs_same {xs us : List D} (h1 : wEs xs) (h2 : wEs us) : Ev (fun n => slices_EqualFunc_Expr n (.lst 6 xs) (.lst 6 us)) fun r => ∃ b, r = (true, [.bool b]) ∧ (b = true ↔ xs = us) :=
  exprs_same' (expr_same 4) (by have := h1.1; omega) h1.2 h2.2
theorem S_inj {k k' : Int} {t t' : List UInt8} {es es' bs bs' zs zs' : List D} : S k t es bs zs = S k' t' es' bs' zs' ↔ k = k' ∧ t = t' ∧ es = es' ∧ bs = bs' ∧ zs = zs' := by simp [S]
theorem arm_inj {es es' : List D} {k k' : Int} {t t' : List UInt8} {fs fs' bs bs' zs zs' : List D} : arm es (S k t fs bs zs) = arm es' (S k' t' fs' bs' zs') ↔ es = es' ∧ S k t fs bs zs = S k' t' fs' bs' zs' := by simp [arm, S, D.cells]
theorem OS_typ {d : Nat} {x y : D} (h : OS d x y) : expTy ty_iiiisl6l8l9 y = y ∧ okTy ty_iiiisl6l8l9 y = true := by
  cases d with
  | zero => exact h.elim
  | succ d => obtain ⟨k, t, es, bs, zs, bs', zs', _, rfl, _⟩ := h; exact ⟨rfl, rfl⟩
theorem stmt_same : ∀ (d : Nat) (x y u v : D), OS d x y → OS d u v → Ev (fun n => ast_sameStmt n y v) fun r => ∃ b, r = (true, [.bool b]) ∧ (b = true ↔ x = u) := by
  intro d
  induction d with
  | zero => intro x y u v h; exact h.elim
  | succ d ih =>
    rintro x y u v ⟨k, t, es, bs, zs, bs1, zs1, rfl, rfl, he, lb, lz, hb, hz⟩ ⟨k', t', es', bs', zs', bs1', zs1', rfl, rfl, he', lb', lz', hb', hz'⟩
    refine Ev.eq (fun n => ast_sameStmt_eq n k 0 0 0 t es bs1 zs1 k' 0 0 0 t' es' bs1' zs1') ?_
    refine Ev.test (fun e1 => Ev.test (fun e2 => ?_) fun e2 => Ev.ret ⟨false, rfl, not_iff fun e => ne_of_beq e2 (S_inj.1 e).2.1⟩) fun e1 => Ev.ret ⟨false, rfl, not_iff fun e => ne_of_beq e1 (S_inj.1 e).1⟩
    refine Ev.bindC (exprs_same he he') ?_
    rintro _ _ ⟨b, h, h3⟩; cases h
    refine ⟨rfl, Ev.yes rfl (Ev.test (fun e3 => ?_) fun e3 => Ev.ret ⟨false, rfl, not_iff fun e => by have := h3.2 (S_inj.1 e).2.2.1; subst this; cases e3⟩)⟩
    have e3 := h3.1 e3
    refine Ev.bindC (eqList (R := OS d) slices_EqualFunc_Stmt_eq slices_EqualFunc_Stmt_L0_eq rfl (fun _ _ _ _ => rfl) (fun _ => rfl) (fun x y h => OS_typ h) ih hb hb' (by omega)) ?_
    rintro _ _ ⟨b, h, h4⟩; cases h
    refine ⟨rfl, Ev.yes rfl (Ev.test (fun e4 => ?_) fun e4 => Ev.ret ⟨false, rfl, not_iff fun e => by have := h4.2 (S_inj.1 e).2.2.2.1; subst this; cases e4⟩)⟩
    have e4 := h4.1 e4
    refine Ev.bindC (eqList (R := OA (OS d)) slices_EqualFunc_Arm_eq slices_EqualFunc_Arm_L0_eq rfl (fun _ _ _ _ => rfl) (fun _ => rfl) (fun x y h => ?_) (fun x y u v h h' => ?_) hz hz' (by omega)) ?_
    · obtain ⟨es, k, t, fs, bs, zs, bs', zs', rfl, rfl, _⟩ := h; exact ⟨rfl, rfl⟩
    · obtain ⟨es, k, t, fs, bs, zs, bs1, zs1, rfl, rfl, he, h⟩ := h
      obtain ⟨es', k', t', fs', bs', zs', bs1', zs1', rfl, rfl, he', h'⟩ := h'
      refine Ev.eq (fun n => ast_sameArm_eq n es k 0 0 0 t fs bs1 zs1 es' k' 0 0 0 t' fs' bs1' zs1') ?_
      refine Ev.bindC (exprs_same he he') ?_
      rintro _ _ ⟨b, h0, h3⟩; cases h0
      refine ⟨rfl, Ev.yes rfl (Ev.test (fun e3 => ?_) fun e3 => Ev.ret ⟨false, rfl, not_iff fun e => by have := h3.2 (arm_inj.1 e).1; subst this; cases e3⟩)⟩
      have e3 := h3.1 e3
      refine Ev.bindC (ih _ _ _ _ h h') ?_
      rintro _ _ ⟨b, h0, h5⟩; cases h0
      exact ⟨rfl, Ev.yes rfl (Ev.ret ⟨b, rfl, by rw [h5, arm_inj]; exact ⟨fun h => ⟨e3, h⟩, fun h => h.2⟩⟩)⟩
    · rintro _ _ ⟨b, h, h5⟩; cases h
      exact ⟨rfl, Ev.yes rfl (Ev.ret ⟨b, rfl, by rw [h5, S_inj]; exact ⟨fun h => ⟨eq_of_beq e1, eq_of_beq e2, e3, e4, h⟩, fun h => h.2.2.2.2⟩⟩)⟩
theorem stmts_same {d : Nat} {xs ys us vs : List D} (h1 : Rl (OS d) xs ys) (h2 : Rl (OS d) us vs) (hl : xs.length ≤ 10) : Ev (fun n => slices_EqualFunc_Stmt n (.lst 8 ys) (.lst 8 vs)) fun r => ∃ b, r = (true, [.bool b]) ∧ (b = true ↔ xs = us) :=
  eqList (R := OS d) slices_EqualFunc_Stmt_eq slices_EqualFunc_Stmt_L0_eq rfl (fun _ _ _ _ => rfl) (fun _ => rfl) (fun x y h => OS_typ h) (stmt_same d) h1 h2 (by omega)
theorem C_inj {nm nm' : List UInt8} {es es' : List D} : D.agg [.str nm, .lst 6 es] = D.agg [.str nm', .lst 6 es'] ↔ nm = nm' ∧ es = es' := by simp
theorem conns_same {xs ys us vs : List D} (h1 : Rl OC xs ys) (h2 : Rl OC us vs) (hl : xs.length ≤ 10) : Ev (fun n => slices_EqualFunc_Conn n (.lst 5 ys) (.lst 5 vs)) fun r => ∃ b, r = (true, [.bool b]) ∧ (b = true ↔ xs = us) := by
  refine eqList (R := OC) slices_EqualFunc_Conn_eq slices_EqualFunc_Conn_L0_eq rfl (fun _ _ _ _ => rfl) (fun _ => rfl) (fun x y h => ?_) (fun x y u v h h' => ?_) h1 h2 (by omega)
  · obtain ⟨nm, es, rfl, rfl, _⟩ := h; exact ⟨rfl, rfl⟩
  · obtain ⟨nm, es, rfl, rfl, he⟩ := h
    obtain ⟨nm', es', rfl, rfl, he'⟩ := h'
    refine Ev.eq (fun n => ast_sameConn_eq n nm 0 0 0 es nm' 0 0 0 es') ?_
    refine Ev.test (fun e1 => ?_) fun e1 => Ev.ret ⟨false, rfl, not_iff fun e => ne_of_beq e1 (C_inj.1 e).1⟩
    refine Ev.bindC (exprs_same he he') ?_
    rintro _ _ ⟨b, h, hb⟩; cases h
    exact ⟨rfl, Ev.yes rfl (Ev.ret ⟨b, rfl, by rw [hb, C_inj]; exact ⟨fun h => ⟨eq_of_beq e1, h⟩, fun h => h.2⟩⟩)⟩
theorem I_inj {k k' : Int} {nm nm' ty ty' : List UInt8} {sg sg' : Bool} {es es' fs fs' bs bs' its its' els els' ps ps' qs qs' : List D} : I k nm ty sg es fs bs its els ps qs = I k' nm' ty' sg' es' fs' bs' its' els' ps' qs' ↔
    k = k' ∧ nm = nm' ∧ ty = ty' ∧ sg = sg' ∧ es = es' ∧ fs = fs' ∧ bs = bs' ∧ its = its' ∧ els = els' ∧ ps = ps' ∧ qs = qs' := by simp [I]
theorem OI_typ {d : Nat} {x y : D} (h : OI d x y) : expTy ty_iiiissbl6l6l8l14l14l5l5 y = y ∧ okTy ty_iiiissbl6l6l8l14l14l5l5 y = true := by
  cases d with
  | zero => exact h.elim
  | succ d => obtain ⟨k, nm, ty, sg, es, fs, bs, its, els, ps, qs, bs', its', els', ps', qs', _, rfl, _⟩ := h; exact ⟨rfl, rfl⟩
theorem item_same : ∀ (d : Nat) (x y u v : D), OI d x y → OI d u v → Ev (fun n => ast_sameItem n y v) fun r => ∃ b, r = (true, [.bool b]) ∧ (b = true ↔ x = u) := by
  intro d
  induction d with
  | zero => intro x y u v h; exact h.elim
  | succ d ih =>
    rintro x y u v ⟨k, nm, ty, sg, es, fs, bs, its, els, ps, qs, bs1, its1, els1, ps1, qs1, rfl, rfl, he, hf, lb, li, ll, lp, lq, hb, hi, hel, hp, hq⟩ ⟨k', nm', ty', sg', es', fs', bs', its', els', ps', qs', bs1', its1', els1', ps1', qs1', rfl, rfl, he', hf', lb', li', ll', lp', lq', hb', hi', hel', hp', hq'⟩
    have hits : ∀ {xs ys us vs : List D}, Rl (OI d) xs ys → Rl (OI d) us vs → xs.length ≤ 10 → Ev (fun n => slices_EqualFunc_Item n (.lst 14 ys) (.lst 14 vs)) fun r => ∃ b, r = (true, [.bool b]) ∧ (b = true ↔ xs = us) :=
      fun h1 h2 hl => eqList (R := OI d) slices_EqualFunc_Item_eq slices_EqualFunc_Item_L0_eq rfl (fun _ _ _ _ => rfl) (fun _ => rfl) (fun x y h => OI_typ h) ih h1 h2 (by omega)
    have no : ¬ (I k nm ty sg es fs bs its els ps qs = I k' nm' ty' sg' es' fs' bs' its' els' ps' qs') → Ev (fun n => ast_sameItem_j1 n true fs fs' its1 its1' els1 els1' ps1 ps1' qs1 qs1') fun r => ∃ b, r = (true, [.bool b]) ∧ (b = true ↔ I k nm ty sg es fs bs its els ps qs = I k' nm' ty' sg' es' fs' bs' its' els' ps' qs') :=
      fun h => evDf (fun n => ast_sameItem_j1_def n _ _ _ _ _ _ _ _ _ _ _) (Ev.yes rfl (Ev.ret ⟨false, rfl, not_iff h⟩))
    refine Ev.eq (fun n => ast_sameItem_eq n k 0 0 0 nm ty sg es fs bs1 its1 els1 ps1 qs1 k' 0 0 0 nm' ty' sg' es' fs' bs1' its1' els1' ps1' qs1') ?_
    refine Ev.test (fun e1 => no fun e => ?_) fun e1 => Ev.test (fun e2 => no fun e => ?_) fun e2 => Ev.test (fun e3 => no fun e => ?_) fun e3 => Ev.test (fun e4 => no fun e => ?_) fun e4 => ?_
    · rw [(I_inj.1 e).1] at e1; simp at e1
    · rw [(I_inj.1 e).2.1] at e2; simp at e2
    · rw [(I_inj.1 e).2.2.1] at e3; simp at e3
    · rw [(I_inj.1 e).2.2.2.1] at e4; simp at e4
    have e1 : k = k' := by simpa using e1
    have e2 : nm = nm' := by simpa using e2
    have e3 : ty = ty' := by simpa using e3
    have e4 : sg = sg' := by simpa using e4
    refine Ev.bindC (exprs_same he he') ?_
    rintro _ _ ⟨b, h, h5⟩; cases h
    refine ⟨rfl, Ev.yes rfl (Ev.test (fun e5 => no fun e => ?_) fun e5 => ?_)⟩
    · have := h5.2 (I_inj.1 e).2.2.2.2.1; subst this; cases e5
    have e5 : (!b) = false := e5
    have e5 := h5.1 (by simpa using e5)
    refine Ev.bindC (stmts_same hb hb' lb) ?_
    rintro _ _ ⟨b, h, h6⟩; cases h
    refine ⟨rfl, Ev.yes rfl ?_⟩
    cases b with
    | false => exact no fun e => by have := h6.2 (I_inj.1 e).2.2.2.2.2.2.1; cases this
    | true =>
      have e6 := h6.1 rfl
      refine evDf (fun n => ast_sameItem_j1_def n _ _ _ _ _ _ _ _ _ _ _) (Ev.no rfl ?_)
      refine Ev.bindC (exprs_same hf hf') ?_
      rintro _ _ ⟨b, h, h7⟩; cases h
      refine ⟨rfl, Ev.yes rfl (Ev.test (fun e7 => ?_) fun e7 => Ev.ret ⟨false, rfl, not_iff fun e => by have := h7.2 (I_inj.1 e).2.2.2.2.2.1; subst this; cases e7⟩)⟩
      have e7 := h7.1 e7
      refine Ev.bindC (hits hi hi' li) ?_
      rintro _ _ ⟨b, h, h8⟩; cases h
      refine ⟨rfl, Ev.yes rfl (Ev.test (fun e8 => ?_) fun e8 => Ev.ret ⟨false, rfl, not_iff fun e => by have := h8.2 (I_inj.1 e).2.2.2.2.2.2.2.1; subst this; cases e8⟩)⟩
      have e8 := h8.1 e8
      refine Ev.bindC (hits hel hel' ll) ?_
      rintro _ _ ⟨b, h, h9⟩; cases h
      refine ⟨rfl, Ev.yes rfl (Ev.test (fun e9 => ?_) fun e9 => Ev.ret ⟨false, rfl, not_iff fun e => by have := h9.2 (I_inj.1 e).2.2.2.2.2.2.2.2.1; subst this; cases e9⟩)⟩
      have e9 := h9.1 e9
      refine Ev.bindC (conns_same hp hp' lp) ?_
      rintro _ _ ⟨b, h, h10⟩; cases h
      refine ⟨rfl, Ev.yes rfl (Ev.test (fun e10 => ?_) fun e10 => Ev.ret ⟨false, rfl, not_iff fun e => by have := h10.2 (I_inj.1 e).2.2.2.2.2.2.2.2.2.1; subst this; cases e10⟩)⟩
      have e10 := h10.1 e10
      refine Ev.bindC (conns_same hq hq' lq) ?_
      rintro _ _ ⟨b, h, h11⟩; cases h
      exact ⟨rfl, Ev.yes rfl (Ev.ret ⟨b, rfl, by rw [h11, I_inj]; exact ⟨fun h => ⟨e1, e2, e3, e4, e5, e7, e6, e8, e9, e10, h⟩, fun h => h.2.2.2.2.2.2.2.2.2.2⟩⟩)⟩
theorem items_same {d : Nat} {xs ys us vs : List D} (h1 : Rl (OI d) xs ys) (h2 : Rl (OI d) us vs) (hl : xs.length ≤ 10) : Ev (fun n => slices_EqualFunc_Item n (.lst 14 ys) (.lst 14 vs)) fun r => ∃ b, r = (true, [.bool b]) ∧ (b = true ↔ xs = us) :=
  eqList (R := OI d) slices_EqualFunc_Item_eq slices_EqualFunc_Item_L0_eq rfl (fun _ _ _ _ => rfl) (fun _ => rfl) (fun x y h => OI_typ h) (item_same d) h1 h2 (by omega)
theorem M_inj {nm nm' : List UInt8} {ps ps' qs qs' its its' : List D} : M nm ps qs its = M nm' ps' qs' its' ↔ nm = nm' ∧ ps = ps' ∧ qs = qs' ∧ its = its' := by simp [M]
theorem mods_same {xs ys us vs : List D} (h1 : Rl OM xs ys) (h2 : Rl OM us vs) (hl : xs.length ≤ 10) : Ev (fun n => ast_Same n (.lst 7 ys) (.lst 7 vs)) fun r => ∃ b, r = (true, [.bool b]) ∧ (b = true ↔ xs = us) := by
  refine Ev.eq (fun n => ast_Same_eq n ys vs) (Ev.bindC (eqList (R := OM) slices_EqualFunc_Module_eq slices_EqualFunc_Module_L0_eq rfl (fun _ _ _ _ => rfl) (fun _ => rfl) (fun x y h => ?_) (fun x y u v h h' => ?_) h1 h2 (by omega)) ?_)
  · obtain ⟨nm, i, j, l, ps, qs, its, ps', qs', its', rfl, rfl, _⟩ := h; exact ⟨rfl, rfl⟩
  · obtain ⟨nm, i, j, l, ps, qs, its, ps1, qs1, its1, rfl, rfl, _, lp, lq, li, hp, hq, hi⟩ := h
    obtain ⟨nm', i', j', l', ps', qs', its', ps1', qs1', its1', rfl, rfl, _, lp', lq', li', hp', hq', hi'⟩ := h'
    refine Ev.eq (fun n => ast_sameModule_eq n nm i j l ps1 qs1 its1 nm' i' j' l' ps1' qs1' its1') ?_
    refine Ev.test (fun e1 => ?_) fun e1 => Ev.ret ⟨false, rfl, not_iff fun e => ne_of_beq e1 (M_inj.1 e).1⟩
    refine Ev.bindC (items_same hp hp' lp) ?_
    rintro _ _ ⟨b, h, h2⟩; cases h
    refine ⟨rfl, Ev.yes rfl (Ev.test (fun e2 => ?_) fun e2 => Ev.ret ⟨false, rfl, not_iff fun e => by have := h2.2 (M_inj.1 e).2.1; subst this; cases e2⟩)⟩
    have e2 := h2.1 e2
    refine Ev.bindC (items_same hq hq' lq) ?_
    rintro _ _ ⟨b, h, h3⟩; cases h
    refine ⟨rfl, Ev.yes rfl (Ev.test (fun e3 => ?_) fun e3 => Ev.ret ⟨false, rfl, not_iff fun e => by have := h3.2 (M_inj.1 e).2.2.1; subst this; cases e3⟩)⟩
    have e3 := h3.1 e3
    refine Ev.bindC (items_same hi hi' li) ?_
    rintro _ _ ⟨b, h, h4⟩; cases h
    exact ⟨rfl, Ev.yes rfl (Ev.ret ⟨b, rfl, by rw [h4, M_inj]; exact ⟨fun h => ⟨eq_of_beq e1, e2, e3, h⟩, fun h => h.2.2.2⟩⟩)⟩
  · rintro _ _ ⟨b, h, hb⟩; cases h
    exact ⟨rfl, Ev.yes rfl (Ev.ret ⟨b, rfl, hb⟩)⟩
end Go.Proofs.Ytfadegfceobogaa
