/- LexJoins, plain: Lex over many pieces is Lex over each, one behind the other. -/
import Derived.Test.YtmklmhdgnokcmaaLexAll
namespace Go.Proofs.Ytmklmhdgnokcmaa
open Go.AE
set_option linter.unusedVariables false
def whole (a b c e : Int) (all : List D) : Bool × List D := (true, [.agg [.int .i64 a, .int .i64 b, .int .i64 c], .int .i64 e, .lst 5 all])
theorem lexOut_shape : ∀ (ps : List PR) (out : List D), ∃ a b c e all, lexOut ps out = whole a b c e all
  | [], out => ⟨0, 0, 0, 0, out ++ [], rfl⟩
  | (none, ts) :: ps, out => lexOut_shape ps (out ++ ts)
  | (some (a, b, c, e), _) :: _, _ => ⟨a, b, c, e, [], rfl⟩
theorem toks_append {a b : List D} (ha : Toks a) (hb : Toks b) : Toks (a ++ b) := fun y hy => (List.mem_append.1 hy).elim (ha y) (hb y)
theorem toks_nil : Toks [] := fun y hy => by simp at hy
theorem toks_plain {ts : List D} (h : Toks ts) : ts.all plainD = true := List.all_eq_true.2 fun y hy => by
  obtain ⟨k, t, a, b, c, rfl⟩ := h y hy
  rfl
theorem plain3 {sk : Sk} {e : Int} {ts : List D} {xs : List D} (h : Toks ts) : plainDs sk [.agg xs, .int .i64 e, .lst 5 ts] = true := by simp [plainDs, toks_plain h]
theorem lexOut_toks {ys ps} (h : All2 ys ps) : ∀ {out : List D} {a b c e all}, Toks out → lexOut ps out = whole a b c e all → Toks all := by
  induction h with
  | nil =>
    intro out a b c e all ht h
    simp [lexOut, pieceOut, whole] at h
    obtain ⟨_, _, rfl⟩ := h
    exact ht
  | @cons y p ys ps _ hp _ ih =>
    intro out a b c e all ht h
    obtain ⟨R, ts⟩ := p
    cases R with
    | none => exact ih (toks_append ht hp.1) h
    | some q =>
      obtain ⟨qa, qb, qc, qe⟩ := q
      simp [lexOut, pieceOut, whole] at h
      obtain ⟨_, _, rfl⟩ := h
      exact toks_nil
theorem lexJoins_plain {xs : List D} (hp : ∀ y ∈ xs, ∃ L, IsP L y) : Ev (fun n => law08_LexJoins n (.lst 5 xs)) fun r => r = (true, [.bool true]) := by
  refine Ev.eq (fun n => law08_LexJoins_eq n xs) (Ev.bindC awake08 ?_)
  intro _ _ h; cases h; refine ⟨rfl, Ev.yes rfl (Ev.no rfl (Ev.bindC (few_ev hp) ?_))⟩
  rintro _ _ ⟨ys, h, hys, hyl⟩; cases h; refine ⟨rfl, Ev.yes rfl ?_⟩
  obtain ⟨ps, hps⟩ := all2_of hys
  obtain ⟨a, b, c, e, all, hw⟩ := lexOut_shape ps []
  have h0 := lex_ev hps (by omega)
  rw [hw] at h0
  refine Ev.bindC h0 ?_
  have hall : Toks all := lexOut_toks hps toks_nil hw
  intro _ _ h; cases h; refine ⟨rfl, Ev.yes (and_tt rfl (plain3 hall)) ?_⟩
  have loop : ∀ (m j : Nat) (out : List D), ys.length - j = m → j ≤ ys.length → out.length ≤ 300 * j → Toks out → lexOut (ps.drop j) out = whole a b c e all →
      Ev (fun n => law08_LexJoins_L0 n (.int .i64 e) (.int .i64 (ys.length : Int)) (.int .i64 (j : Int)) (.lst 5 all) (.int .i64 a) (.int .i64 b) (.int .i64 c) (.lst 5 out) (.lst 5 ys)) fun r =>
        r = (true, [.bool true]) ∨ ∃ (j' : Int) (out' : List D), r = (false, [.int .i64 e, .int .i64 (ys.length : Int), .int .i64 j', .lst 5 all, .int .i64 a, .int .i64 b, .int .i64 c, .lst 5 out', .lst 5 ys]) ∧ e = 0 ∧ all = out' ∧ Toks out' ∧ out'.length ≤ 12000 := by
    intro m
    induction m with
    | zero =>
      intro j out hm hj ho ht hl
      rw [List.drop_eq_nil_of_le (by rw [← all2_len hps]; omega)] at hl
      refine Ev.eq (fun n => law08_LexJoins_L0_eq n _ _ _ _ _ _ _ _ _) (Ev.no (decide_eq_false (by omega)) (Ev.ret (.inr ⟨_, out, rfl, ?_, ?_, ht, by omega⟩)))
      · simp [lexOut, pieceOut, whole] at hl; exact hl.2.1.symm
      · simp [lexOut, pieceOut, whole] at hl; exact hl.2.2.symm
    | succ m ih =>
      intro j out hm hj ho ht hl
      have hj2 : j < ys.length := by omega
      have hw : IntKind.i64.wrap ((j : Int) + 1) = ((j + 1 : Nat) : Int) := wrap_succ (by omega)
      obtain ⟨⟨R, ts⟩, hd, hpi, hy⟩ := all2_get hps hj2
      obtain ⟨hy1, hy2⟩ := isP_ok hy
      rw [hd] at hl
      have h1 := lex_ev (All2.cons hy hpi All2.nil) (by simp)
      refine Ev.eq (fun n => law08_LexJoins_L0_eq n _ _ _ _ _ _ _ _ _) (Ev.yes (decide_eq_true (by omega)) (Ev.yes (in_range hj2) ?_))
      rw [get_nat hj2, hw, hy2]
      obtain ⟨htk, htl, hR, _⟩ := hpi
      refine Ev.yes hy1 (Ev.bindC h1 ?_)
      cases R with
      | none =>
        have e1 : lexOut [(none, ts)] [] = whole 0 0 0 0 ts := by simp [lexOut, pieceOut, whole]
        rw [e1]
        intro _ _ h; cases h
        refine ⟨rfl, Ev.yes (and_tt rfl (plain3 htk)) (Ev.no rfl (Ev.yes (Nat.ble_eq_true_of_le (by show out.length + ts.length ≤ maxLst; simp only [maxLst] at *; omega)) ?_))⟩
        exact ih (j + 1) (out ++ ts) (by omega) hj2 (by simp only [List.length_append] at *; omega) (toks_append ht htk) hl
      | some q =>
        obtain ⟨qa, qb, qc, qe⟩ := q
        have he := hR qa qb qc qe rfl
        simp [lexOut, pieceOut, whole] at hl
        obtain ⟨⟨rfl, rfl, rfl⟩, rfl, rfl⟩ := hl
        intro _ _ h; cases h
        refine ⟨rfl, Ev.yes rfl (Ev.yes (by simpa [nth, D.i] using he) (Ev.yes (by simp [nth, D.i]) (Ev.yes (show ((qa == qa) && ((qb == qb) && ((qc == qc) && true))) = true by simp) (Ev.ret (.inl rfl)))))⟩
  refine Ev.bindL (loop ys.length 0 [] rfl (Nat.zero_le _) (Nat.zero_le _) (fun y hy => by simp at hy) hw) (fun ds h => ?_) fun ds h => ?_
  · rcases h with h | ⟨_, _, h, _⟩
    · exact h
    · cases h
  · rcases h with h | ⟨j', out', h, he, ha, ht, hl⟩
    · cases h
    · subst he; subst ha; cases h
      refine Ev.yes rfl (Ev.no rfl (Ev.no (by simp [nth, D.l]) ?_))
      have loop2 : ∀ (m j : Nat), all.length - j = m → j ≤ all.length →
          Ev (fun n => law08_LexJoins_L2 n (.int .i64 (all.length : Int)) (.int .i64 (j : Int)) (.lst 5 all) (.lst 5 all)) fun r => ∃ j' : Int, r = (false, [.int .i64 (all.length : Int), .int .i64 j', .lst 5 all, .lst 5 all]) := by
        intro m
        induction m with
        | zero => intro j hm hj; exact Ev.eq (fun n => law08_LexJoins_L2_eq n _ _ _ _) (Ev.no (decide_eq_false (by omega)) (Ev.ret ⟨_, rfl⟩))
        | succ m ih =>
          intro j hm hj
          have hj2 : j < all.length := by omega
          have hw : IntKind.i64.wrap ((j : Int) + 1) = ((j + 1 : Nat) : Int) := wrap_succ (by omega)
          obtain ⟨k, t, x, y, z, hx⟩ := ht all[j] (List.getElem_mem hj2)
          refine Ev.eq (fun n => law08_LexJoins_L2_eq n _ _ _ _) (Ev.yes (decide_eq_true (by omega)) (Ev.yes (in_range hj2) ?_))
          rw [get_nat hj2, hx, hw]
          refine Ev.yes rfl (Ev.yes (in_range hj2) (Ev.yes rfl (Ev.no (by simp) ?_)))
          exact ih (j + 1) (by omega) hj2
      refine Ev.bindL (loop2 all.length 0 rfl (Nat.zero_le _)) (fun ds h => by obtain ⟨_, h⟩ := h; cases h) fun ds h => ?_
      obtain ⟨j', h⟩ := h
      cases h
      exact Ev.yes rfl (Ev.ret rfl)
end Go.Proofs.Ytmklmhdgnokcmaa
