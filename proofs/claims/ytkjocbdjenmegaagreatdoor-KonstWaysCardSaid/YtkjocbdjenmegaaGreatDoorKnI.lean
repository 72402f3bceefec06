/- Konst: any tree of the maker's: the program's value is the reference's. -/
import Derived.Test.YtkjocbdjenmegaaGreatDoorKnH
namespace Go.Proofs.YtkjocbdjenmegaaGreatDoor
open Go.AE
set_option linter.unusedVariables false
inductive Rz
  | ok (v : Int)
  | bad (a b c e : Int)
def Rz.Good : Rz → Prop
  | .ok v => InR v
  | .bad _ _ _ e => e ≠ 0
def Rz.own (L : List D) : Rz → List D → Prop
  | .ok v, r => r = st0 v L
  | .bad a b c e, r => ∃ n : Int, r = stE n L a b c e
def Rz.ref : Rz → D
  | .ok v => outD v 0 0 0 0
  | .bad a b c e => outD 0 a b c e
/-- Own (with no error before), own (with one before), the reference. -/
def EvalIs (x : D) (L E : List D) (R : Rz) : Prop := R.Good ∧
  Ev (fun n => konst_evaler_expr n x (.lst 2 L) (.int .i64 0) (.int .i64 0) (.int .i64 0) (.int .i64 0)) (fun r => ∃ ds, r = (true, ds) ∧ R.own L ds) ∧
  (∀ p q r e : Int, e ≠ 0 → Ev (fun n => konst_evaler_expr n x (.lst 2 L) (.int .i64 p) (.int .i64 q) (.int .i64 r) (.int .i64 e)) fun z => ∃ n : Int, z = (true, stE n L p q r e)) ∧
  Ev (fun n => ref11_Eval n x (.lst 2 E)) fun r => r = (true, [R.ref])
theorem ne_0' {x : Int} (h : x ≠ 0) : (x != 0) = true ∧ (x == 0) = false := by simp [h]
/-- Behind an error nothing changes. -/
theorem j1_keep (v : Int) (L : List D) (p q r : Int) {e : Int} (he : e ≠ 0) (a b c : Int) : Ev (fun n => konst_evaler_expr_j1 n v L p q r e a b c) fun z => z = (true, stE v L p q r e) :=
  evDfn (fun n => konst_evaler_expr_j1_def n _ _ _ _ _ _ _ _ _) (Ev.no (ne_0' he).2 (evDfn (fun n => konst_evaler_expr_j2_def n _ _ _ _ _ _ _ _ _ _) (Ev.no rfl (Ev.ret rfl))))
theorem evCallE {α : Sort _} {t : Nat → Out} {k : List D → Nat → Out} {f : α → List D} {P : Bool × List D → Prop} (h : Ev t fun r => ∃ a, r = (true, f a)) (hk : ∀ a, Ev (k (f a)) P) : Ev (fun n => AE.bindC (t n) fun ds => k ds n) P := by
  refine Ev.bindC h ?_
  rintro _ _ ⟨a, h⟩
  cases h
  exact ⟨rfl, hk a⟩
theorem knum_is (p0 p1 p2 : Int) {t : List UInt8} (xs L E : List D) (ht : t.length ≤ 100000) {w n : Nat} {sg sz : Bool} (hp : parseF t = .ok w n sg sz) {v : Int} (hi : intF w n sg = (v, 0)) (hv : InR v) : EvalIs (exD 1 p0 p1 p2 t xs) L E (.ok v) := by
  refine ⟨hv, (onum_is p0 p1 p2 xs L ht hp hi hv).mono fun r hr => ⟨_, hr, rfl⟩, fun p q r e he => ?_, rnum_is p0 p1 p2 xs E ht hp hi⟩
  obtain ⟨h1, h2, h3⟩ := num_parts hp
  have hpa := parse_is (s := t) (by omega)
  rw [hp] at hpa
  have hin := Int_is h1 h2 h3 sg sz
  rw [hi] at hin
  have hn : Ev (fun n => konst_evaler_number n (exD 1 p0 p1 p2 t xs) (.lst 2 L) (.int .i64 p) (.int .i64 q) (.int .i64 r) (.int .i64 e)) fun z => z = (true, stE v L p q r e) :=
    Ev.eq (fun n => konst_evaler_number_eq n _ _ _ _ _ _ _ _ _ _ _) (evCall hpa (Ev.yes rfl (Ev.no rfl (evDfn (fun n => konst_evaler_number_j1_def n _ _ _ _ _ _ _ _ _ _) (Ev.no rfl (evCall hin (Ev.yes rfl (Ev.no rfl (evDfn (fun n => konst_evaler_number_j2_def n _ _ _ _ _ _ _ _ _ _) (Ev.no rfl (Ev.ret rfl)))))))))))
  exact Ev.eq (fun n => konst_evaler_expr_eq n _ _ _ _ _ _ _ _ _ _ _) (Ev.yes rfl (evCall hn (Ev.yes rfl ((j1_keep v L p q r he p0 p1 p2).mono fun z hz => ⟨_, hz⟩))))
/-- Kinds that are no number's. -/
theorem other_is {k : Int} (hk : k ≠ 1 ∧ k ≠ 2 ∧ k ≠ 3 ∧ k ≠ 4 ∧ k ≠ 5) (p0 p1 p2 : Int) (t : List UInt8) (xs L E : List D) : EvalIs (exD k p0 p1 p2 t xs) L E (.bad p0 p1 p2 12) := by
  have q : ∀ m : Int, k ≠ m → (k == m) = false := fun m h => by simp [h]
  obtain ⟨k1, k2, k3, k4, k5⟩ := hk
  refine ⟨by show (12 : Int) ≠ 0; decide, ?_, fun p q' r e he => ?_, ?_⟩
  · exact Ev.eq (fun n => konst_evaler_expr_eq n _ _ _ _ _ _ _ _ _ _ _) (Ev.no (q _ k1) (Ev.no (q _ k2) (Ev.no (q _ k3) (Ev.no (q _ k4) (Ev.no (q _ k5) (evCall (fail_new p0 p1 p2 12 L 0 0 0) (Ev.yes rfl (Ev.ret ⟨_, rfl, 0, rfl⟩))))))))
  · exact Ev.eq (fun n => konst_evaler_expr_eq n _ _ _ _ _ _ _ _ _ _ _) (Ev.no (q _ k1) (Ev.no (q _ k2) (Ev.no (q _ k3) (Ev.no (q _ k4) (Ev.no (q _ k5) (evCall (fail_old p0 p1 p2 12 L p q' r he) (Ev.yes rfl (Ev.ret ⟨0, rfl⟩))))))))
  · exact Ev.eq (fun n => ref11_Eval_eq n _ _ _ _ _ _ _) (Ev.no (q _ k1) (Ev.no (q _ k2) (Ev.no (q _ k3) (Ev.no (q _ k5) (Ev.no (q _ k4) (bad_step k p0 p1 p2 t xs 12))))))
/-- The reference looks from behind. -/
def lookB (t : List UInt8) (l : Env0) : Option Int := lookF t l.reverse
theorem rlook_is (t : List UInt8) (p0 p1 p2 : Int) (xs : List D) {l : Env0} (hl : l.length ≤ 1048576) (hr : ∀ q ∈ l, InR q.2) : ∀ m : Nat, m ≤ l.length →
    Ev (fun n => ref11_Eval_L1 n (.lst 2 (l.map nmD)) (.int .i64 ((m : Int) - 1)) (.int .i64 2) (.int .i64 p0) (.int .i64 p1) (.int .i64 p2) (.str t) (.lst 6 xs) (.int .i64 0) (.int .i64 0) (.int .i64 0) (.int .i64 0) (.int .i64 0)) fun r => match lookF t (l.take m).reverse with
      | some v => InR v ∧ r = (true, [outD v 0 0 0 0])
      | none => ∃ j : Int, r = (false, [.lst 2 (l.map nmD), .int .i64 j, .int .i64 2, .int .i64 p0, .int .i64 p1, .int .i64 p2, .str t, .lst 6 xs, .int .i64 0, .int .i64 0, .int .i64 0, .int .i64 0, .int .i64 0]) := by
  intro m
  induction m with
  | zero => intro _; exact Ev.eq (fun n => ref11_Eval_L1_eq n _ _ _ _ _ _ _ _ _ _ _ _ _) (Ev.no rfl (Ev.ret ⟨_, rfl⟩))
  | succ m ih =>
    intro hm
    have hm2 : m < l.length := by omega
    have hm3 : m < (l.map nmD).length := by rw [List.length_map]; exact hm2
    have ei : ((m + 1 : Nat) : Int) - 1 = (m : Int) := by omega
    have hw : IntKind.i64.wrap ((m : Int) - 1) = (m : Int) - 1 := wrap_id (by omega) (by omega)
    have et : (l.take (m + 1)).reverse = l[m] :: (l.take m).reverse := by rw [List.take_succ_eq_append_getElem hm2, List.reverse_append]; rfl
    have hin := hr l[m] (List.getElem_mem hm2)
    rw [ei, et]
    refine Ev.eq (fun n => ref11_Eval_L1_eq n _ _ _ _ _ _ _ _ _ _ _ _ _) (Ev.yes (decide_eq_true (by omega)) (Ev.yes (in_range hm3) ?_))
    rw [get_nat hm3, List.getElem_map, hw]
    refine Ev.yes rfl (Ev.yes rfl ?_)
    unfold lookF
    show Ev (fun n => bif (l[m].1 == t) then _ else _) _
    cases he : l[m].1 == t with
    | true =>
      have hg := good_step 2 p0 p1 p2 t xs (m := l[m].2) rfl
      unfold gd at hg
      rw [show inB l[m].2 = true from and_tt (decide_eq_true hin.1) (decide_eq_true hin.2)] at hg
      exact Ev.yes rfl (Ev.yes (in_range hm3) (Ev.yes rfl (Ev.yes rfl (hg.mono fun r hr => ⟨hin, hr⟩))))
    | false => exact Ev.no rfl (ih (by omega))
theorem name_is (p0 p1 p2 : Int) (t : List UInt8) (xs : List D) {lo lr : Env0} (ho : lo.length ≤ 1048576) (hlr : lr.length ≤ 1048576) (hr : ∀ q ∈ lr, InR q.2) (heq : lookF t lo = lookB t lr) : ∃ R, EvalIs (exD 2 p0 p1 p2 t xs) (lo.map nmD) (lr.map nmD) R := by
  have hf := kfind_is ho t
  have hl := rlook_is t p0 p1 p2 xs hlr hr lr.length (Nat.le_refl _)
  rw [List.take_length] at hl
  have hw : IntKind.i64.wrap (((lr.map nmD).length : Int) - 1) = (lr.length : Int) - 1 := by rw [List.length_map]; exact wrap_id (by omega) (by omega)
  have heq : lookF t lo = lookF t lr.reverse := heq
  cases hq : lookF t lr.reverse with
  | some v =>
    rw [hq] at heq
    rw [heq] at hf
    simp only [hq] at hl
    obtain ⟨rr, ⟨hv, _⟩, _⟩ := hl
    refine ⟨.ok v, hv, ?_, fun p q r e he => ?_, ?_⟩
    · exact (oname_is p0 p1 p2 xs ho heq hv).mono fun r hr => ⟨_, hr, rfl⟩
    · exact Ev.eq (fun n => konst_evaler_expr_eq n _ _ _ _ _ _ _ _ _ _ _) (Ev.no rfl (Ev.yes rfl (evCall hf (Ev.yes rfl (Ev.no rfl ((j1_keep v _ p q r he p0 p1 p2).mono fun z hz => ⟨_, hz⟩))))))
    · have hl := rlook_is t p0 p1 p2 xs hlr hr lr.length (Nat.le_refl _)
      rw [List.take_length] at hl
      simp only [hq] at hl
      refine Ev.eq (fun n => ref11_Eval_eq n _ _ _ _ _ _ _) (Ev.no rfl (Ev.yes rfl ?_))
      rw [hw]
      exact evOut (hl.mono fun r h => h.2) rfl
  | none =>
    rw [hq] at heq
    rw [heq] at hf
    simp only [hq] at hl
    refine ⟨.bad p0 p1 p2 9, by show (9 : Int) ≠ 0; decide, ?_, fun p q r e he => ?_, ?_⟩
    · exact Ev.eq (fun n => konst_evaler_expr_eq n _ _ _ _ _ _ _ _ _ _ _) (Ev.no rfl (Ev.yes rfl (evCall hf (Ev.yes rfl (Ev.yes rfl (evCall (fail_new p0 p1 p2 9 _ 0 0 0) (Ev.yes rfl (Ev.ret ⟨_, rfl, 0, rfl⟩))))))))
    · exact Ev.eq (fun n => konst_evaler_expr_eq n _ _ _ _ _ _ _ _ _ _ _) (Ev.no rfl (Ev.yes rfl (evCall hf (Ev.yes rfl (Ev.yes rfl (evCall (fail_old p0 p1 p2 9 _ p q r he) (Ev.yes rfl (Ev.ret ⟨0, rfl⟩))))))))
    · refine Ev.eq (fun n => ref11_Eval_eq n _ _ _ _ _ _ _) (Ev.no rfl (Ev.yes rfl ?_))
      rw [hw]
      refine Ev.bindL hl (fun ds h => by obtain ⟨_, h⟩ := h; cases h) fun ds h => ?_
      obtain ⟨_, h⟩ := h
      cases h
      exact Ev.yes rfl (bad_step 2 p0 p1 p2 t xs 9)
end Go.Proofs.YtkjocbdjenmegaaGreatDoor
