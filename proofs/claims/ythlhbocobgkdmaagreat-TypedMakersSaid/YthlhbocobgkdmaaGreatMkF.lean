/- The document's operations on two and on one, told by the number that the bits make. -/
import Derived.Test.YthlhbocobgkdmaaGreatMkE
namespace Go.Proofs.YthlhbocobgkdmaaGreat
open Go.AE
set_option linter.unusedVariables false
set_option linter.unusedSimpArgs false
section
variable {w a b : Nat} (h1 : 1 ≤ w) (h2 : w ≤ 500) (ha : a < 2 ^ w) (hb : b < 2 ^ w)
include h1 h2 ha hb
theorem binJ3_is (op : Nat) (h : op = 17 ∨ op = 18) : Ev (fun n => ref01_Bin_j3 n true (bitsD w a) (bitsD w b) (op : Int)) fun r => r = (true, [.lst 1 (bitsD 1 (cmpB w a b op).toNat), .int .i64 0]) := by
  have la := bitsD_len w a
  have lb := bitsD_len w b
  refine evDfn (fun n => ref01_Bin_j3_def n ..) (Ev.yes rfl ?_)
  rw [List.nil_append, List.nil_append, rlen, rlen, show ((w : Int) - 1) = ((w - 1 : Nat) : Int) by omega, wrap_nat (by omega), bitsD_at (by omega), bitsD_at (by omega), Int.toNat_natCast]
  have i1 : (decide ((0 : Int) ≤ ((w - 1 : Nat) : Int)) && decide (((w - 1 : Nat) : Int) < (w : Int))) = true := and_tt (decide_eq_true (by omega)) (decide_eq_true (by omega))
  have na : Nat.ble (0 + (bitsD w a).length) maxLst = true := Nat.ble_eq_true_of_le (by simp only [maxLst]; omega)
  have nb : Nat.ble (0 + (bitsD w b).length) maxLst = true := Nat.ble_eq_true_of_le (by simp only [maxLst]; omega)
  refine Ev.yes na (Ev.yes nb (Ev.yes i1 (Ev.yes rfl (Ev.yes i1 (Ev.yes i1 (Ev.yes rfl (Ev.yes i1 ?_)))))))
  show Ev (fun n => bif ((op : Int) == 17) then bindC (ref01_Less n (.lst 1 ((bitsD w a).set (w - 1) (.bool (!(a.testBit (w - 1)))))) (.lst 1 ((bitsD w b).set (w - 1) (.bool (!(b.testBit (w - 1))))))) _ else bindC (ref01_Less n (.lst 1 ((bitsD w b).set (w - 1) (.bool (!(b.testBit (w - 1)))))) (.lst 1 ((bitsD w a).set (w - 1) (.bool (!(a.testBit (w - 1))))))) _) _
  rw [bitsD_flip h1 ha, bitsD_flip h1 hb]
  have fa := flN_lt h1 ha
  have fb := flN_lt h1 hb
  have l1 := Less_is (w := w) (by omega) fa fb
  have l2 := Less_is (w := w) (by omega) fb fa
  rw [slt_fl h1 ha hb] at l1
  rw [slt_fl h1 hb ha] at l2
  rcases h with rfl | rfl
  · exact Ev.yes rfl (evCall l1 (Ev.yes rfl (evCall (one_is _) (Ev.yes rfl (Ev.ret rfl)))))
  · exact Ev.no rfl (evCall l2 (Ev.yes rfl (evCall (one_is _) (Ev.yes rfl (Ev.ret rfl)))))
theorem binJ3_bits (op : Nat) (h : op = 7 ∨ op = 8 ∨ op = 9) : Ev (fun n => ref01_Bin_j3 n false (bitsD w a) (bitsD w b) (op : Int)) fun r => r = (true, [.lst 1 (bitsD w (resN w a b op)), .int .i64 0]) := by
  refine evDfn (fun n => ref01_Bin_j3_def n ..) (Ev.no rfl ?_)
  rw [rlen, rep_is]
  refine Ev.bindL (bits3_is (a := a) (b := b) (by omega) op h) (fun ds h => by obtain ⟨_, h⟩ := h; cases h) fun ds h' => ?_
  obtain ⟨_, h'⟩ := h'
  cases h'
  have e : fillN (bitF3 op a b) w = resN w a b op := by
    rcases h with rfl | rfl | rfl
    · exact fill7 hb
    · exact fill8 ha hb
    · exact fill9 ha hb
  rw [e]
  exact Ev.yes rfl (Ev.ret rfl)
theorem bin_ref : ∀ op : Nat, op < 19 → Ev (fun n => ref01_Bin n (.int .i64 (op : Int)) (.lst 1 (bitsD w a)) (.lst 1 (bitsD w b))) fun r => r = (true, [.lst 1 (bitsD (resW w op) (resN w a b op)), .int .i64 0]) := by
  intro op hop
  refine Ev.eq (fun n => ref01_Bin_eq n ..) (Ev.no (decide_eq_false (by omega)) ?_)
  rw [decide_eq_false (show ¬ (op : Int) > 18 by omega)]
  refine evDfn (fun n => ref01_Bin_j1_def n ..) (Ev.no rfl ?_)
  rw [rlen, rlen, ne_zero h1]
  refine Ev.no (by simp) (evDfn (fun n => ref01_Bin_j2_def n ..) (Ev.no rfl ?_))
  rw [rlen]
  refine Ev.yes (mk_ok (by omega)) (evCall (rNum_is (m := w) (by omega) hb (by omega)) (Ev.yes rfl ?_))
  have hm1 : ((min b w : Nat) : Int) ≤ 1000 := by omega
  have sp := Split_is h1 h2 ha hb
  have sg := Signed_is h1 h2 ha hb
  have ap : ∀ x, Nat.ble (0 + (bitsD w x).length) maxLst = true := fun x => Nat.ble_eq_true_of_le (by rw [bitsD_len]; simp only [maxLst]; omega)
  have wn : IntKind.i64.wrap (0 - ((min b w : Nat) : Int)) = -((min b w : Nat) : Int) := by rw [wrap_id (by omega) (by omega)]; omega
  have md := fun s => Move_is (w := w) (a := a) (by omega) (d := -((min b w : Nat) : Int)) (by omega) (by omega) s
  have mu := Move_is (w := w) (a := a) (by omega) (d := ((min b w : Nat) : Int)) (by omega) (by omega) false
  rw [move_up] at mu
  have eq := rEqual_is (w := w) (by omega) ha hb
  match op, hop with
  | 0, _ =>
    have p := Plus_is (w := w) (by omega) a b false
    rw [← bitsD_mod w (a + b + false.toNat)] at p
    exact Ev.yes rfl (evCall p (Ev.yes rfl (Ev.ret rfl)))
  | 1, _ =>
    have p := Plus_is (w := w) (by omega) a (2 ^ w - 1 - b) true
    rw [← bitsD_mod w (a + (2 ^ w - 1 - b) + true.toNat)] at p
    exact Ev.no rfl (Ev.yes rfl (evCall (Not_is (by omega) hb) (Ev.yes rfl (evCall p (Ev.yes (plain_plus _ _) (Ev.ret rfl))))))
  | 2, _ =>
    have p := Times_is (w := w) (a := a) (by omega) hb
    rw [← bitsD_mod w (a * b)] at p
    exact Ev.no rfl (Ev.no rfl (Ev.yes rfl (evCall p (Ev.yes rfl (Ev.ret rfl)))))
  | 3, _ => exact Ev.no rfl (Ev.no rfl (Ev.no rfl (Ev.yes rfl (evCall sp (Ev.yes rfl (Ev.ret rfl))))))
  | 4, _ => exact Ev.no rfl (Ev.no rfl (Ev.no rfl (Ev.no rfl (Ev.yes rfl (evCall sp (Ev.yes rfl (Ev.yes (ap _) (Ev.ret rfl))))))))
  | 5, _ => exact Ev.no rfl (Ev.no rfl (Ev.no rfl (Ev.no rfl (Ev.no rfl (Ev.yes rfl (evCall sg (Ev.yes rfl (Ev.ret rfl))))))))
  | 6, _ => exact Ev.no rfl (Ev.no rfl (Ev.no rfl (Ev.no rfl (Ev.no rfl (Ev.no rfl (Ev.yes rfl (evCall sg (Ev.yes rfl (Ev.yes (ap _) (Ev.ret rfl))))))))))
  | 7, _ | 8, _ | 9, _ => exact Ev.no rfl (Ev.no rfl (Ev.no rfl (Ev.no rfl (Ev.no rfl (Ev.no rfl (Ev.no rfl (Ev.no rfl (Ev.no rfl (Ev.no rfl (Ev.no rfl (Ev.no rfl (Ev.no rfl (Ev.no rfl (Ev.no rfl (binJ3_bits h1 h2 ha hb _ (by omega))))))))))))))))
  | 10, _ => exact Ev.no rfl (Ev.no rfl (Ev.no rfl (Ev.no rfl (Ev.no rfl (Ev.no rfl (Ev.no rfl (Ev.yes rfl (evCall mu (Ev.yes rfl (Ev.ret rfl))))))))))
  | 11, _ =>
    have m := md false
    rw [move_down] at m
    refine Ev.no rfl (Ev.no rfl (Ev.no rfl (Ev.no rfl (Ev.no rfl (Ev.no rfl (Ev.no rfl (Ev.no rfl (Ev.yes rfl ?_))))))))
    show Ev (fun n => bindC (ref01_Move n (.lst 1 (bitsD w a)) (.int .i64 (IntKind.i64.wrap (0 - ((min b w : Nat) : Int)))) (.bool false)) _) _
    rw [wn]
    exact evCall m (Ev.yes rfl (Ev.ret rfl))
  | 12, _ =>
    have m := md (a.testBit (w - 1))
    rw [move_down] at m
    refine Ev.no rfl (Ev.no rfl (Ev.no rfl (Ev.no rfl (Ev.no rfl (Ev.no rfl (Ev.no rfl (Ev.no rfl (Ev.no rfl (Ev.yes rfl (evCall (top_is h1 (by omega)) (Ev.yes rfl ?_)))))))))))
    show Ev (fun n => bindC (ref01_Move n (.lst 1 (bitsD w a)) (.int .i64 (IntKind.i64.wrap (0 - ((min b w : Nat) : Int)))) (.bool (a.testBit (w - 1)))) _) _
    rw [wn]
    exact evCall m (Ev.yes rfl (Ev.ret rfl))
  | 13, _ => exact Ev.no rfl (Ev.no rfl (Ev.no rfl (Ev.no rfl (Ev.no rfl (Ev.no rfl (Ev.no rfl (Ev.no rfl (Ev.no rfl (Ev.no rfl (Ev.yes rfl (evCall eq (Ev.yes rfl (evCall (one_is _) (Ev.yes rfl (Ev.ret rfl)))))))))))))))
  | 14, _ => exact Ev.no rfl (Ev.no rfl (Ev.no rfl (Ev.no rfl (Ev.no rfl (Ev.no rfl (Ev.no rfl (Ev.no rfl (Ev.no rfl (Ev.no rfl (Ev.no rfl (Ev.yes rfl (evCall eq (Ev.yes rfl (evCall (one_is _) (Ev.yes rfl (Ev.ret rfl))))))))))))))))
  | 15, _ => exact Ev.no rfl (Ev.no rfl (Ev.no rfl (Ev.no rfl (Ev.no rfl (Ev.no rfl (Ev.no rfl (Ev.no rfl (Ev.no rfl (Ev.no rfl (Ev.no rfl (Ev.no rfl (Ev.yes rfl (evCall (Less_is (by omega) ha hb) (Ev.yes rfl (evCall (one_is _) (Ev.yes rfl (Ev.ret rfl)))))))))))))))))
  | 16, _ => exact Ev.no rfl (Ev.no rfl (Ev.no rfl (Ev.no rfl (Ev.no rfl (Ev.no rfl (Ev.no rfl (Ev.no rfl (Ev.no rfl (Ev.no rfl (Ev.no rfl (Ev.no rfl (Ev.no rfl (Ev.yes rfl (evCall (Less_is (by omega) hb ha) (Ev.yes rfl (evCall (one_is _) (Ev.yes rfl (Ev.ret rfl))))))))))))))))))
  | 17, _ => exact Ev.no rfl (Ev.no rfl (Ev.no rfl (Ev.no rfl (Ev.no rfl (Ev.no rfl (Ev.no rfl (Ev.no rfl (Ev.no rfl (Ev.no rfl (Ev.no rfl (Ev.no rfl (Ev.no rfl (Ev.no rfl (Ev.yes rfl (binJ3_is h1 h2 ha hb 17 (.inl rfl))))))))))))))))
  | 18, _ => exact Ev.no rfl (Ev.no rfl (Ev.no rfl (Ev.no rfl (Ev.no rfl (Ev.no rfl (Ev.no rfl (Ev.no rfl (Ev.no rfl (Ev.no rfl (Ev.no rfl (Ev.no rfl (Ev.no rfl (Ev.no rfl (Ev.no rfl (binJ3_is h1 h2 ha hb 18 (.inr rfl))))))))))))))))
  | n + 19, h => exact absurd h (by omega)
end
/-- An odd number of bits. -/
def parN (w a : Nat) : Bool := (bl w a).foldl (fun o b => !(o == b)) false
def unW (w op : Nat) : Nat := if op < 2 then w else 1
def unN (w a : Nat) : Nat → Nat
  | 0 => 2 ^ w - 1 - a
  | 1 => ngN w a
  | 2 => (!decide (2 ^ w - 1 - a ≠ 0)).toNat
  | 3 => (decide (a ≠ 0)).toNat
  | 4 => (parN w a).toNat
  | 5 => (!decide (a ≠ 0)).toNat
  | _ => 0
theorem unN_lt {w a : Nat} (_ : a < 2 ^ w) : ∀ op, op < 6 → unN w a op < 2 ^ unW w op
  | 0, _ => by
    have := Nat.two_pow_pos w
    show 2 ^ w - 1 - a < 2 ^ w
    omega
  | 1, _ => ngN_lt w a
  | 2, _ | 3, _ | 4, _ | 5, _ => Nat.lt_of_le_of_lt (Bool.toNat_le _) (show 1 < 2 ^ 1 by decide)
  | n + 6, h => absurd h (by omega)
theorem odd_loop {w a : Nat} (hw : w ≤ 1000) (op : Nat) : ∀ (m i : Nat), w - i = m → i ≤ w → Ev (fun n => ref01_Un_L0 n (.int .i64 (op : Int)) (.lst 1 (bitsD w a)) (.bool (((bl w a).take i).foldl (fun o b => !(o == b)) false)) (.int .i64 (i : Int))) fun r => ∃ i' : Int, r = (false, [.int .i64 (op : Int), .lst 1 (bitsD w a), .bool (parN w a), .int .i64 i']) := by
  have la := bitsD_len w a
  have lb : (bl w a).length = w := by simp [bl]
  intro m
  induction m with
  | zero =>
    intro i hm hi
    rw [List.take_of_length_le (by omega)]
    exact Ev.eq (fun n => ref01_Un_L0_eq n ..) (Ev.no (decide_eq_false (by omega)) (Ev.ret ⟨_, rfl⟩))
  | succ m ih =>
    intro i hm hi
    have hi2 : i < w := by omega
    have nx := ih (i + 1) (by omega) hi2
    rw [List.take_succ_eq_append_getElem (by omega), List.foldl_append] at nx
    refine Ev.eq (fun n => ref01_Un_L0_eq n ..) (Ev.yes (decide_eq_true (by omega)) (Ev.yes (in_range (show i < (bitsD w a).length by omega)) ?_))
    rw [bitsD_at hi2, wrap_succ (by omega)]
    have e : (bl w a)[i]'(by omega) = a.testBit i := by simp [bl]
    rw [e] at nx
    exact Ev.yes rfl nx
theorem un_ref {w a : Nat} (h1 : 1 ≤ w) (hw : w ≤ 500) (ha : a < 2 ^ w) : ∀ op : Nat, op < 6 → Ev (fun n => ref01_Un n (.int .i64 (op : Int)) (.lst 1 (bitsD w a))) fun r => r = (true, [.lst 1 (bitsD (unW w op) (unN w a op)), .int .i64 0]) := by
  intro op hop
  have hp := Nat.two_pow_pos w
  have hn : 2 ^ w - 1 - a < 2 ^ w := by omega
  refine Ev.eq (fun n => ref01_Un_eq n ..) (Ev.no (decide_eq_false (by omega)) ?_)
  rw [decide_eq_false (show ¬ (op : Int) > 5 by omega)]
  refine evDfn (fun n => ref01_Un_j1_def n ..) (Ev.no rfl ?_)
  rw [rlen, ne_zero h1]
  refine Ev.no rfl (Ev.bindL (odd_loop (w := w) (a := a) (by omega) op w 0 rfl (Nat.zero_le _)) (fun ds h => by obtain ⟨_, h⟩ := h; cases h) fun ds h => ?_)
  obtain ⟨_, h⟩ := h
  cases h
  refine Ev.yes rfl ?_
  have nt := Not_is (w := w) (by omega) ha
  match op, hop with
  | 0, _ => exact Ev.yes rfl (evCall nt (Ev.yes rfl (Ev.ret rfl)))
  | 1, _ => exact Ev.no rfl (Ev.yes rfl (evCall (Neg_is (by omega) ha) (Ev.yes rfl (Ev.ret rfl))))
  | 2, _ => exact Ev.no rfl (Ev.no rfl (Ev.yes rfl (evCall nt (Ev.yes rfl (evCall (Any_is (by omega) hn) (Ev.yes rfl (evCall (one_is _) (Ev.yes rfl (Ev.ret rfl)))))))))
  | 3, _ => exact Ev.no rfl (Ev.no rfl (Ev.no rfl (Ev.yes rfl (evCall (Any_is (by omega) ha) (Ev.yes rfl (evCall (one_is _) (Ev.yes rfl (Ev.ret rfl))))))))
  | 4, _ => exact Ev.no rfl (Ev.no rfl (Ev.no rfl (Ev.no rfl (Ev.yes rfl (evCall (one_is _) (Ev.yes rfl (Ev.ret rfl)))))))
  | 5, _ => exact Ev.no rfl (Ev.no rfl (Ev.no rfl (Ev.no rfl (Ev.no rfl (evCall (Any_is (by omega) ha) (Ev.yes rfl (evCall (one_is _) (Ev.yes rfl (Ev.ret rfl)))))))))
  | n + 6, h => exact absurd h (by omega)
end Go.Proofs.YthlhbocobgkdmaaGreat
