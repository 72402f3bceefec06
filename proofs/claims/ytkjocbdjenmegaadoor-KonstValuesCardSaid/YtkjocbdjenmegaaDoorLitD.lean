/- Literals: Text and Int told exactly. -/
import Derived.Test.YtkjocbdjenmegaaDoorLitC
namespace Go.Proofs.YtkjocbdjenmegaaDoor
open Go.AE
set_option linter.unusedVariables false
def hexC (d : Nat) : UInt8 := hexS[d]?.getD 0
def nib (n k : Nat) : Nat := n / 16 ^ k % 16
/-- Hexadecimal digits from k places downwards; noughts ahead are left out. -/
def hexN : Nat → Nat → Bool → List Nat
  | 0, _, _ => []
  | k + 1, n, st => bif decide (nib n k > 0) || st || decide (k = 0) then nib n k :: hexN k n true else hexN k n st
def cD (c : UInt8) : D := .int .u8 (c.toNat : Int)
theorem nib_bits (n i : Nat) : nib n i = (n.testBit (4 * i)).toNat + 2 * (n.testBit (4 * i + 1)).toNat + 4 * (n.testBit (4 * i + 2)).toNat + 8 * (n.testBit (4 * i + 3)).toNat := by
  have tb : ∀ k, (n.testBit (4 * i + k)).toNat = n / 16 ^ i / 2 ^ k % 2 := by
    intro k
    rw [Nat.testBit_eq_decide_div_mod_eq, Nat.div_div_eq_div_mul, show 16 ^ i * 2 ^ k = 2 ^ (4 * i + k) by rw [Nat.pow_add, Nat.pow_mul]]
    have h : n / 2 ^ (4 * i + k) % 2 = 0 ∨ n / 2 ^ (4 * i + k) % 2 = 1 := by omega
    rcases h with h | h <;> rw [h] <;> rfl
  have t0 := tb 0
  have t1 := tb 1
  have t2 := tb 2
  have t3 := tb 3
  rw [Nat.add_zero] at t0
  unfold nib
  rw [t0, t1, t2, t3]
  generalize n / 16 ^ i = x
  have p0 : (2 : Nat) ^ 0 = 1 := rfl
  have p1 : (2 : Nat) ^ 1 = 2 := rfl
  have p2 : (2 : Nat) ^ 2 = 4 := rfl
  have p3 : (2 : Nat) ^ 3 = 8 := rfl
  rw [p0, p1, p2, p3]
  omega
theorem or_bit {x k : Nat} (hk : k < 4) (hx : x < 2 ^ k) : IntKind.i64.wrap ((BitVec.ofInt (IntKind.i64).bits (x : Int) ||| BitVec.ofInt (IntKind.i64).bits (IntKind.i64.wrap (1 * 2 ^ (min k (IntKind.i64).bits)))).toNat : Int) = ((x + 2 ^ k : Nat) : Int) := by
  have hp : 2 ^ k ≤ 8 := by
    have := Nat.pow_le_pow_right (show 0 < 2 by omega) (show k ≤ 3 by omega)
    exact this
  have e : min k (IntKind.i64).bits = k := Nat.min_eq_left (by show k ≤ 64; omega)
  have e2 : IntKind.i64.wrap (1 * 2 ^ k) = ((2 ^ k : Nat) : Int) := by
    rw [Int.one_mul, pow_int, wrap_id (by omega) (by omega)]
  have o : ∀ y : Nat, y < M64 → (BitVec.ofInt (IntKind.i64).bits (y : Int)).toNat = y := fun y hy => ofInt_toNat hy
  rw [e, e2, BitVec.toNat_or, o x (by unfold M64; omega), o (2 ^ k) (by unfold M64; omega), or_pow hx, wrap_id (by omega) (by omega)]
theorem nib_lt (n k : Nat) : nib n k < 16 := Nat.mod_lt _ (by decide)
theorem hexD_at {d : Nat} (h : d < 16) : D.int .u8 ((([48, 49, 50, 51, 52, 53, 54, 55, 56, 57, 97, 98, 99, 100, 101, 102] : List UInt8)[((d : Nat) : Int).toNat]?.getD 0).toNat : Int) = cD (hexC d) := by
  rw [Int.toNat_natCast]; rfl
theorem hexN_len : ∀ (k n : Nat) (st : Bool), (hexN k n st).length ≤ k
  | 0, _, _ => Nat.le_refl _
  | k + 1, n, st => by
    unfold hexN
    cases decide (nib n k > 0) || st || decide (k = 0) with
    | true => have := hexN_len k n true; simp only [cond_true, List.length_cons]; omega
    | false => have := hexN_len k n st; simp only [cond_false]; omega
theorem hexN_succ (k n : Nat) (st : Bool) : hexN (k + 1) n st = bif decide (nib n k > 0) || st || decide (k = 0) then nib n k :: hexN k n true else hexN k n st := rfl
theorem width_is (w : Int) (ws : List D) : Ev (fun n => bv_Vec_Width n (.agg [.int .i64 w, .lst 1 ws])) fun r => r = (true, [.int .i64 w]) := Ev.eq (fun n => bv_Vec_Width_eq n _ _) (Ev.ret rfl)
theorem toByte_cD : ∀ l : List UInt8, (l.map cD).map toByte = l
  | [] => rfl
  | c :: l => by
    have ih := toByte_cD l
    simp only [List.map_cons, ih, List.cons.injEq, and_true]
    show UInt8.ofNat ((c.toNat : Int)).toNat = c
    rw [Int.toNat_natCast]; exact UInt8.ofNat_toNat
theorem allBytes_cD : ∀ l : List UInt8, allBytes (l.map cD) = true
  | [] => rfl
  | _ :: l => allBytes_cD l
def hexF (w n : Nat) : List UInt8 := (hexN ((w - 1) / 4 + 1) n false).map hexC
theorem hexF_len {w n : Nat} (h2 : w ≤ 128) : (hexF w n).length ≤ 33 := by
  unfold hexF
  have := hexN_len ((w - 1) / 4 + 1) n false
  rw [List.length_map]; omega
theorem itoa_is {n : Int} (h0 : -9223372036854775808 ≤ n) (h1 : n ≤ 9223372036854775807) : Ev (fun k => strconv_Itoa k (.int .i64 n)) fun r => r = (true, [.str (itoaS n)]) := by
  refine Ev.eq (u := fun _ => some (true, [D.str (itoaS n)])) (fun k => strconv_Itoa_orc k _ _ ?_) (Ev.ret rfl)
  show (bif decide (-9223372036854775808 ≤ n) && decide (n ≤ 9223372036854775807) then some [D.str (itoaS n)] else none) = _
  rw [decide_eq_true h0, decide_eq_true h1]; rfl
theorem decS_len : ∀ (k u : Nat) (acc : List UInt8), (decS k u acc).length ≤ k + acc.length
  | 0, _, acc => by show acc.length ≤ _; omega
  | k + 1, u, acc => by
    unfold decS
    cases Nat.ble u 9 with
    | true => simp only [cond_true, List.length_cons]; omega
    | false =>
      have := decS_len k (u / 10) (UInt8.ofNat (48 + u % 10) :: acc)
      simp only [cond_false, List.length_cons] at this ⊢; omega
theorem itoa_len (n : Int) : (itoaS n).length ≤ 21 := by
  cases n with
  | ofNat u => have := decS_len 20 u []; show (decS 20 u []).length ≤ 21; simp only [List.length_nil] at this; omega
  | negSucc u => have := decS_len 20 (u + 1) []; show (45 :: decS 20 (u + 1) []).length ≤ 21; simp only [List.length_nil, List.length_cons] at this ⊢; omega
def plainT (n : Nat) (sg sz : Bool) : Bool := bif sg then (bif !sz then !(n.testBit 31) else false) else false
/-- How a number is written. -/
def textF (w n : Nat) (sg sz : Bool) : List UInt8 :=
  bif decide (w = 0) then [] else bif !sz && decide (w ≠ 32) then [] else bif plainT n sg sz then itoaS ((min n 2147483648 : Nat) : Int)
  else (bif sz then itoaS (w : Int) ++ [39] else [39]) ++ (bif sg then [115] else []) ++ [104] ++ hexF w n
/-- The whole number that it is, and an error. -/
def intF (w n : Nat) (sg : Bool) : Int × Nat :=
  bif sg && n.testBit (w - 1) then (bif decide ((2 ^ w - n) % 2 ^ w ≤ 2147483648) then (-(((2 ^ w - n) % 2 ^ w : Nat) : Int), 0) else (0, 3))
  else bif decide (n ≥ 2147483648) then (0, 3) else ((n : Int), 0)
theorem Int_is {w n : Nat} (h1 : 1 ≤ w) (h2 : w ≤ 128) (hn : n < 2 ^ w) (sg sz : Bool) : Ev (fun k => lit_Lit_Int k (.agg [.int .i64 (w : Int), .lst 1 (wordsN w n), .bool sg, .bool sz])) fun r => r = (true, [.int .i64 (intF w n sg).1, iD (intF w n sg).2]) := by
  have e1 : IntKind.i64.wrap ((w : Int) - 1) = ((w - 1 : Nat) : Int) := by rw [wrap_id (by omega) (by omega)]; omega
  have hmod : (2 ^ w - n) % 2 ^ w < 2 ^ w := Nat.mod_lt _ (two_pos w)
  have fin : ∀ x : Nat, Ev (fun _ => bif (decide (((min x 2147483649 : Nat) : Int) ≥ (2147483648 : Int))) then (some (true, [(.int .i64 (0 : Int)), (.int .i64 (3 : Int))])) else (some (true, [(.int .i64 ((min x 2147483649 : Nat) : Int)), (.int .i64 (0 : Int))]))) fun r => r = (true, bif decide (x ≥ 2147483648) then [.int .i64 0, iD 3] else [.int .i64 (x : Int), iD 0]) := by
    intro x
    by_cases h : x ≥ 2147483648
    · rw [decide_eq_true h]
      exact Ev.yes (decide_eq_true (by omega)) (Ev.ret rfl)
    · rw [decide_eq_false h]
      refine Ev.no (decide_eq_false (by omega)) (Ev.ret ?_)
      rw [Nat.min_eq_left (by omega)]; rfl
  have low : Ev (fun k => lit_Lit_Int_j1 k false (w : Int) (wordsN w n)) fun r => r = (true, bif decide (n ≥ 2147483648) then [.int .i64 0, iD 3] else [.int .i64 (n : Int), iD 0]) :=
    evDfn (fun k => lit_Lit_Int_j1_def k _ _ _) (Ev.no rfl (evDfn (fun k => lit_Lit_Int_j2_def k _ _ _) (evCall (num_is (m := 2147483649) h1 h2 hn (by decide)) (Ev.yes rfl (Ev.no rfl (Ev.no rfl (fin n)))))))
  have key : (bif decide (n ≥ 2147483648) then [D.int .i64 0, iD 3] else [.int .i64 (n : Int), iD 0]) = [D.int .i64 (bif decide (n ≥ 2147483648) then ((0 : Int), 3) else ((n : Int), 0)).1, iD (bif decide (n ≥ 2147483648) then ((0 : Int), 3) else ((n : Int), 0)).2] := by
    cases decide (n ≥ 2147483648) <;> rfl
  rw [key] at low
  refine Ev.eq (fun k => lit_Lit_Int_eq k _ _ _ _) (evCall (width_is _ _) (Ev.yes rfl (Ev.no (ne_zero h1) ?_)))
  unfold intF
  cases sg with
  | false => exact Ev.no rfl low
  | true =>
    refine Ev.yes rfl ?_
    show Ev (fun k => AE.bindC (bv_Vec_Bit k (.agg [.int .i64 (w : Int), .lst 1 (wordsN w n)]) (.int .i64 (IntKind.i64.wrap ((w : Int) - 1)))) fun r2 => _) _
    rw [e1]
    refine evCall (bit_is (i := w - 1) h2 hn) (Ev.yes rfl ?_)
    cases hb : n.testBit (w - 1) with
    | false => exact low
    | true =>
      refine evDfn (fun k => lit_Lit_Int_j1_def k _ _ _) (Ev.yes rfl (evCall (un_neg h1 h2 hn) (Ev.yes rfl (evDfn (fun k => lit_Lit_Int_j2_def k _ _ _) ?_))))
      refine evCall (num_is (m := 2147483649) h1 h2 hmod (by decide)) (Ev.yes rfl (Ev.yes rfl ?_))
      generalize (2 ^ w - n) % 2 ^ w = v
      show Ev (fun _ => bif (decide (((min v 2147483649 : Nat) : Int) ≤ (2147483648 : Int))) then (some (true, [(.int .i64 (IntKind.i64.wrap (0 - ((min v 2147483649 : Nat) : Int)))), (.int .i64 (0 : Int))])) else _) _
      by_cases h : v ≤ 2147483648
      · refine Ev.yes (decide_eq_true (by omega)) (Ev.ret ?_)
        rw [wrap_id (by omega) (by omega), Nat.min_eq_left (by omega), decide_eq_true h]
        show (true, [D.int .i64 (0 - (v : Int)), _]) = (true, [D.int .i64 (-(v : Int)), _])
        rw [Int.zero_sub]; rfl
      · refine Ev.no (decide_eq_false (by omega)) (Ev.yes rfl (Ev.ret ?_))
        rw [decide_eq_false h]; rfl
theorem Int0_is (ws : List D) (sg sz : Bool) : Ev (fun k => lit_Lit_Int k (.agg [.int .i64 0, .lst 1 ws, .bool sg, .bool sz])) fun r => r = (true, [.int .i64 0, iD 2]) :=
  Ev.eq (fun k => lit_Lit_Int_eq k _ _ _ _) (evCall (width_is _ _) (Ev.yes rfl (Ev.yes rfl (Ev.ret rfl))))
end Go.Proofs.YtkjocbdjenmegaaDoor
