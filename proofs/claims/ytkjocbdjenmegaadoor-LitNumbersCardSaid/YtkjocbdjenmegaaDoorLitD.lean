/- Literals: Text and Int told exactly. -/
import Derived.Test.YtkjocbdjenmegaaDoorLitC
namespace Go.Proofs.YtkjocbdjenmegaaDoor
open Go.AE
set_option linter.unusedVariables false
def hexC (d : Nat) : UInt8 := hexS[d]?.getD 0
def nib (n k : Nat) : Nat := n / 16 ^ k % 16
/-- Hexadecimal digits from k places downwards; noughts ahead are left out. -/
def hexN : Nat → Nat → Bool → List Nat
  | 0, _, _ => []
  | k + 1, n, st => bif decide (nib n k > 0) || st || decide (k = 0) then nib n k :: hexN k n true else hexN k n st
def cD (c : UInt8) : D := .int .u8 (c.toNat : Int)
theorem nib_bits (n i : Nat) : nib n i = (n.testBit (4 * i)).toNat + 2 * (n.testBit (4 * i + 1)).toNat + 4 * (n.testBit (4 * i + 2)).toNat + 8 * (n.testBit (4 * i + 3)).toNat := by
  have tb : ∀ k, (n.testBit (4 * i + k)).toNat = n / 16 ^ i / 2 ^ k % 2 := by
    intro k
    rw [Nat.testBit_eq_decide_div_mod_eq, Nat.div_div_eq_div_mul, show 16 ^ i * 2 ^ k = 2 ^ (4 * i + k) by rw [Nat.pow_add, Nat.pow_mul]]
    have h : n / 2 ^ (4 * i + k) % 2 = 0 ∨ n / 2 ^ (4 * i + k) % 2 = 1 := by omega
    rcases h with h | h <;> rw [h] <;> rfl
  have t0 := tb 0
  have t1 := tb 1
  have t2 := tb 2
  have t3 := tb 3
  rw [Nat.add_zero] at t0
  unfold nib
  rw [t0, t1, t2, t3]
  generalize n / 16 ^ i = x
  have p0 : (2 : Nat) ^ 0 = 1 := rfl
  have p1 : (2 : Nat) ^ 1 = 2 := rfl
  have p2 : (2 : Nat) ^ 2 = 4 := rfl
  have p3 : (2 : Nat) ^ 3 = 8 := rfl
  rw [p0, p1, p2, p3]
  omega
theorem or_bit {x k : Nat} (hk : k < 4) (hx : x < 2 ^ k) : IntKind.i64.wrap ((BitVec.ofInt (IntKind.i64).bits (x : Int) ||| BitVec.ofInt (IntKind.i64).bits (IntKind.i64.wrap (1 * 2 ^ (min k (IntKind.i64).bits)))).toNat : Int) = ((x + 2 ^ k : Nat) : Int) := by
  have hp : 2 ^ k ≤ 8 := by
    have := Nat.pow_le_pow_right (show 0 < 2 by omega) (show k ≤ 3 by omega)
    exact this
  have e : min k (IntKind.i64).bits = k := Nat.min_eq_left (by show k ≤ 64; omega)
  have e2 : IntKind.i64.wrap (1 * 2 ^ k) = ((2 ^ k : Nat) : Int) := by
    rw [Int.one_mul, pow_int, wrap_id (by omega) (by omega)]
  have o : ∀ y : Nat, y < M64 → (BitVec.ofInt (IntKind.i64).bits (y : Int)).toNat = y := fun y hy => ofInt_toNat hy
  rw [e, e2, BitVec.toNat_or, o x (by unfold M64; omega), o (2 ^ k) (by unfold M64; omega), or_pow hx, wrap_id (by omega) (by omega)]
theorem hexBits {w n i : Nat} (h2 : w ≤ 128) (hn : n < 2 ^ w) (hi : i ≤ 1000) (ws : List D) (hws : ws = wordsN w n) (out : List D) : Ev (fun n' => lit_hex_L2 n' (.int .i64 (i : Int)) (.int .i64 0) (.int .i64 0) (.int .i64 (w : Int)) (.lst 1 ws) (.lst 1 out)) fun r => r = (false, [.int .i64 (i : Int), iD (nib n i), .int .i64 4, .int .i64 (w : Int), .lst 1 ws, .lst 1 out]) := by
  subst hws
  have step : ∀ (k x : Nat) {P : Bool × List D → Prop}, k < 4 → x < 2 ^ k →
      Ev (fun n' => lit_hex_L2 n' (.int .i64 (i : Int)) (iD (x + (n.testBit (4 * i + k)).toNat * 2 ^ k)) (.int .i64 ((k + 1 : Nat) : Int)) (.int .i64 (w : Int)) (.lst 1 (wordsN w n)) (.lst 1 out)) P →
      Ev (fun n' => lit_hex_L2 n' (.int .i64 (i : Int)) (iD x) (.int .i64 (k : Int)) (.int .i64 (w : Int)) (.lst 1 (wordsN w n)) (.lst 1 out)) P := by
    intro k x P hk hx h
    have e1 : IntKind.i64.wrap (IntKind.i64.wrap (4 * (i : Int)) + (k : Int)) = ((4 * i + k : Nat) : Int) := by
      rw [wrap_id (x := 4 * (i : Int)) (by omega) (by omega), wrap_id (by omega) (by omega)]; omega
    have e2 : IntKind.i64.wrap ((k : Int) + 1) = ((k + 1 : Nat) : Int) := wrap_succ (by omega)
    refine Ev.eq (fun n' => lit_hex_L2_eq n' _ _ _ _ _ _) (Ev.yes (decide_eq_true (by omega)) ?_)
    rw [e1, e2, Int.toNat_natCast]
    refine evCall (bit_is h2 hn) (Ev.yes rfl ?_)
    cases hb : n.testBit (4 * i + k) with
    | true =>
      refine Ev.yes rfl (Ev.no (decide_eq_false (by omega)) ?_)
      rw [or_bit hk hx]
      rw [hb, show true.toNat * 2 ^ k = 2 ^ k by simp] at h
      exact h
    | false =>
      refine Ev.no rfl ?_
      rw [hb, show false.toNat * 2 ^ k = 0 by simp, Nat.add_zero] at h
      exact h
  have b : ∀ k, (n.testBit k).toNat ≤ 1 := fun k => by cases n.testBit k <;> decide
  have b0 := b (4 * i)
  have b1 := b (4 * i + 1)
  have b2 := b (4 * i + 2)
  have hN := nib_bits n i
  refine step 0 0 (by decide) (by decide) ?_
  rw [Nat.add_zero, Nat.pow_zero, Nat.mul_one, Nat.zero_add]
  refine step 1 _ (by decide) (by have : (2 : Nat) ^ 1 = 2 := rfl; omega) ?_
  refine step 2 _ (by decide) (by have : (2 : Nat) ^ 1 = 2 := rfl; have : (2 : Nat) ^ 2 = 4 := rfl; omega) ?_
  refine step 3 _ (by decide) (by have : (2 : Nat) ^ 1 = 2 := rfl; have : (2 : Nat) ^ 2 = 4 := rfl; have : (2 : Nat) ^ 3 = 8 := rfl; omega) ?_
  refine Ev.eq (fun n' => lit_hex_L2_eq n' _ _ _ _ _ _) (Ev.no rfl (Ev.ret ?_))
  have e : (n.testBit (4 * i)).toNat + (n.testBit (4 * i + 1)).toNat * 2 ^ 1 + (n.testBit (4 * i + 2)).toNat * 2 ^ 2 + (n.testBit (4 * i + 3)).toNat * 2 ^ 3 = nib n i := by
    have : (2 : Nat) ^ 1 = 2 := rfl
    have : (2 : Nat) ^ 2 = 4 := rfl
    have : (2 : Nat) ^ 3 = 8 := rfl
    omega
  rw [e]; rfl
theorem nib_lt (n k : Nat) : nib n k < 16 := Nat.mod_lt _ (by decide)
theorem hexD_at {d : Nat} (h : d < 16) : D.int .u8 ((([48, 49, 50, 51, 52, 53, 54, 55, 56, 57, 97, 98, 99, 100, 101, 102] : List UInt8)[((d : Nat) : Int).toNat]?.getD 0).toNat : Int) = cD (hexC d) := by
  rw [Int.toNat_natCast]; rfl
theorem hexN_len : ∀ (k n : Nat) (st : Bool), (hexN k n st).length ≤ k
  | 0, _, _ => Nat.le_refl _
  | k + 1, n, st => by
    unfold hexN
    cases decide (nib n k > 0) || st || decide (k = 0) with
    | true => have := hexN_len k n true; simp only [cond_true, List.length_cons]; omega
    | false => have := hexN_len k n st; simp only [cond_false]; omega
theorem hexN_succ (k n : Nat) (st : Bool) : hexN (k + 1) n st = bif decide (nib n k > 0) || st || decide (k = 0) then nib n k :: hexN k n true else hexN k n st := rfl
theorem hexLoop {w n : Nat} (h2 : w ≤ 128) (hn : n < 2 ^ w) : ∀ (k : Nat) (out : List D), out.length + k ≤ 1000 →
    Ev (fun n' => lit_hex_L0 n' (.int .i64 ((k : Int) - 1)) (.int .i64 (w : Int)) (.lst 1 (wordsN w n)) (.lst 1 out)) fun r => r = (false, [.int .i64 (-1), .int .i64 (w : Int), .lst 1 (wordsN w n), .lst 1 (out ++ (hexN k n (decide (out.length > 0))).map fun d => cD (hexC d))]) := by
  intro k
  induction k with
  | zero =>
    intro out _
    refine Ev.eq (fun n' => lit_hex_L0_eq n' _ _ _ _) (Ev.no rfl (Ev.ret ?_))
    simp [hexN]
  | succ k ih =>
    intro out hk
    have e1 : ((k + 1 : Nat) : Int) - 1 = (k : Int) := by omega
    have e2 : IntKind.i64.wrap ((k : Int) - 1) = (k : Int) - 1 := wrap_id (by omega) (by omega)
    rw [e1, hexN_succ]
    refine Ev.eq (fun n' => lit_hex_L0_eq n' _ _ _ _) (Ev.yes (decide_eq_true (by omega)) (evLoop (hexBits h2 hn (i := k) (by omega) _ rfl out) (Ev.yes rfl ?_)))
    have hl := nib_lt n k
    simp only [nth, D.i, D.l, iD, List.getD_cons_zero, List.getD_cons_succ, e2]
    have put : ∀ (h : (decide (nib n k > 0) || decide (out.length > 0) || decide (k = 0)) = true), Ev (fun n' => bif (decide ((0 : Int) ≤ ((nib n k : Nat) : Int)) && decide (((nib n k : Nat) : Int) < (16 : Int))) then (bif Nat.ble (out.length + 1) maxLst then (lit_hex_L0 n' (.int .i64 ((k : Int) - 1)) (.int .i64 (w : Int)) (.lst 1 (wordsN w n)) (.lst 1 (out ++ ([(.int .u8 ((([48, 49, 50, 51, 52, 53, 54, 55, 56, 57, 97, 98, 99, 100, 101, 102] : List UInt8)[((nib n k : Nat) : Int).toNat]?.getD 0).toNat : Int))] : List D)))) else none) else none) fun r => r = (false, [.int .i64 (-1), .int .i64 (w : Int), .lst 1 (wordsN w n), .lst 1 (out ++ (bif decide (nib n k > 0) || decide (out.length > 0) || decide (k = 0) then nib n k :: hexN k n true else hexN k n (decide (out.length > 0))).map fun d => cD (hexC d))]) := by
      intro h
      refine Ev.yes (and_tt (decide_eq_true (by omega)) (decide_eq_true (by omega))) (Ev.yes (Nat.ble_eq_true_of_le (by simp only [maxLst]; omega)) ?_)
      rw [hexD_at hl]
      refine (ih (out ++ [cD (hexC (nib n k))]) (by simp only [List.length_append, List.length_singleton]; omega)).mono fun r hr => ?_
      rw [hr]
      have hst : decide ((out ++ [cD (hexC (nib n k))]).length > 0) = true := decide_eq_true (by simp)
      rw [hst, h]
      simp only [cond_true, List.map_cons, List.append_assoc, List.singleton_append]
    cases h1 : decide (nib n k > 0) with
    | true =>
      have h1' := of_decide_eq_true h1
      rw [h1] at put
      exact Ev.yes (decide_eq_true (by omega)) (put rfl)
    | false =>
      have h1' := of_decide_eq_false h1
      rw [h1] at put
      refine Ev.no (decide_eq_false (by omega)) ?_
      cases h2' : decide (out.length > 0) with
      | true =>
        have h2'' := of_decide_eq_true h2'
        rw [h2'] at put
        exact Ev.yes (decide_eq_true (by omega)) (put rfl)
      | false =>
        have h2'' := of_decide_eq_false h2'
        rw [h2'] at put
        refine Ev.no (decide_eq_false (by omega)) ?_
        cases h3 : decide (k = 0) with
        | true =>
          have h3' := of_decide_eq_true h3
          rw [h3] at put
          exact Ev.yes (by subst h3'; rfl) (put rfl)
        | false =>
          have h3' := of_decide_eq_false h3
          refine Ev.no (by simp; omega) ((ih out (by omega)).mono fun r hr => ?_)
          rw [hr, h2']
          rfl
theorem width_is (w : Int) (ws : List D) : Ev (fun n => bv_Vec_Width n (.agg [.int .i64 w, .lst 1 ws])) fun r => r = (true, [.int .i64 w]) := Ev.eq (fun n => bv_Vec_Width_eq n _ _) (Ev.ret rfl)
theorem toByte_cD : ∀ l : List UInt8, (l.map cD).map toByte = l
  | [] => rfl
  | c :: l => by
    have ih := toByte_cD l
    simp only [List.map_cons, ih, List.cons.injEq, and_true]
    show UInt8.ofNat ((c.toNat : Int)).toNat = c
    rw [Int.toNat_natCast]; exact UInt8.ofNat_toNat
theorem allBytes_cD : ∀ l : List UInt8, allBytes (l.map cD) = true
  | [] => rfl
  | _ :: l => allBytes_cD l
def hexF (w n : Nat) : List UInt8 := (hexN ((w - 1) / 4 + 1) n false).map hexC
theorem hexF_len {w n : Nat} (h2 : w ≤ 128) : (hexF w n).length ≤ 33 := by
  unfold hexF
  have := hexN_len ((w - 1) / 4 + 1) n false
  rw [List.length_map]; omega
theorem hex_is {w n : Nat} (h1 : 1 ≤ w) (h2 : w ≤ 128) (hn : n < 2 ^ w) : Ev (fun n' => lit_hex n' (vec w n)) fun r => r = (true, [.str (hexF w n)]) := by
  refine Ev.eq (fun n' => lit_hex_eq n' _ _) (evCall (width_is _ _) (Ev.yes rfl ?_))
  have e : IntKind.i64.wrap ((IntKind.i64.wrap ((w : Int) - 1)).tdiv 4) = (((w - 1) / 4 + 1 : Nat) : Int) - 1 := by
    rw [wrap_id (x := (w : Int) - 1) (by omega) (by omega), Int.tdiv_eq_ediv_of_nonneg (by omega), wrap_id (by omega) (by omega)]; omega
  show Ev (fun n' => AE.bindL (lit_hex_L0 n' (.int .i64 (IntKind.i64.wrap ((IntKind.i64.wrap ((w : Int) - 1)).tdiv 4))) (.int .i64 (w : Int)) (.lst 1 (wordsN w n)) (.lst 1 [])) fun r2 => _) _
  rw [e]
  have hm : ∀ l : List Nat, (l.map fun d => cD (hexC d)) = (l.map hexC).map cD := fun l => by simp [List.map_map]
  refine evLoop (hexLoop h2 hn ((w - 1) / 4 + 1) [] (by simp only [List.length_nil]; omega)) (Ev.yes rfl ?_)
  simp only [nth, D.l, List.getD_cons_zero, List.getD_cons_succ, List.nil_append, List.length_nil]
  rw [hm]
  refine Ev.yes (allBytes_cD _) (Ev.ret ?_)
  rw [toByte_cD]
  rfl
theorem itoa_is {n : Int} (h0 : -9223372036854775808 ≤ n) (h1 : n ≤ 9223372036854775807) : Ev (fun k => strconv_Itoa k (.int .i64 n)) fun r => r = (true, [.str (itoaS n)]) := by
  refine Ev.eq (u := fun _ => some (true, [D.str (itoaS n)])) (fun k => strconv_Itoa_orc k _ _ ?_) (Ev.ret rfl)
  show (bif decide (-9223372036854775808 ≤ n) && decide (n ≤ 9223372036854775807) then some [D.str (itoaS n)] else none) = _
  rw [decide_eq_true h0, decide_eq_true h1]; rfl
theorem decS_len : ∀ (k u : Nat) (acc : List UInt8), (decS k u acc).length ≤ k + acc.length
  | 0, _, acc => by show acc.length ≤ _; omega
  | k + 1, u, acc => by
    unfold decS
    cases Nat.ble u 9 with
    | true => simp only [cond_true, List.length_cons]; omega
    | false =>
      have := decS_len k (u / 10) (UInt8.ofNat (48 + u % 10) :: acc)
      simp only [cond_false, List.length_cons] at this ⊢; omega
theorem itoa_len (n : Int) : (itoaS n).length ≤ 21 := by
  cases n with
  | ofNat u => have := decS_len 20 u []; show (decS 20 u []).length ≤ 21; simp only [List.length_nil] at this; omega
  | negSucc u => have := decS_len 20 (u + 1) []; show (45 :: decS 20 (u + 1) []).length ≤ 21; simp only [List.length_nil, List.length_cons] at this ⊢; omega
def plainT (n : Nat) (sg sz : Bool) : Bool := bif sg then (bif !sz then !(n.testBit 31) else false) else false
/-- How a number is written. -/
def textF (w n : Nat) (sg sz : Bool) : List UInt8 :=
  bif decide (w = 0) then [] else bif !sz && decide (w ≠ 32) then [] else bif plainT n sg sz then itoaS ((min n 2147483648 : Nat) : Int)
  else (bif sz then itoaS (w : Int) ++ [39] else [39]) ++ (bif sg then [115] else []) ++ [104] ++ hexF w n
theorem isPlain_is {w n : Nat} (h1 : 1 ≤ w) (h2 : w ≤ 128) (hn : n < 2 ^ w) (sg sz : Bool) : Ev (fun k => lit_Lit_isPlain k (.agg [.int .i64 (w : Int), .lst 1 (wordsN w n), .bool sg, .bool sz])) fun r => r = (true, [.bool (plainT n sg sz)]) := by
  refine Ev.eq (fun k => lit_Lit_isPlain_eq k _ _ _ _) ?_
  cases sg with
  | false => exact Ev.no rfl (Ev.ret rfl)
  | true =>
    cases sz with
    | true => exact Ev.yes rfl (Ev.no rfl (Ev.ret rfl))
    | false => exact Ev.yes rfl (Ev.yes rfl (evCall (bit_is (i := 31) h2 hn) (Ev.yes rfl (Ev.ret rfl))))
theorem text_is {w n : Nat} (h1 : 1 ≤ w) (h2 : w ≤ 128) (hn : n < 2 ^ w) (sg sz : Bool) : Ev (fun k => lit_Lit_Text k (.agg [.int .i64 (w : Int), .lst 1 (wordsN w n), .bool sg, .bool sz])) fun r => r = (true, [.str (textF w n sg sz)]) := by
  refine Ev.eq (fun k => lit_Lit_Text_eq k _ _ _ _) (evCall (width_is _ _) (Ev.yes rfl (Ev.no (ne_zero h1) ?_)))
  have hhl := hexF_len (n := n) h2
  have j2 : ∀ g : List UInt8, g.length ≤ 100 → Ev (fun k => lit_Lit_Text_j2 k g sg (w : Int) (wordsN w n)) fun r => r = (true, [.str (g ++ (bif sg then [115] else []) ++ [104] ++ hexF w n)]) := by
    intro g hg
    refine evDfn (fun k => lit_Lit_Text_j2_def k _ _ _ _) ?_
    cases sg with
    | true =>
      refine Ev.yes rfl (Ev.yes (decide_eq_true (by simp only [maxStr]; omega)) (Ev.yes (decide_eq_true (by simp only [maxStr, List.length_append, List.length_singleton]; omega)) (evCall (hex_is h1 h2 hn) (Ev.yes rfl (Ev.yes (decide_eq_true ?_) (Ev.ret rfl))))))
      show (g ++ [115] ++ [104]).length + (hexF w n).length ≤ maxStr
      simp only [maxStr, List.length_append, List.length_singleton]; omega
    | false =>
      refine Ev.no rfl (Ev.yes (decide_eq_true (by simp only [maxStr]; omega)) (evCall (hex_is h1 h2 hn) (Ev.yes rfl (Ev.yes (decide_eq_true ?_) (Ev.ret ?_)))))
      · show (g ++ [104]).length + (hexF w n).length ≤ maxStr
        simp only [maxStr, List.length_append, List.length_singleton]; omega
      · show (true, [D.str (g ++ [104] ++ hexF w n)]) = (true, [D.str (g ++ [] ++ [104] ++ hexF w n)])
        rw [List.append_nil]
  have j1 : ∀ x : Bool, x = (!sz && decide (w ≠ 32)) → Ev (fun k => lit_Lit_Text_j1 k x (w : Int) (wordsN w n) sg sz [.int .i64 (w : Int)]) fun r => r = (true, [.str (textF w n sg sz)]) := by
    intro x hx
    refine evDfn (fun k => lit_Lit_Text_j1_def k _ _ _ _ _ _) ?_
    unfold textF
    rw [← hx, decide_eq_false (show ¬ w = 0 by omega)]
    cases x with
    | true => exact Ev.yes rfl (Ev.ret rfl)
    | false =>
      refine Ev.no rfl (evCall (isPlain_is h1 h2 hn sg sz) (Ev.yes rfl ?_))
      cases hp : plainT n sg sz with
      | true =>
        refine Ev.yes rfl (evCall (num_is (m := 2147483648) h1 h2 hn (by decide)) (Ev.yes rfl (evCall (itoa_is (n := ((min n 2147483648 : Nat) : Int)) (by omega) (by omega)) (Ev.yes rfl (Ev.ret rfl)))))
      | false =>
        refine Ev.no rfl ?_
        cases sz with
        | true =>
          have hil := itoa_len (w : Int)
          refine Ev.yes rfl (evCall (itoa_is (n := (w : Int)) (by omega) (by omega)) (Ev.yes rfl (Ev.yes (decide_eq_true ?_) ?_)))
          · show (itoaS (w : Int)).length + 1 ≤ maxStr
            simp only [maxStr]; omega
          · exact j2 (itoaS (w : Int) ++ [39]) (by simp only [List.length_append, List.length_singleton]; omega)
        | false => exact Ev.no rfl (j2 [39] (by simp))
  cases sz with
  | true => exact Ev.no rfl (j1 false rfl)
  | false =>
    refine Ev.yes rfl (j1 _ ?_)
    show ((w : Int) != 32) = (true && decide (w ≠ 32))
    by_cases h : w = 32
    · subst h; rfl
    · rw [decide_eq_true h]; simp; omega
theorem text0_is (ws : List D) (sg sz : Bool) : Ev (fun k => lit_Lit_Text k (.agg [.int .i64 0, .lst 1 ws, .bool sg, .bool sz])) fun r => r = (true, [.str []]) :=
  Ev.eq (fun k => lit_Lit_Text_eq k _ _ _ _) (evCall (width_is _ _) (Ev.yes rfl (Ev.yes rfl (evDfn (fun k => lit_Lit_Text_j1_def k _ _ _ _ _ _) (Ev.yes rfl (Ev.ret rfl))))))
/-- The whole number that it is, and an error. -/
def intF (w n : Nat) (sg : Bool) : Int × Nat :=
  bif sg && n.testBit (w - 1) then (bif decide ((2 ^ w - n) % 2 ^ w ≤ 2147483648) then (-(((2 ^ w - n) % 2 ^ w : Nat) : Int), 0) else (0, 3))
  else bif decide (n ≥ 2147483648) then (0, 3) else ((n : Int), 0)
theorem Int_is {w n : Nat} (h1 : 1 ≤ w) (h2 : w ≤ 128) (hn : n < 2 ^ w) (sg sz : Bool) : Ev (fun k => lit_Lit_Int k (.agg [.int .i64 (w : Int), .lst 1 (wordsN w n), .bool sg, .bool sz])) fun r => r = (true, [.int .i64 (intF w n sg).1, iD (intF w n sg).2]) := by
  have e1 : IntKind.i64.wrap ((w : Int) - 1) = ((w - 1 : Nat) : Int) := by rw [wrap_id (by omega) (by omega)]; omega
  have hmod : (2 ^ w - n) % 2 ^ w < 2 ^ w := Nat.mod_lt _ (two_pos w)
  have fin : ∀ x : Nat, Ev (fun _ => bif (decide (((min x 2147483649 : Nat) : Int) ≥ (2147483648 : Int))) then (some (true, [(.int .i64 (0 : Int)), (.int .i64 (3 : Int))])) else (some (true, [(.int .i64 ((min x 2147483649 : Nat) : Int)), (.int .i64 (0 : Int))]))) fun r => r = (true, bif decide (x ≥ 2147483648) then [.int .i64 0, iD 3] else [.int .i64 (x : Int), iD 0]) := by
    intro x
    by_cases h : x ≥ 2147483648
    · rw [decide_eq_true h]
      exact Ev.yes (decide_eq_true (by omega)) (Ev.ret rfl)
    · rw [decide_eq_false h]
      refine Ev.no (decide_eq_false (by omega)) (Ev.ret ?_)
      rw [Nat.min_eq_left (by omega)]; rfl
  have low : Ev (fun k => lit_Lit_Int_j1 k false (w : Int) (wordsN w n)) fun r => r = (true, bif decide (n ≥ 2147483648) then [.int .i64 0, iD 3] else [.int .i64 (n : Int), iD 0]) :=
    evDfn (fun k => lit_Lit_Int_j1_def k _ _ _) (Ev.no rfl (evDfn (fun k => lit_Lit_Int_j2_def k _ _ _) (evCall (num_is (m := 2147483649) h1 h2 hn (by decide)) (Ev.yes rfl (Ev.no rfl (Ev.no rfl (fin n)))))))
  have key : (bif decide (n ≥ 2147483648) then [D.int .i64 0, iD 3] else [.int .i64 (n : Int), iD 0]) = [D.int .i64 (bif decide (n ≥ 2147483648) then ((0 : Int), 3) else ((n : Int), 0)).1, iD (bif decide (n ≥ 2147483648) then ((0 : Int), 3) else ((n : Int), 0)).2] := by
    cases decide (n ≥ 2147483648) <;> rfl
  rw [key] at low
  refine Ev.eq (fun k => lit_Lit_Int_eq k _ _ _ _) (evCall (width_is _ _) (Ev.yes rfl (Ev.no (ne_zero h1) ?_)))
  unfold intF
  cases sg with
  | false => exact Ev.no rfl low
  | true =>
    refine Ev.yes rfl ?_
    show Ev (fun k => AE.bindC (bv_Vec_Bit k (.agg [.int .i64 (w : Int), .lst 1 (wordsN w n)]) (.int .i64 (IntKind.i64.wrap ((w : Int) - 1)))) fun r2 => _) _
    rw [e1]
    refine evCall (bit_is (i := w - 1) h2 hn) (Ev.yes rfl ?_)
    cases hb : n.testBit (w - 1) with
    | false => exact low
    | true =>
      refine evDfn (fun k => lit_Lit_Int_j1_def k _ _ _) (Ev.yes rfl (evCall (un_neg h1 h2 hn) (Ev.yes rfl (evDfn (fun k => lit_Lit_Int_j2_def k _ _ _) ?_))))
      refine evCall (num_is (m := 2147483649) h1 h2 hmod (by decide)) (Ev.yes rfl (Ev.yes rfl ?_))
      generalize (2 ^ w - n) % 2 ^ w = v
      show Ev (fun _ => bif (decide (((min v 2147483649 : Nat) : Int) ≤ (2147483648 : Int))) then (some (true, [(.int .i64 (IntKind.i64.wrap (0 - ((min v 2147483649 : Nat) : Int)))), (.int .i64 (0 : Int))])) else _) _
      by_cases h : v ≤ 2147483648
      · refine Ev.yes (decide_eq_true (by omega)) (Ev.ret ?_)
        rw [wrap_id (by omega) (by omega), Nat.min_eq_left (by omega), decide_eq_true h]
        show (true, [D.int .i64 (0 - (v : Int)), _]) = (true, [D.int .i64 (-(v : Int)), _])
        rw [Int.zero_sub]; rfl
      · refine Ev.no (decide_eq_false (by omega)) (Ev.yes rfl (Ev.ret ?_))
        rw [decide_eq_false h]; rfl
theorem Int0_is (ws : List D) (sg sz : Bool) : Ev (fun k => lit_Lit_Int k (.agg [.int .i64 0, .lst 1 ws, .bool sg, .bool sz])) fun r => r = (true, [.int .i64 0, iD 2]) :=
  Ev.eq (fun k => lit_Lit_Int_eq k _ _ _ _) (evCall (width_is _ _) (Ev.yes rfl (Ev.yes rfl (Ev.ret rfl))))
end Go.Proofs.YtkjocbdjenmegaaDoor
