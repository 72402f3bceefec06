/- Literals: vectors of bits; Text and Int told exactly. -/
import Derived.Test.YthlhbocobgkdmaaGreatLitB
namespace Go.Proofs.YthlhbocobgkdmaaGreat
open Go.AE
set_option linter.unusedVariables false
set_option linter.unusedSimpArgs false
def bD (b : Bool) : D := .bool b
def numB : List Bool → Nat
  | [] => 0
  | b :: l => b.toNat + 2 * numB l
theorem numB_lt : ∀ l : List Bool, numB l < 2 ^ l.length
  | [] => by decide
  | b :: l => by
    have := numB_lt l
    have hb : b.toNat ≤ 1 := by cases b <;> decide
    simp only [numB, List.length_cons, Nat.pow_succ]; omega
theorem numB_snoc : ∀ (l : List Bool) (b : Bool), numB (l ++ [b]) = numB l + b.toNat * 2 ^ l.length
  | [], b => by simp [numB]
  | c :: l, b => by
    have := numB_snoc l b
    simp only [List.cons_append, numB, this, List.length_cons, Nat.pow_succ]
    rw [Nat.mul_add, ← Nat.mul_assoc 2, Nat.mul_comm 2 b.toNat, Nat.mul_assoc b.toNat, Nat.mul_comm 2 (2 ^ l.length)]
    omega
theorem numB_bit : ∀ (l : List Bool) (i : Nat), (numB l).testBit i = l.getD i false
  | [], i => by simp [numB]
  | b :: l, 0 => by
    have hb : b.toNat ≤ 1 := by cases b <;> decide
    rw [Nat.testBit_zero, numB]
    cases b <;> simp [List.getD] <;> omega
  | b :: l, i + 1 => by
    have ih := numB_bit l i
    rw [Nat.testBit_succ, numB]
    have : (b.toNat + 2 * numB l) / 2 = numB l := by cases b <;> simp <;> omega
    rw [this, ih]; simp [List.getD]
theorem bits_of (l : List Bool) : l.map bD = bitsD l.length (numB l) := by
  apply List.ext_getElem?
  intro i
  by_cases h : i < l.length
  · rw [bitsD_get h, numB_bit]
    simp [bD, List.getD, h]
  · rw [List.getElem?_eq_none (by simp; omega), List.getElem?_eq_none (by rw [bitsD_len]; omega)]
theorem or_pow {x r : Nat} (hx : x < 2 ^ r) : x ||| 2 ^ r = x + 2 ^ r := by
  have := Nat.two_pow_add_eq_or_of_lt hx 1
  rw [Nat.mul_one] at this
  rw [Nat.or_comm, ← this, Nat.add_comm]
theorem shl_one {r : Nat} (hr : r < 64) : IntKind.u64.wrap (1 * 2 ^ (min r (IntKind.u64).bits)) = ((2 ^ r : Nat) : Int) := by
  have hp : 2 ^ r < M64 := Nat.lt_of_le_of_lt (Nat.pow_le_pow_right (by omega) (show r ≤ 63 by omega)) (by decide)
  have e : min r (IntKind.u64).bits = r := Nat.min_eq_left (by show r ≤ 64; omega)
  rw [e, Int.one_mul, pow_int, wrap_u64_nat, Nat.mod_eq_of_lt hp]
theorem pow_lt_m {r : Nat} (hr : r < 64) : 2 ^ r < M64 := Nat.lt_of_le_of_lt (Nat.pow_le_pow_right (by omega) (show r ≤ 63 by omega)) (by decide)
theorem set_word {x r : Nat} (hr : r < 64) (hx : x < 2 ^ r) : IntKind.u64.wrap ((BitVec.ofInt (IntKind.u64).bits (x : Int) ||| BitVec.ofInt (IntKind.u64).bits (IntKind.u64.wrap (1 * 2 ^ (min r (IntKind.u64).bits)))).toNat : Int) = ((x + 2 ^ r : Nat) : Int) := by
  have hp := pow_lt_m hr
  have hp2 : 2 ^ (r + 1) ≤ M64 := pow_le64 (by omega)
  rw [Nat.pow_succ] at hp2
  rw [shl_one hr, BitVec.toNat_or, ofInt_toNat (by omega), ofInt_toNat hp, or_pow hx, wrap_u64_nat, Nat.mod_eq_of_lt (by omega)]
theorem clear_word {x r : Nat} (hr : r < 64) (hx : x < 2 ^ r) : IntKind.u64.wrap ((BitVec.ofInt (IntKind.u64).bits (x : Int) &&& ~~~BitVec.ofInt (IntKind.u64).bits (IntKind.u64.wrap (1 * 2 ^ (min r (IntKind.u64).bits)))).toNat : Int) = (x : Int) := by
  have hp := pow_lt_m hr
  rw [shl_one hr]
  have key : BitVec.ofInt 64 (x : Int) &&& ~~~BitVec.ofInt 64 ((2 ^ r : Nat) : Int) = BitVec.ofInt 64 (x : Int) := by
    apply BitVec.eq_of_getLsbD_eq
    intro i hi
    rw [BitVec.getLsbD_and, BitVec.getLsbD_not]
    have e1 : (BitVec.ofInt 64 (x : Int)).getLsbD i = x.testBit i := by
      show (BitVec.ofInt 64 (x : Int)).toNat.testBit i = _
      have : (BitVec.ofInt 64 (x : Int)).toNat = x := ofInt_toNat (by omega)
      rw [this]
    have e2 : (BitVec.ofInt 64 ((2 ^ r : Nat) : Int)).getLsbD i = (2 ^ r).testBit i := by
      show (BitVec.ofInt 64 ((2 ^ r : Nat) : Int)).toNat.testBit i = _
      have : (BitVec.ofInt 64 ((2 ^ r : Nat) : Int)).toNat = 2 ^ r := ofInt_toNat hp
      rw [this]
    rw [e1, e2, Nat.testBit_two_pow, decide_eq_true hi]
    by_cases h : r = i
    · subst h
      rw [Nat.testBit_lt_two_pow hx]; rfl
    · rw [decide_eq_false h]; simp
  have k2 : (BitVec.ofInt (IntKind.u64).bits (x : Int) &&& ~~~BitVec.ofInt (IntKind.u64).bits ((2 ^ r : Nat) : Int)).toNat = x := by
    show (BitVec.ofInt 64 (x : Int) &&& ~~~BitVec.ofInt 64 ((2 ^ r : Nat) : Int)).toNat = x
    rw [key]
    exact ofInt_toNat (by omega)
  rw [k2, wrap_u64_nat, Nat.mod_eq_of_lt (by omega)]
theorem set_is {w v j : Nat} (h2 : w ≤ 128) (hj : j < w) (hv : v < 2 ^ j) (b : Bool) : Ev (fun n => bv_Vec_set n (.int .i64 (w : Int)) (.int .i64 (j : Int)) (.bool b) (.lst 1 (wordsN w v))) fun r => r = (true, [.lst 1 (wordsN w (v + b.toNat * 2 ^ j))]) := by
  have e1 : IntKind.i64.wrap ((j : Int).tdiv 64) = ((j / 64 : Nat) : Int) := by
    rw [Int.tdiv_eq_ediv_of_nonneg (by omega), wrap_id (by omega) (by omega)]; omega
  have e2 : (j : Int).tmod 64 = ((j % 64 : Nat) : Int) := by rw [Int.tmod_eq_emod_of_nonneg (by omega)]; omega
  refine Ev.eq (fun n => bv_Vec_set_eq n _ _ _ _) ?_
  rw [e1, e2]
  by_cases hw : w ≤ 64
  · have e3 : j / 64 = 0 := by omega
    have e4 : j % 64 = j := by omega
    rw [e3, e4, wordsN1 hw, wordsN1 hw]
    cases b with
    | true =>
      refine Ev.yes rfl (Ev.yes rfl (Ev.yes rfl (Ev.no (decide_eq_false (by omega)) (Ev.yes rfl (Ev.ret ?_)))))
      show (true, [D.lst 1 [.int .u64 (IntKind.u64.wrap ((BitVec.ofInt (IntKind.u64).bits (v : Int) ||| BitVec.ofInt (IntKind.u64).bits (IntKind.u64.wrap (1 * 2 ^ (min j (IntKind.u64).bits)))).toNat : Int))]]) = _
      rw [set_word (by omega) hv]
      simp [wd]
    | false =>
      refine Ev.no rfl (Ev.yes rfl (Ev.yes rfl (Ev.no (decide_eq_false (by omega)) (Ev.yes rfl (Ev.ret ?_)))))
      show (true, [D.lst 1 [.int .u64 (IntKind.u64.wrap ((BitVec.ofInt (IntKind.u64).bits (v : Int) &&& ~~~BitVec.ofInt (IntKind.u64).bits (IntKind.u64.wrap (1 * 2 ^ (min j (IntKind.u64).bits)))).toNat : Int))]]) = _
      rw [clear_word (by omega) hv]
      simp [wd]
  · have hw : 64 < w := by omega
    rw [wordsN2 hw, wordsN2 hw]
    by_cases h64 : j < 64
    · have e3 : j / 64 = 0 := by omega
      have e4 : j % 64 = j := by omega
      have hp := pow_lt_m h64
      have hp2 : 2 ^ (j + 1) ≤ M64 := pow_le64 (by omega)
      rw [Nat.pow_succ] at hp2
      have d0 : v / M64 = 0 := Nat.div_eq_of_lt (by omega)
      have m0 : v % M64 = v := Nat.mod_eq_of_lt (by omega)
      rw [e3, e4, d0, m0]
      cases b with
      | true =>
        refine Ev.yes rfl (Ev.yes rfl (Ev.yes rfl (Ev.no (decide_eq_false (by omega)) (Ev.yes rfl (Ev.ret ?_)))))
        show (true, [D.lst 1 [.int .u64 (IntKind.u64.wrap ((BitVec.ofInt (IntKind.u64).bits (v : Int) ||| BitVec.ofInt (IntKind.u64).bits (IntKind.u64.wrap (1 * 2 ^ (min j (IntKind.u64).bits)))).toNat : Int)), wd 0]]) = _
        rw [set_word h64 hv, show v + true.toNat * 2 ^ j = v + 2 ^ j by simp, Nat.div_eq_of_lt (show v + 2 ^ j < M64 by omega), Nat.mod_eq_of_lt (show v + 2 ^ j < M64 by omega)]
        rfl
      | false =>
        refine Ev.no rfl (Ev.yes rfl (Ev.yes rfl (Ev.no (decide_eq_false (by omega)) (Ev.yes rfl (Ev.ret ?_)))))
        show (true, [D.lst 1 [.int .u64 (IntKind.u64.wrap ((BitVec.ofInt (IntKind.u64).bits (v : Int) &&& ~~~BitVec.ofInt (IntKind.u64).bits (IntKind.u64.wrap (1 * 2 ^ (min j (IntKind.u64).bits)))).toNat : Int)), wd 0]]) = _
        rw [clear_word h64 hv, show v + false.toNat * 2 ^ j = v by simp, d0, m0]
        rfl
    · have e3 : j / 64 = 1 := by omega
      have e4 : j % 64 = j - 64 := by omega
      have hps := pow_split (show 64 < j + 1 by omega)
      have hd : v / M64 < 2 ^ (j - 64) := by
        by_cases hj64 : j = 64
        · subst hj64
          have : v < M64 * 1 := by rw [Nat.mul_one]; exact hv
          exact Nat.div_lt_of_lt_mul this
        · exact div_lt (by omega) hv
      have hpj : 2 ^ j = M64 * 2 ^ (j - 64) := by
        have : j = 64 + (j - 64) := by omega
        rw [this, Nat.pow_add]
        have e : 64 + (j - 64) - 64 = j - 64 := by omega
        rw [e]; rfl
      rw [e3, e4]
      cases b with
      | true =>
        refine Ev.yes rfl (Ev.yes rfl (Ev.yes rfl (Ev.no (decide_eq_false (by omega)) (Ev.yes rfl (Ev.ret ?_)))))
        show (true, [D.lst 1 [wd (v % M64), .int .u64 (IntKind.u64.wrap ((BitVec.ofInt (IntKind.u64).bits ((v / M64 : Nat) : Int) ||| BitVec.ofInt (IntKind.u64).bits (IntKind.u64.wrap (1 * 2 ^ (min (j - 64) (IntKind.u64).bits)))).toNat : Int))]]) = _
        rw [set_word (by omega) hd, show v + true.toNat * 2 ^ j = v + M64 * 2 ^ (j - 64) by rw [← hpj]; simp, Nat.add_mul_mod_self_left, Nat.add_mul_div_left _ _ (by decide)]
        rfl
      | false =>
        refine Ev.no rfl (Ev.yes rfl (Ev.yes rfl (Ev.no (decide_eq_false (by omega)) (Ev.yes rfl (Ev.ret ?_)))))
        show (true, [D.lst 1 [wd (v % M64), .int .u64 (IntKind.u64.wrap ((BitVec.ofInt (IntKind.u64).bits ((v / M64 : Nat) : Int) &&& ~~~BitVec.ofInt (IntKind.u64).bits (IntKind.u64.wrap (1 * 2 ^ (min (j - 64) (IntKind.u64).bits)))).toNat : Int))]]) = _
        rw [clear_word (by omega) hd, show v + false.toNat * 2 ^ j = v by simp]
        rfl
theorem Of_is {l : List Bool} (h1 : 1 ≤ l.length) (h2 : l.length ≤ 128) : Ev (fun n => bv_Of n (.lst 1 (l.map bD))) fun r => r = (true, [vec l.length (numB l), .int .i64 0]) := by
  refine Ev.eq (fun n => bv_Of_eq n _) ?_
  rw [List.length_map]
  refine evCall (good_is h1 h2) (Ev.yes rfl (Ev.no rfl (evCall (blank_is h1 h2) (Ev.yes rfl ?_))))
  have loop : ∀ (k j : Nat), l.length - j = k → j ≤ l.length →
      Ev (fun n => bv_Of_L0 n (.lst 1 (l.map bD)) (.int .i64 (l.length : Int)) (.int .i64 (j : Int)) (.int .i64 0) (.int .i64 (l.length : Int)) (.lst 1 []) (.lst 1 (wordsN l.length (numB (l.take j))))) fun r =>
        r = (false, [.lst 1 (l.map bD), .int .i64 (l.length : Int), .int .i64 (l.length : Int), .int .i64 0, .int .i64 (l.length : Int), .lst 1 [], .lst 1 (wordsN l.length (numB l))]) := by
    intro k
    induction k with
    | zero =>
      intro j hk hj
      have : j = l.length := by omega
      subst this
      refine Ev.eq (fun n => bv_Of_L0_eq n _ _ _ _ _ _ _) (Ev.no (decide_eq_false (by omega)) (Ev.ret ?_))
      rw [List.take_length]
    | succ k ih =>
      intro j hk hj
      have hj2 : j < l.length := by omega
      have hj3 : j < (l.map bD).length := by rw [List.length_map]; exact hj2
      have hw : IntKind.i64.wrap ((j : Int) + 1) = ((j + 1 : Nat) : Int) := wrap_succ (by omega)
      refine Ev.eq (fun n => bv_Of_L0_eq n _ _ _ _ _ _ _) (Ev.yes (decide_eq_true (by omega)) (Ev.yes (in_range hj3) ?_))
      rw [get_nat hj3, hw, List.getElem_map]
      have hlt : numB (l.take j) < 2 ^ j := by
        have := numB_lt (l.take j)
        rwa [List.length_take, Nat.min_eq_left hj] at this
      refine Ev.yes rfl (evCall (set_is (w := l.length) h2 hj2 hlt l[j]) (Ev.yes rfl ?_))
      have i1 := ih (j + 1) (by omega) hj2
      rw [List.take_succ_eq_append_getElem hj2, numB_snoc, List.length_take, Nat.min_eq_left hj] at i1
      exact i1
  have l0 := loop l.length 0 rfl (Nat.zero_le _)
  exact evLoop l0 (Ev.yes rfl (Ev.ret rfl))
def ownVec (l : List Bool) : D := if 1 ≤ l.length ∧ l.length ≤ 128 then vec l.length (numB l) else .agg [.int .i64 0, .lst 1 []]
theorem Of_bad {l : List Bool} (h : ¬ (1 ≤ l.length ∧ l.length ≤ 128)) : Ev (fun n => bv_Of n (.lst 1 (l.map bD))) fun r => r = (true, [.agg [.int .i64 0, .lst 1 []], .int .i64 2]) := by
  refine Ev.eq (fun n => bv_Of_eq n _) ?_
  rw [List.length_map]
  refine evCall (ds := [.bool false]) (Ev.eq (fun n => bv_good_eq n _) (Ev.test (fun h1 => Ev.ret ?_) fun _ => Ev.ret rfl)) (Ev.yes rfl (Ev.yes rfl (Ev.ret rfl)))
  have h1 := of_decide_eq_true h1
  rw [decide_eq_false (by omega)]
theorem own1_is (l : List Bool) : Ev (fun n => law01_Own n (.lst 1 (l.map bD))) fun r => r = (true, [ownVec l]) := by
  refine Ev.eq (fun n => law01_Own_eq n _) ?_
  unfold ownVec
  by_cases h : 1 ≤ l.length ∧ l.length ≤ 128
  · rw [if_pos h]
    exact evCall (Of_is h.1 h.2) (Ev.yes rfl (Ev.ret rfl))
  · rw [if_neg h]
    exact evCall (Of_bad h) (Ev.yes rfl (Ev.ret rfl))
end Go.Proofs.YthlhbocobgkdmaaGreat
