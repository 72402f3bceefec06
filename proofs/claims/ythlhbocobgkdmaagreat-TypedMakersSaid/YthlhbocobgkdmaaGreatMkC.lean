/- Division, bit by bit from the highest: quotient and rest. -/
import Derived.Test.YthlhbocobgkdmaaGreatMkB
namespace Go.Proofs.YthlhbocobgkdmaaGreat
open Go.AE
set_option linter.unusedVariables false
set_option linter.unusedSimpArgs false
theorem div_step {a b i : Nat} (hb : 0 < b) : (2 * (a / 2 ^ (i + 1) % b) + (a.testBit i).toNat < b → a / 2 ^ i / b = 2 * (a / 2 ^ (i + 1) / b) ∧ a / 2 ^ i % b = 2 * (a / 2 ^ (i + 1) % b) + (a.testBit i).toNat) ∧
    (b ≤ 2 * (a / 2 ^ (i + 1) % b) + (a.testBit i).toNat → a / 2 ^ i / b = 2 * (a / 2 ^ (i + 1) / b) + 1 ∧ a / 2 ^ i % b = 2 * (a / 2 ^ (i + 1) % b) + (a.testBit i).toNat - b) := by
  have h := shr_bit a i
  have e := Nat.div_add_mod (a / 2 ^ (i + 1)) b
  have l := Nat.mod_lt (a / 2 ^ (i + 1)) hb
  have hs : (a.testBit i).toNat ≤ 1 := Bool.toNat_le _
  generalize a / 2 ^ (i + 1) / b = q at *
  generalize a / 2 ^ (i + 1) % b = r at *
  generalize (a.testBit i).toNat = s at *
  have m1 : b * (2 * q) = 2 * (b * q) := by rw [Nat.mul_left_comm]
  have m2 : b * (2 * q + 1) = 2 * (b * q) + b := by rw [Nat.mul_add, Nat.mul_one, m1]
  refine ⟨fun hx => (Nat.div_mod_unique hb).2 ⟨by rw [m1]; omega, hx⟩, fun hx => (Nat.div_mod_unique hb).2 ⟨by rw [m2]; omega, by omega⟩⟩
theorem div_le_a (a b i : Nat) : 2 ^ i * (a / 2 ^ i / b) ≤ a :=
  Nat.le_trans (Nat.mul_le_mul_left _ (Nat.div_le_self _ _)) (Nat.mul_div_le a (2 ^ i))
theorem up_mul {w a b : Nat} : fillN (upF b a) w = (a * 2 ^ b) % 2 ^ w := by
  refine fill_ext (Nat.mod_lt _ (Nat.two_pow_pos w)) fun i hi => ?_
  rw [Nat.testBit_mod_two_pow, decide_eq_true hi, Bool.true_and, Nat.testBit_mul_two_pow]
  rfl
theorem top_bit {w r : Nat} (h1 : 1 ≤ w) (hr : r < 2 ^ w) : r.testBit (w - 1) = decide (2 ^ w ≤ 2 * r) := by
  obtain ⟨k, rfl⟩ : ∃ k, w = k + 1 := ⟨w - 1, by omega⟩
  rw [Nat.add_sub_cancel, Nat.testBit_eq_decide_div_mod_eq]
  rw [Nat.pow_succ] at hr ⊢
  have hp := Nat.two_pow_pos k
  by_cases h : 2 ^ k ≤ r
  · have : r / 2 ^ k = 1 := (Nat.div_eq_iff hp).2 ⟨by omega, by omega⟩
    rw [this]
    exact ((decide_eq_true (show 2 ^ k * 2 ≤ 2 * r by omega)).trans rfl).symm
  · rw [Nat.div_eq_of_lt (by omega)]
    exact ((decide_eq_false (show ¬ 2 ^ k * 2 ≤ 2 * r by omega)).trans rfl).symm
theorem or_hi (r c : Nat) : 2 ^ (r + 1) * c ||| 2 ^ r = 2 ^ (r + 1) * c + 2 ^ r :=
  (Nat.two_pow_add_eq_or_of_lt (Nat.pow_lt_pow_right (by omega) (by omega)) c).symm
theorem or_nat {x y : Nat} (hx : x < M64) (hy : y < M64) : (BitVec.ofInt (IntKind.u64).bits (x : Int) ||| BitVec.ofInt (IntKind.u64).bits (y : Int)).toNat = x ||| y := by
  rw [BitVec.toNat_or, ofInt_toNat hx, ofInt_toNat hy]
theorem xor_nat {x y : Nat} (hx : x < M64) (hy : y < M64) : (BitVec.ofInt (IntKind.u64).bits (x : Int) ^^^ BitVec.ofInt (IntKind.u64).bits (y : Int)).toNat = x ^^^ y := by
  rw [BitVec.toNat_xor, ofInt_toNat hx, ofInt_toNat hy]
theorem clear_hi {v r : Nat} (hr : r < 64) (hv : v < M64) (hb : v.testBit r = false) : IntKind.u64.wrap ((BitVec.ofInt (IntKind.u64).bits (v : Int) &&& ~~~BitVec.ofInt (IntKind.u64).bits (IntKind.u64.wrap (1 * 2 ^ (min r (IntKind.u64).bits)))).toNat : Int) = (v : Int) := by
  rw [shl_one hr]
  have hp := pow_lt_m hr
  have e : (BitVec.ofInt (IntKind.u64).bits (v : Int) &&& ~~~BitVec.ofInt (IntKind.u64).bits ((2 ^ r : Nat) : Int)) = BitVec.ofInt (IntKind.u64).bits (v : Int) := by
    apply BitVec.eq_of_getLsbD_eq
    intro i hi
    have hi : i < 64 := hi
    rw [BitVec.getLsbD_and, BitVec.getLsbD_not]
    have e1 : (BitVec.ofInt (IntKind.u64).bits (v : Int)).getLsbD i = v.testBit i := by
      show (BitVec.ofInt (IntKind.u64).bits (v : Int)).toNat.testBit i = _
      rw [ofInt_toNat hv]
    have e2 : (BitVec.ofInt (IntKind.u64).bits ((2 ^ r : Nat) : Int)).getLsbD i = (2 ^ r).testBit i := by
      show (BitVec.ofInt (IntKind.u64).bits ((2 ^ r : Nat) : Int)).toNat.testBit i = _
      rw [ofInt_toNat hp]
    rw [e1, e2, Nat.testBit_two_pow]
    have h64 : decide (i < (IntKind.u64).bits) = true := decide_eq_true hi
    rw [h64]
    by_cases h : r = i
    · subst h; rw [hb]; rfl
    · rw [decide_eq_false h]; simp
  rw [e, ofInt_toNat hv, wrap_u64_nat, Nat.mod_eq_of_lt hv]
theorem set_hi {w j c : Nat} (h2 : w ≤ 64) (hj : j < w) (hv : 2 ^ (j + 1) * c < 2 ^ w) (b : Bool) : Ev (fun n => bv_Vec_set n (.int .i64 (w : Int)) (.int .i64 (j : Int)) (.bool b) (.lst 1 [wd (2 ^ (j + 1) * c)])) fun r => r = (true, [.lst 1 [wd (2 ^ (j + 1) * c + b.toNat * 2 ^ j)]]) := by
  have e1 : IntKind.i64.wrap ((j : Int).tdiv 64) = 0 := by
    rw [Int.tdiv_eq_ediv_of_nonneg (by omega), wrap_id (by omega) (by omega)]; omega
  have e2 : (j : Int).tmod 64 = (j : Int) := by rw [Int.tmod_eq_emod_of_nonneg (by omega)]; omega
  have hm := lt_m64 h2 hv
  refine Ev.eq (fun n => bv_Vec_set_eq n _ _ _ _) ?_
  rw [e1, e2]
  cases b with
  | true =>
    refine Ev.yes rfl (Ev.yes rfl (Ev.yes rfl (Ev.no (decide_eq_false (by omega)) (Ev.yes rfl (Ev.ret ?_)))))
    show (true, [D.lst 1 [.int .u64 (IntKind.u64.wrap ((BitVec.ofInt (IntKind.u64).bits ((2 ^ (j + 1) * c : Nat) : Int) ||| BitVec.ofInt (IntKind.u64).bits (IntKind.u64.wrap (1 * 2 ^ (min j (IntKind.u64).bits)))).toNat : Int))]]) = _
    have hlt : 2 ^ (j + 1) * c + 2 ^ j < M64 := by
      rw [← or_hi]
      exact Nat.or_lt_two_pow (n := 64) hm (pow_lt_m (by omega))
    rw [shl_one (by omega), or_nat hm (pow_lt_m (by omega)), or_hi, wrap_u64_nat, Nat.mod_eq_of_lt hlt]
    simp [wd]
  | false =>
    refine Ev.no rfl (Ev.yes rfl (Ev.yes rfl (Ev.no (decide_eq_false (by omega)) (Ev.yes rfl (Ev.ret ?_)))))
    show (true, [D.lst 1 [.int .u64 (IntKind.u64.wrap ((BitVec.ofInt (IntKind.u64).bits ((2 ^ (j + 1) * c : Nat) : Int) &&& ~~~BitVec.ofInt (IntKind.u64).bits (IntKind.u64.wrap (1 * 2 ^ (min j (IntKind.u64).bits)))).toNat : Int))]]) = _
    rw [clear_hi (by omega) hm (by rw [Nat.testBit_two_pow_mul, decide_eq_false (by omega), Bool.false_and])]
    simp [wd]
def qN (w a b : Nat) : Nat := bif decide (b ≠ 0) then a / b else 2 ^ w - 1
theorem qN_lt {w a b : Nat} (ha : a < 2 ^ w) : qN w a b < 2 ^ w := by
  unfold qN
  have := Nat.two_pow_pos w
  cases decide (b ≠ 0) with
  | true => exact Nat.lt_of_le_of_lt (Nat.div_le_self _ _) ha
  | false => show 2 ^ w - 1 < 2 ^ w; omega
theorem rN_lt {w a b : Nat} (ha : a < 2 ^ w) : a % b < 2 ^ w := Nat.lt_of_le_of_lt (Nat.mod_le _ _) ha
theorem split_is {w a b : Nat} (h1 : 1 ≤ w) (h2 : w ≤ 64) (ha : a < 2 ^ w) (hb : b < 2 ^ w) : Ev (fun n => bv_split n (vec w a) (vec w b)) fun r => r = (true, [vec w (qN w a b), vec w (a % b)]) := by
  refine Ev.eq (fun n => bv_split_eq n ..) (evCall (any_is h2) (Ev.yes rfl ?_))
  by_cases hb0 : b = 0
  · subst hb0
    refine Ev.yes rfl (evCall (blank_is h1 (by omega)) (Ev.yes rfl (evCall (not_is (a := 0) h1 (by omega) (Nat.two_pow_pos w)) (Ev.yes ?_ (Ev.ret ?_)))))
    · rw [wordsN1 h2]; rfl
    · rw [Nat.mod_zero]; rfl
  · have hbp : 0 < b := by omega
    have hd : decide (b ≠ 0) = true := decide_eq_true hb0
    rw [hd]
    refine Ev.no rfl (evCall (blank_is h1 (by omega)) (Ev.yes rfl (evCall (blank_is h1 (by omega)) (Ev.yes rfl ?_))))
    have loop : ∀ i, i ≤ w → Ev (fun n => bv_split_L0 n (.int .i64 ((i : Int) - 1)) (.int .i64 (w : Int)) (.lst 1 (wordsN w a)) (.int .i64 (w : Int)) (.lst 1 (wordsN w b)) (.int .i64 0) (.int .i64 0) (.int .i64 (w : Int)) (.int .i64 (w : Int)) (.lst 1 []) (.lst 1 []) (.lst 1 [wd (2 ^ i * (a / 2 ^ i / b))]) (.lst 1 [wd (a / 2 ^ i % b)])) fun r =>
        ∃ i' : Int, r = (false, [.int .i64 i', .int .i64 (w : Int), .lst 1 (wordsN w a), .int .i64 (w : Int), .lst 1 (wordsN w b), .int .i64 0, .int .i64 0, .int .i64 (w : Int), .int .i64 (w : Int), .lst 1 [], .lst 1 [], .lst 1 [wd (a / b)], .lst 1 [wd (a % b)]]) := by
      intro i
      induction i with
      | zero =>
        intro hi
        rw [Nat.pow_zero, Nat.div_one, Nat.one_mul]
        exact Ev.eq (fun n => bv_split_L0_eq n ..) (Ev.no (by decide) (Ev.ret ⟨_, rfl⟩))
      | succ i ih =>
        intro hi
        have hi2 : i < w := hi
        have nx := ih (by omega)
        have st := div_step (a := a) (b := b) (i := i) hbp
        have hrb : a / 2 ^ (i + 1) % b < b := Nat.mod_lt _ hbp
        have hq := div_le_a a b (i + 1)
        rw [show (((i + 1 : Nat) : Int) - 1) = (i : Int) by omega]
        refine Ev.eq (fun n => bv_split_L0_eq n ..) (Ev.yes (decide_eq_true (by omega)) ?_)
        generalize hR : a / 2 ^ (i + 1) % b = R at *
        generalize hQ : a / 2 ^ (i + 1) / b = Q at *
        have hRw : R < 2 ^ w := by omega
        have bs : (a.testBit i).toNat ≤ 1 := Bool.toNat_le _
        have neg := negative_is (w := w) (a := R) h1 (by omega) hRw
        have up := up_is (w := w) (a := R) (b := 1) h1 (by omega) hRw (by omega)
        have hpe : 2 ^ w = 2 * 2 ^ (w - 1) := by
          rw [show w = w - 1 + 1 by omega, Nat.pow_succ, Nat.add_sub_cancel, Nat.mul_comm]
        have hev : R * 2 ^ 1 % 2 ^ w = 2 ^ (0 + 1) * (R % 2 ^ (w - 1)) := by
          rw [hpe, Nat.pow_one, Nat.mul_comm R 2, Nat.mul_mod_mul_left]
        have hlt : R * 2 ^ 1 % 2 ^ w < 2 ^ w := Nat.mod_lt _ (Nat.two_pow_pos w)
        rw [up_mul, wordsN1 h2] at up
        have vecE : ∀ x, vec w x = .agg [.int .i64 (w : Int), .lst 1 [wd x]] := fun x => by unfold vec; rw [wordsN1 h2]
        rw [vecE] at neg up
        refine evCall neg (Ev.yes rfl (evCall up (Ev.yes rfl (evCall (bit_is (by omega) ha) (Ev.yes rfl ?_)))))
        have s0 := set_hi (w := w) (j := 0) (c := R % 2 ^ (w - 1)) h2 (by omega) (by rw [← hev]; exact hlt) (a.testBit i)
        rw [← hev, Nat.pow_zero, Nat.mul_one] at s0
        refine evCall s0 (Ev.yes rfl ?_)
        have hX : R * 2 ^ 1 % 2 ^ w + (a.testBit i).toNat < 2 ^ w := by
          have : R % 2 ^ (w - 1) < 2 ^ (w - 1) := Nat.mod_lt _ (Nat.two_pow_pos _)
          rw [hev]
          simp only [Nat.zero_add, Nat.pow_one]
          omega
        rw [top_bit h1 hRw]
        have fin : b ≤ 2 * R + (a.testBit i).toNat → (R * 2 ^ 1 % 2 ^ w + (a.testBit i).toNat + (2 ^ w - 1 - b) + 1) % 2 ^ w = 2 * R + (a.testBit i).toNat - b := by
          intro hge
          by_cases ho : 2 ^ w ≤ 2 * R
          · have : R * 2 ^ 1 % 2 ^ w = 2 * R - 2 ^ w := by
              rw [Nat.pow_one, Nat.mul_comm, Nat.mod_eq_sub_mod ho, Nat.mod_eq_of_lt (by omega)]
            rw [this, Nat.mod_eq_of_lt (by omega)]; omega
          · have : R * 2 ^ 1 % 2 ^ w = 2 * R := by rw [Nat.pow_one, Nat.mul_comm, Nat.mod_eq_of_lt (by omega)]
            rw [this]
            have e : 2 * R + (a.testBit i).toNat + (2 ^ w - 1 - b) + 1 = (2 * R + (a.testBit i).toNat - b) + 2 ^ w := by omega
            rw [e, Nat.add_mod_right, Nat.mod_eq_of_lt (by omega)]
        have yes : b ≤ 2 * R + (a.testBit i).toNat → Ev (fun n => bv_split_L0_j1 n true (w : Int) (wordsN w b) [.int .i64 (w : Int), .lst 1 [wd (R * 2 ^ 1 % 2 ^ w)]] [.lst 1 [wd (R * 2 ^ 1 % 2 ^ w + (a.testBit i).toNat)]] (w : Int) (i : Int) [wd (2 ^ (i + 1) * Q)] (w : Int) (wordsN w a) 0 0 [] []) fun r => ∃ i' : Int, r = (false, [.int .i64 i', .int .i64 (w : Int), .lst 1 (wordsN w a), .int .i64 (w : Int), .lst 1 (wordsN w b), .int .i64 0, .int .i64 0, .int .i64 (w : Int), .int .i64 (w : Int), .lst 1 [], .lst 1 [], .lst 1 [wd (a / b)], .lst 1 [wd (a % b)]]) := by
          intro hge
          obtain ⟨k1, k2⟩ := st.2 hge
          rw [k1, k2, ← fin hge, show 2 ^ i * (2 * Q + 1) = 2 ^ (i + 1) * Q + true.toNat * 2 ^ i by rw [Nat.mul_add, Nat.pow_succ, Nat.mul_one, ← Nat.mul_assoc]; simp] at nx
          have pl := plus_is (w := w) (a := R * 2 ^ 1 % 2 ^ w + (a.testBit i).toNat) (b := 2 ^ w - 1 - b) (k := 1) h1 (by omega) hX (by omega) (by omega)
          rw [vecE, vecE, wordsN1 h2] at pl
          have nt := not_is (w := w) (a := b) h1 (by omega) hb
          rw [wordsN1 h2] at nt
          refine evDfn (fun n => bv_split_L0_j1_def n ..) (Ev.yes rfl (evCall nt (Ev.yes rfl (evCall pl (Ev.yes rfl (evCall (set_hi h2 hi2 (by omega) true) (Ev.yes rfl ?_)))))))
          rw [wrap_id (x := (i : Int) - 1) (by omega) (by omega)]
          exact nx
        have no : 2 * R + (a.testBit i).toNat < b → ¬ 2 ^ w ≤ 2 * R → Ev (fun n => bv_split_L0_j1 n false (w : Int) (wordsN w b) [.int .i64 (w : Int), .lst 1 [wd (R * 2 ^ 1 % 2 ^ w)]] [.lst 1 [wd (R * 2 ^ 1 % 2 ^ w + (a.testBit i).toNat)]] (w : Int) (i : Int) [wd (2 ^ (i + 1) * Q)] (w : Int) (wordsN w a) 0 0 [] []) fun r => ∃ i' : Int, r = (false, [.int .i64 i', .int .i64 (w : Int), .lst 1 (wordsN w a), .int .i64 (w : Int), .lst 1 (wordsN w b), .int .i64 0, .int .i64 0, .int .i64 (w : Int), .int .i64 (w : Int), .lst 1 [], .lst 1 [], .lst 1 [wd (a / b)], .lst 1 [wd (a % b)]]) := by
          intro hlt2 ho
          obtain ⟨k1, k2⟩ := st.1 hlt2
          have e : R * 2 ^ 1 % 2 ^ w = 2 * R := by rw [Nat.pow_one, Nat.mul_comm, Nat.mod_eq_of_lt (by omega)]
          rw [k1, k2, show 2 ^ i * (2 * Q) = 2 ^ (i + 1) * Q by rw [Nat.pow_succ, Nat.mul_assoc]] at nx
          refine evDfn (fun n => bv_split_L0_j1_def n ..) (Ev.no rfl ?_)
          rw [wrap_id (x := (i : Int) - 1) (by omega) (by omega), e]
          exact nx
        by_cases ho : 2 ^ w ≤ 2 * R
        · rw [decide_eq_true ho]
          exact Ev.yes rfl (yes (by omega))
        · rw [decide_eq_false ho]
          have e : R * 2 ^ 1 % 2 ^ w = 2 * R := by rw [Nat.pow_one, Nat.mul_comm, Nat.mod_eq_of_lt (by omega)]
          have ls := less_is (w := w) (a := R * 2 ^ 1 % 2 ^ w + (a.testBit i).toNat) (b := b) h2
          rw [vecE, e] at ls
          rw [e] at yes no ⊢
          refine Ev.no rfl (evCall ls (Ev.yes rfl ?_))
          by_cases hx : 2 * R + (a.testBit i).toNat < b
          · rw [decide_eq_true hx]
            exact no hx ho
          · rw [decide_eq_false hx]
            exact yes (by omega)
    have l := loop w (Nat.le_refl _)
    rw [Nat.div_eq_of_lt ha, Nat.zero_div, Nat.zero_mod, Nat.mul_zero] at l
    rw [wrap_id (by omega) (by omega), wordsN1 (n := 0) h2]
    refine Ev.bindL l (fun ds h => by obtain ⟨_, h⟩ := h; cases h) fun ds h => ?_
    obtain ⟨_, h⟩ := h
    cases h
    refine Ev.yes rfl (Ev.ret ?_)
    rw [show qN w a b = a / b by unfold qN; rw [hd]; rfl]
    unfold vec
    simp only [wordsN1 h2]; rfl
/-- The document's division. -/
theorem plain_move (w n : Nat) : (chk ref01_Move.osk [D.lst 1 (bitsD w n)] && plainDs ref01_Move.osk [D.lst 1 (bitsD w n)]) = true := by
  simp [plainDs, bitsD_plain]; rfl
theorem plain_not (w n : Nat) : (chk ref01_Not.osk [D.lst 1 (bitsD w n)] && plainDs ref01_Not.osk [D.lst 1 (bitsD w n)]) = true := by
  simp [plainDs, bitsD_plain]; rfl
theorem move_one {w r : Nat} (hr : r < 2 ^ w) (s : Bool) : fillN (moveF (w + 1) r 1 s) (w + 1) = 2 * r + s.toNat := by
  have hs : s.toNat ≤ 1 := Bool.toNat_le _
  refine fill_ext (by rw [Nat.pow_succ]; omega) fun i hi => ?_
  cases i with
  | zero =>
    rw [Nat.testBit_zero]
    have : (2 * r + s.toNat) % 2 = s.toNat := by omega
    rw [this]
    cases s <;> rfl
  | succ k =>
    rw [Nat.testBit_succ]
    have : (2 * r + s.toNat) / 2 = r := by omega
    rw [this]
    unfold moveF
    rw [show (((k + 1 : Nat) : Int) - 1) = (k : Int) by omega, decide_eq_true (show (0 : Int) ≤ (k : Int) by omega), decide_eq_true (show (k : Int) < ((w + 1 : Nat) : Int) by omega), Int.toNat_natCast]; rfl
theorem bitsD_set {w i c : Nat} (hi : i < w) : (bitsD w (2 ^ (i + 1) * c)).set i (.bool true) = bitsD w (2 ^ (i + 1) * c + 2 ^ i) := by
  have hl := bitsD_len w (2 ^ (i + 1) * c)
  refine bitsD_ext (by rw [List.length_set, hl]) fun j hj => ?_
  have hp : 2 ^ i < 2 ^ (i + 1) := Nat.pow_lt_pow_right (by omega) (by omega)
  rw [set_get (by rw [hl]; exact hi), Nat.testBit_two_pow_mul_add c hp j, bitsD_get hj, Nat.testBit_two_pow_mul, Nat.testBit_two_pow]
  by_cases e : i = j
  · rw [if_pos e, if_pos (by omega), decide_eq_true e]
  · rw [if_neg e]
    by_cases h : j < i + 1
    · rw [if_pos h, decide_eq_false e, decide_eq_false (by omega), Bool.false_and]
    · rw [if_neg h, decide_eq_true (by omega), Bool.true_and]
theorem bitsD_snoc {w b : Nat} (hb : b < 2 ^ w) : bitsD w b ++ [.bool false] = bitsD (w + 1) b := by
  refine bitsD_ext (by rw [List.length_append, bitsD_len]; rfl) fun i hi => ?_
  by_cases h : i < w
  · rw [List.getElem?_append_left (by rw [bitsD_len]; exact h), bitsD_get h]
  · have : i = w := by omega
    subst this
    rw [List.getElem?_append_right (by rw [bitsD_len]; exact Nat.le_refl _), bitsD_len, Nat.sub_self, Nat.testBit_lt_two_pow hb]; rfl
theorem bitsD_take {w n : Nat} : (bitsD (w + 1) n).take w = bitsD w n := by
  refine bitsD_ext (by rw [List.length_take, bitsD_len]; omega) fun i hi => ?_
  rw [List.getElem?_take, if_pos hi, bitsD_get (by omega)]
theorem Split_is {w a b : Nat} (h1 : 1 ≤ w) (hw : w ≤ 500) (ha : a < 2 ^ w) (hb : b < 2 ^ w) : Ev (fun n => ref01_split n (.lst 1 (bitsD w a)) (.lst 1 (bitsD w b))) fun r => r = (true, [.lst 1 (bitsD w (qN w a b)), .lst 1 (bitsD w (a % b))]) := by
  refine Ev.eq (fun n => ref01_split_eq n ..) (evCall (Any_is (by omega) hb) (Ev.yes rfl ?_))
  have la := bitsD_len w a
  have lb := bitsD_len w b
  by_cases hb0 : b = 0
  · subst hb0
    refine Ev.yes rfl ?_
    rw [rlen, rep_is]
    refine Ev.yes (mk_ok (by omega)) (evCall (Not_is (by omega) (Nat.two_pow_pos w)) (Ev.yes (plain_not _ _) (Ev.ret ?_)))
    rw [Nat.mod_zero]; rfl
  · have hbp : 0 < b := by omega
    have hd : decide (b ≠ 0) = true := decide_eq_true hb0
    rw [hd]
    refine Ev.no rfl ?_
    rw [List.nil_append, rlen, bitsD_snoc hb, show ((w : Int) + 1) = ((w + 1 : Nat) : Int) by omega, wrap_nat (by omega), rep_is, rep_is, show ((w : Int) - 1) = ((w - 1 : Nat) : Int) by omega, wrap_nat (by omega)]
    refine Ev.yes (Nat.ble_eq_true_of_le (by rw [lb]; simp only [maxLst]; omega)) (Ev.yes (Nat.ble_eq_true_of_le (by rw [lb]; simp only [maxLst]; omega)) (Ev.yes (mk_ok (by omega)) (Ev.yes (mk_ok (by omega)) ?_)))
    have loop : ∀ i, i ≤ w → Ev (fun n => ref01_split_L0 n (.lst 1 (bitsD w a)) (.int .i64 ((i : Int) - 1)) (.lst 1 (bitsD (w + 1) b)) (.lst 1 (bitsD (w + 1) (a / 2 ^ i % b))) (.lst 1 (bitsD w (2 ^ i * (a / 2 ^ i / b))))) fun r =>
        ∃ i' : Int, r = (false, [.lst 1 (bitsD w a), .int .i64 i', .lst 1 (bitsD (w + 1) b), .lst 1 (bitsD (w + 1) (a % b)), .lst 1 (bitsD w (a / b))]) := by
      intro i
      induction i with
      | zero =>
        intro hi
        rw [Nat.pow_zero, Nat.div_one, Nat.one_mul]
        exact Ev.eq (fun n => ref01_split_L0_eq n ..) (Ev.no (by decide) (Ev.ret ⟨_, rfl⟩))
      | succ i ih =>
        intro hi
        have hi2 : i < w := hi
        have nx := ih (by omega)
        have st := div_step (a := a) (b := b) (i := i) hbp
        have hrb : a / 2 ^ (i + 1) % b < b := Nat.mod_lt _ hbp
        rw [show (((i + 1 : Nat) : Int) - 1) = (i : Int) by omega]
        refine Ev.eq (fun n => ref01_split_L0_eq n ..) (Ev.yes (decide_eq_true (by omega)) (Ev.yes (and_tt (decide_eq_true (by omega)) (decide_eq_true (by omega))) ?_))
        rw [bitsD_at hi2]
        generalize hR : a / 2 ^ (i + 1) % b = R at *
        generalize hQ : a / 2 ^ (i + 1) / b = Q at *
        have hRw : R < 2 ^ w := by omega
        have bs : (a.testBit i).toNat ≤ 1 := Bool.toNat_le _
        have hp : 2 ^ (w + 1) = 2 * 2 ^ w := by rw [Nat.pow_succ, Nat.mul_comm]
        have mv := Move_is (w := w + 1) (a := R) (d := 1) (by omega) (by omega) (by omega) (a.testBit i)
        rw [move_one hRw] at mv
        refine Ev.yes rfl (evCall mv (Ev.yes (plain_move _ _) (evCall (Less_is (by omega) (by omega) (by omega)) (Ev.yes rfl ?_))))
        by_cases hx : 2 * R + (a.testBit i).toNat < b
        · obtain ⟨k1, k2⟩ := st.1 hx
          rw [k1, k2, show 2 ^ i * (2 * Q) = 2 ^ (i + 1) * Q by rw [Nat.pow_succ, Nat.mul_assoc]] at nx
          rw [decide_eq_true hx]
          refine Ev.no rfl ?_
          rw [wrap_id (x := (i : Int) - 1) (by omega) (by omega)]
          exact nx
        · obtain ⟨k1, k2⟩ := st.2 (by omega)
          rw [k1, k2, show 2 ^ i * (2 * Q + 1) = 2 ^ (i + 1) * Q + 2 ^ i by rw [Nat.mul_add, Nat.pow_succ, Nat.mul_one, ← Nat.mul_assoc]] at nx
          rw [decide_eq_false hx]
          refine Ev.yes rfl (evCall (Not_is (by omega) (by omega)) (Ev.yes (plain_not _ _) (evCall (Plus_is (by omega) _ _ true) (Ev.yes (plain_plus _ _) (Ev.yes ?_ ?_)))))
          · exact and_tt (decide_eq_true (by omega)) (decide_eq_true (by rw [bitsD_len]; omega))
          have e1 : bitsD (w + 1) (2 * R + (a.testBit i).toNat + (2 ^ (w + 1) - 1 - b) + true.toNat) = bitsD (w + 1) (2 * R + (a.testBit i).toNat - b) := by
            refine bitsD_congr ?_
            have e : 2 * R + (a.testBit i).toNat + (2 ^ (w + 1) - 1 - b) + true.toNat = (2 * R + (a.testBit i).toNat - b) + 2 ^ (w + 1) := by
              show 2 * R + (a.testBit i).toNat + (2 ^ (w + 1) - 1 - b) + 1 = _
              omega
            rw [e, Nat.add_mod_right]
          have e2 := bitsD_set (c := Q) hi2
          rw [← e1, ← e2] at nx
          rw [wrap_id (x := (i : Int) - 1) (by omega) (by omega), Int.toNat_natCast]
          exact nx
    have l := loop w (Nat.le_refl _)
    rw [Nat.div_eq_of_lt ha, Nat.zero_div, Nat.zero_mod, Nat.mul_zero, show ((w : Int) - 1) = ((w - 1 : Nat) : Int) by omega] at l
    refine Ev.bindL l (fun ds h => by obtain ⟨_, h⟩ := h; cases h) fun ds h => ?_
    obtain ⟨_, h⟩ := h
    cases h
    refine Ev.yes rfl (Ev.yes ?_ (Ev.ret ?_))
    · exact and_tt (and_tt rfl (decide_eq_true (by omega))) (decide_eq_true (by show ((bitsD w a).length : Int) ≤ ((bitsD (w + 1) (a % b)).length : Int); rw [bitsD_len, bitsD_len]; omega))
    · rw [show qN w a b = a / b by unfold qN; rw [hd]; rfl]
      show (true, [D.lst 1 (bitsD w (a / b)), D.lst 1 (((bitsD (w + 1) (a % b)).drop 0).take (((bitsD w a).length : Int).toNat - 0))]) = _
      rw [rlen, Int.toNat_natCast, List.drop_zero, Nat.sub_zero, bitsD_take]
end Go.Proofs.YthlhbocobgkdmaaGreat
