/- A vector is the document's list of bits: its text, bits and words are told alike. -/
import Derived.Test.YthlhbocobgkdmaaGreatMkH
namespace Go.Proofs.YthlhbocobgkdmaaGreat
open Go.AE
set_option linter.unusedVariables false
set_option linter.unusedSimpArgs false
def cD (c : UInt8) : D := .int .u8 (c.toNat : Int)
theorem toByte_cD : ∀ l : List UInt8, (l.map cD).map toByte = l
  | [] => rfl
  | c :: l => by
    show toByte (cD c) :: (l.map cD).map toByte = c :: l
    rw [toByte_cD l]
    congr 1
    show (c.toNat : Int).toNat.toUInt8 = c
    rw [Int.toNat_natCast]
    exact UInt8.ofNat_toNat
theorem allBytes_cD : ∀ l : List UInt8, allBytes (l.map cD) = true
  | [] => rfl
  | c :: l => allBytes_cD l
def chB (b : Bool) : UInt8 := bif b then 49 else 48
def tx (a : Nat) : Nat → List UInt8
  | 0 => []
  | j + 1 => chB (a.testBit j) :: tx a j
theorem tx_len (a : Nat) : ∀ j, (tx a j).length = j
  | 0 => rfl
  | j + 1 => by show (tx a j).length + 1 = j + 1; rw [tx_len]
theorem tx_get (a : Nat) : ∀ j k, k < j → (tx a j)[k]? = some (chB (a.testBit (j - 1 - k)))
  | 0, k, h => by omega
  | j + 1, 0, h => rfl
  | j + 1, k + 1, h => by
    show (tx a j)[k]? = _
    rw [tx_get a j k (by omega), show j + 1 - 1 - (k + 1) = j - 1 - k by omega]
theorem text_is {w a : Nat} (h1 : 1 ≤ w) (h2 : w ≤ 128) (ha : a < 2 ^ w) : Ev (fun n => bv_Vec_Text n (vec w a)) fun r => r = (true, [.str (tx a w)]) := by
  have loop : ∀ (m i : Nat) (out : List D), w - i = m → i ≤ w → out.length = w → (∀ k, k < i → out[k]? = some (cD (chB (a.testBit (w - 1 - k))))) →
      Ev (fun n => bv_Vec_Text_L0 n (.int .i64 (w : Int)) (.int .i64 (i : Int)) (.int .i64 (w : Int)) (.lst 1 (wordsN w a)) (.lst 1 out)) fun r => ∃ i' : Int, r = (false, [.int .i64 (w : Int), .int .i64 i', .int .i64 (w : Int), .lst 1 (wordsN w a), .lst 1 ((tx a w).map cD)]) := by
    intro m
    induction m with
    | zero =>
      intro i out hm hi hl hk
      have : i = w := by omega
      subst this
      have e : out = (tx a i).map cD := by
        apply List.ext_getElem?
        intro k
        by_cases h : k < i
        · rw [hk k h, List.getElem?_map, tx_get a i k h]; rfl
        · rw [List.getElem?_eq_none (by omega), List.getElem?_eq_none (by rw [List.length_map, tx_len]; omega)]
      rw [e]
      exact Ev.eq (fun n => bv_Vec_Text_L0_eq n ..) (Ev.no (decide_eq_false (by omega)) (Ev.ret ⟨_, rfl⟩))
    | succ m ih =>
      intro i out hm hi hl hk
      have io := in_range (show i < out.length by omega)
      refine Ev.eq (fun n => bv_Vec_Text_L0_eq n ..) (Ev.yes (decide_eq_true (by omega)) (Ev.yes io ?_))
      rw [wrap_id (x := (w : Int) - 1) (by omega) (by omega), show ((w : Int) - 1 - (i : Int)) = ((w - 1 - i : Nat) : Int) by omega, wrap_nat (by omega), wrap_succ (by omega), Int.toNat_natCast, List.set_set]
      refine evCall (bit_is h2 ha) (Ev.yes rfl ?_)
      have nx := fun b (hb : a.testBit (w - 1 - i) = b) => ih (i + 1) (out.set i (cD (chB b))) (by omega) (by omega) (by rw [List.length_set]; exact hl) (fun k hk2 => by
        rw [set_get (by omega)]
        by_cases e : i = k
        · rw [if_pos e, ← e, hb]
        · rw [if_neg e]; exact hk k (by omega))
      show Ev (fun n => bif a.testBit (w - 1 - i) then _ else _) _
      cases hb : a.testBit (w - 1 - i) with
      | true => exact Ev.yes rfl (Ev.yes (in_range (by rw [List.length_set]; omega)) (nx true hb))
      | false => exact Ev.no rfl (nx false hb)
  refine Ev.eq (fun n => bv_Vec_Text_eq n ..) (Ev.yes (mk_ok (by omega)) ?_)
  rw [Int.toNat_natCast, List.length_replicate]
  refine Ev.bindL (loop w 0 _ rfl (Nat.zero_le _) (List.length_replicate ..) (fun k h => by omega)) (fun ds h => by obtain ⟨_, h⟩ := h; cases h) fun ds h => ?_
  obtain ⟨_, h⟩ := h
  cases h
  refine Ev.yes rfl (Ev.yes (allBytes_cD _) (Ev.ret ?_))
  show (true, [D.str (((tx a w).map cD).map toByte)]) = _
  rw [toByte_cD]
theorem Text_is {w a : Nat} (hw : w ≤ 1000) : Ev (fun n => ref01_Text n (.lst 1 (bitsD w a))) fun r => r = (true, [.str (tx a w)]) := by
  have hl := bitsD_len w a
  have loop : ∀ (m i : Nat), w - i = m → i ≤ w → Ev (fun n => ref01_Text_L0 n (.lst 1 (bitsD w a)) (.str (tx a i)) (.int .i64 (i : Int))) fun r => ∃ i' : Int, r = (false, [.lst 1 (bitsD w a), .str (tx a w), .int .i64 i']) := by
    intro m
    induction m with
    | zero =>
      intro i hm hi
      have : i = w := by omega
      subst this
      exact Ev.eq (fun n => ref01_Text_L0_eq n ..) (Ev.no (decide_eq_false (by omega)) (Ev.ret ⟨_, rfl⟩))
    | succ m ih =>
      intro i hm hi
      have hi2 : i < w := by omega
      have nx := ih (i + 1) (by omega) hi2
      have ml : decide (1 + (tx a i).length ≤ maxStr) = true := decide_eq_true (by rw [tx_len]; simp only [maxStr]; omega)
      refine Ev.eq (fun n => ref01_Text_L0_eq n ..) (Ev.yes (decide_eq_true (by omega)) (Ev.yes (in_range (by omega)) ?_))
      rw [bitsD_at hi2, wrap_succ (by omega)]
      refine Ev.yes rfl ?_
      show Ev (fun n => bif a.testBit i then _ else _) _
      have e : tx a (i + 1) = [chB (a.testBit i)] ++ tx a i := rfl
      rw [e] at nx
      cases hb : a.testBit i with
      | true => rw [hb] at nx; exact Ev.yes rfl (Ev.yes ml nx)
      | false => rw [hb] at nx; exact Ev.no rfl (Ev.yes ml nx)
  refine Ev.eq (fun n => ref01_Text_eq n _) (Ev.bindL (loop w 0 rfl (Nat.zero_le _)) (fun ds h => by obtain ⟨_, h⟩ := h; cases h) fun ds h => ?_)
  obtain ⟨_, h⟩ := h
  cases h
  exact Ev.yes rfl (Ev.ret rfl)
theorem words_is {w a : Nat} (h1 : 1 ≤ w) (h2 : w ≤ 128) : Ev (fun n => bv_Vec_Words n (vec w a)) fun r => r = (true, [.lst 1 (wordsN w a)]) := by
  refine Ev.eq (fun n => bv_Vec_Words_eq n ..) (evCall (Ev.eq (fun n => slices_Clone_uint64_eq n _) (Ev.no ?_ (Ev.yes ?_ (Ev.ret rfl)))) (Ev.yes rfl (Ev.ret rfl)))
  · unfold wordsN; split <;> rfl
  · unfold wordsN; split <;> rfl
theorem put_bit {w v j : Nat} (h2 : w ≤ 128) (hj : j < w) (hv : v < 2 ^ j) (P : List D → Prop)
    (h : P (wordsN w (v + 2 ^ j))) : ∃ x : Nat, (wordsN w v)[j / 64]? = some (wd x) ∧ P ((wordsN w v).set (j / 64) (.int .u64 (IntKind.u64.wrap ((x : Int) + IntKind.u64.wrap (1 * 2 ^ (min (j % 64) (IntKind.u64).bits)))))) := by
  rw [shl_one (Nat.mod_lt _ (by omega))]
  by_cases hw : w ≤ 64
  · have e3 : j / 64 = 0 := by omega
    have e4 : j % 64 = j := by omega
    have hp2 : 2 ^ (j + 1) ≤ M64 := pow_le64 (by omega)
    rw [Nat.pow_succ] at hp2
    rw [e3, e4, wordsN1 hw]
    refine ⟨v, rfl, ?_⟩
    rw [addS (by omega)]
    rw [wordsN1 hw] at h
    exact h
  · have hw : 64 < w := by omega
    rw [wordsN2 hw]
    rw [wordsN2 hw] at h
    by_cases h64 : j < 64
    · have e3 : j / 64 = 0 := by omega
      have e4 : j % 64 = j := by omega
      have hp2 : 2 ^ (j + 1) ≤ M64 := pow_le64 (by omega)
      rw [Nat.pow_succ] at hp2
      have d0 : v / M64 = 0 := Nat.div_eq_of_lt (by omega)
      have m0 : v % M64 = v := Nat.mod_eq_of_lt (by omega)
      rw [Nat.div_eq_of_lt (show v + 2 ^ j < M64 by omega), Nat.mod_eq_of_lt (show v + 2 ^ j < M64 by omega)] at h
      rw [e3, e4, d0, m0]
      refine ⟨v, rfl, ?_⟩
      rw [addS (by omega)]
      exact h
    · have e3 : j / 64 = 1 := by omega
      have e4 : j % 64 = j - 64 := by omega
      have hd : v / M64 < 2 ^ (j - 64) := by
        by_cases hj64 : j = 64
        · subst hj64
          exact Nat.div_lt_of_lt_mul (show v < M64 * 1 by rw [Nat.mul_one]; exact hv)
        · exact div_lt (by omega) hv
      have hpj : 2 ^ j = M64 * 2 ^ (j - 64) := by
        have : j = 64 + (j - 64) := by omega
        rw [this, Nat.pow_add]
        have e : 64 + (j - 64) - 64 = j - 64 := by omega
        rw [e]; rfl
      have hp2 : 2 ^ (j - 64 + 1) ≤ M64 := pow_le64 (by omega)
      rw [Nat.pow_succ] at hp2
      rw [hpj, Nat.add_mul_mod_self_left, Nat.add_mul_div_left _ _ (by decide)] at h
      rw [e3, e4]
      refine ⟨v / M64, rfl, ?_⟩
      rw [addS (by omega)]
      exact h
theorem Words_is {w a : Nat} (h1 : 1 ≤ w) (h2 : w ≤ 128) (ha : a < 2 ^ w) : Ev (fun n => ref01_Words n (.lst 1 (bitsD w a))) fun r => r = (true, [.lst 1 (wordsN w a)]) := by
  have hl := bitsD_len w a
  have hwl := fun x => words_len (w := w) (n := x) h1 h2
  have loop : ∀ (m i : Nat), w - i = m → i ≤ w → Ev (fun n => ref01_Words_L0 n (.lst 1 (bitsD w a)) (.int .i64 (i : Int)) (.lst 1 (wordsN w (a % 2 ^ i)))) fun r => ∃ i' : Int, r = (false, [.lst 1 (bitsD w a), .int .i64 i', .lst 1 (wordsN w a)]) := by
    intro m
    induction m with
    | zero =>
      intro i hm hi
      have : i = w := by omega
      subst this
      rw [Nat.mod_eq_of_lt ha]
      exact Ev.eq (fun n => ref01_Words_L0_eq n ..) (Ev.no (decide_eq_false (by omega)) (Ev.ret ⟨_, rfl⟩))
    | succ m ih =>
      intro i hm hi
      have hi2 : i < w := by omega
      have nx := ih (i + 1) (by omega) hi2
      rw [mod_next] at nx
      refine Ev.eq (fun n => ref01_Words_L0_eq n ..) (Ev.yes (decide_eq_true (by omega)) (Ev.yes (in_range (by omega)) ?_))
      have e1 : IntKind.i64.wrap ((i : Int).tdiv 64) = ((i / 64 : Nat) : Int) := by
        rw [Int.tdiv_eq_ediv_of_nonneg (by omega), wrap_id (by omega) (by omega)]; omega
      have e2 : IntKind.u64.wrap ((i : Int).tmod 64) = ((i % 64 : Nat) : Int) := by
        rw [Int.tmod_eq_emod_of_nonneg (by omega), show ((i : Int) % 64) = ((i % 64 : Nat) : Int) by omega, wrap_u64_nat, Nat.mod_eq_of_lt (by unfold M64; omega)]
      rw [bitsD_at hi2, wrap_succ (by omega), e1, e2, Int.toNat_natCast, Int.toNat_natCast]
      refine Ev.yes rfl ?_
      show Ev (fun n => bif a.testBit i then _ else _) _
      cases hb : a.testBit i with
      | true =>
        rw [hb] at nx
        have hm2 : a % 2 ^ i < 2 ^ i := Nat.mod_lt _ (Nat.two_pow_pos i)
        obtain ⟨x, hx, hp⟩ := put_bit h2 hi2 hm2 (fun ws => Ev (fun n => ref01_Words_L0 n (.lst 1 (bitsD w a)) (.int .i64 ((i + 1 : Nat) : Int)) (.lst 1 ws)) fun r => ∃ i' : Int, r = (false, [.lst 1 (bitsD w a), .int .i64 i', .lst 1 (wordsN w a)])) (by simpa using nx)
        have hwi := hwl (a % 2 ^ i)
        have ir := in_range (show i / 64 < (wordsN w (a % 2 ^ i)).length by omega)
        rw [show (wordsN w (a % 2 ^ i))[i / 64]?.getD D.top = wd x by rw [hx]; rfl]
        exact Ev.yes rfl (Ev.yes ir (Ev.yes rfl (Ev.no (decide_eq_false (by omega)) (Ev.yes ir hp))))
      | false =>
        rw [hb] at nx
        exact Ev.no rfl (by simpa using nx)
  refine Ev.eq (fun n => ref01_Words_eq n _) ?_
  have e : IntKind.i64.wrap ((IntKind.i64.wrap ((w : Int) + 63)).tdiv 64) = ((w : Int) + 63) / 64 := by
    rw [wrap_id (x := (w : Int) + 63) (by omega) (by omega), Int.tdiv_eq_ediv_of_nonneg (by omega), wrap_id (by omega) (by omega)]
  rw [rlen, e, words_zero h1 h2]
  have l := loop w 0 rfl (Nat.zero_le _)
  rw [Nat.pow_zero, Nat.mod_one] at l
  refine Ev.yes (and_tt (and_tt (decide_eq_true (by omega)) (decide_eq_true (by omega))) (decide_eq_true (by simp only [maxLst]; omega))) (Ev.bindL l (fun ds h => by obtain ⟨_, h⟩ := h; cases h) fun ds h => ?_)
  obtain ⟨_, h⟩ := h
  cases h
  exact Ev.yes rfl (Ev.ret rfl)
theorem is_true {w a : Nat} (h1 : 1 ≤ w) (h2 : w ≤ 128) (ha : a < 2 ^ w) : Ev (fun n => law01_Is n (vec w a) (.lst 1 (bitsD w a))) fun r => r = (true, [.bool true]) := by
  have hl := bitsD_len w a
  have bits := Bits_is (w := w) (a := a) h2 ha
  have wrd := words_is (w := w) (a := a) h1 h2
  have Wrd := Words_is (w := w) (a := a) h1 h2 ha
  have loop : ∀ (m i : Nat), w - i = m → i ≤ w → Ev (fun n => law01_Is_L0 n (.lst 1 (bitsD w a)) (.int .i64 (w : Int)) (.int .i64 (i : Int)) (.int .i64 (w : Int)) (.lst 1 (wordsN w a)) (.lst 1 (bitsD w a))) fun r => ∃ i' : Int, r = (false, [.lst 1 (bitsD w a), .int .i64 (w : Int), .int .i64 i', .int .i64 (w : Int), .lst 1 (wordsN w a), .lst 1 (bitsD w a)]) := by
    intro m
    induction m with
    | zero =>
      intro i hm hi
      exact Ev.eq (fun n => law01_Is_L0_eq n ..) (Ev.no (decide_eq_false (by omega)) (Ev.ret ⟨_, rfl⟩))
    | succ m ih =>
      intro i hm hi
      have hi2 : i < w := by omega
      have ir := in_range (show i < (bitsD w a).length by omega)
      refine Ev.eq (fun n => law01_Is_L0_eq n ..) (Ev.yes (decide_eq_true (by omega)) (Ev.yes ir ?_))
      rw [bitsD_at hi2, wrap_succ (by omega)]
      refine Ev.yes rfl (Ev.yes ir (Ev.yes rfl (Ev.no ?_ (evCall (bit_is h2 ha) (Ev.yes rfl (Ev.yes ir (Ev.yes rfl (Ev.no ?_ (ih (i + 1) (by omega) hi2)))))))))
      · show (!(a.testBit i == a.testBit i)) = false
        simp
      · show (!(a.testBit i == a.testBit i)) = false
        simp
  have two : Ev (fun n => law01_Is_L2 n (.lst 1 (bitsD w a)) (.int .i64 ((wordsN w a).length : Int)) (.int .i64 0) (.int .i64 (w : Int)) (.lst 1 (wordsN w a)) (.lst 1 (wordsN w a))) fun r => ∃ i' : Int, r = (false, [.lst 1 (bitsD w a), .int .i64 ((wordsN w a).length : Int), .int .i64 i', .int .i64 (w : Int), .lst 1 (wordsN w a), .lst 1 (wordsN w a)]) := by
    unfold vec at wrd
    by_cases hw : w ≤ 64
    · rw [wordsN1 hw] at wrd ⊢
      refine Ev.eq (fun n => law01_Is_L2_eq n ..) (Ev.yes rfl (Ev.yes rfl (Ev.yes rfl (evCall wrd (Ev.yes rfl (Ev.yes rfl (Ev.yes rfl (Ev.no (show ((a : Int) != (a : Int)) = false by simp) ?_))))))))
      rw [show IntKind.i64.wrap (0 + 1) = 1 from rfl]
      exact Ev.eq (fun n => law01_Is_L2_eq n ..) (Ev.no rfl (Ev.ret ⟨_, rfl⟩))
    · rw [wordsN2 (by omega)] at wrd ⊢
      refine Ev.eq (fun n => law01_Is_L2_eq n ..) (Ev.yes rfl (Ev.yes rfl (Ev.yes rfl (evCall wrd (Ev.yes rfl (Ev.yes rfl (Ev.yes rfl (Ev.no (show (((a % M64 : Nat) : Int) != ((a % M64 : Nat) : Int)) = false by simp) ?_))))))))
      rw [show IntKind.i64.wrap (0 + 1) = 1 from rfl]
      refine Ev.eq (fun n => law01_Is_L2_eq n ..) (Ev.yes rfl (Ev.yes rfl (Ev.yes rfl (evCall wrd (Ev.yes rfl (Ev.yes rfl (Ev.yes rfl (Ev.no (show (((a / M64 : Nat) : Int) != ((a / M64 : Nat) : Int)) = false by simp) ?_))))))))
      rw [show IntKind.i64.wrap (1 + 1) = 2 from rfl]
      exact Ev.eq (fun n => law01_Is_L2_eq n ..) (Ev.no rfl (Ev.ret ⟨_, rfl⟩))
  refine Ev.eq (fun n => law01_Is_eq n ..) (evCall (Ev.eq (fun n => bv_Vec_Width_eq n _ _) (Ev.ret rfl)) (Ev.yes rfl ?_))
  rw [rlen]
  refine Ev.no ne_self (evCall (text_is h1 h2 ha) (Ev.yes rfl (evCall (Text_is (by omega)) (Ev.yes rfl (Ev.no ?_ (evCall bits (Ev.yes rfl (Ev.no ?_ (evCall wrd (Ev.yes rfl (evCall Wrd (Ev.yes rfl ?_))))))))))))
  · show (!(tx a w == tx a w)) = false
    simp
  · show (((bitsD w a).length : Int) != (w : Int)) = false
    rw [rlen]; exact ne_self
  have e : ((((wordsN w a).length : Nat) : Int) != (((wordsN w a).length : Nat) : Int)) = false := by simp
  show Ev (fun n => law01_Is_j1 n ((((wordsN w a).length : Nat) : Int) != (((wordsN w a).length : Nat) : Int)) (w : Int) (wordsN w a) (bitsD w a)) _
  rw [e]
  refine evDfn (fun n => law01_Is_j1_def n ..) (Ev.no rfl (evCall bits (Ev.yes rfl ?_)))
  show Ev (fun n => bindL (law01_Is_L0 n (.lst 1 (bitsD w a)) (.int .i64 ((bitsD w a).length : Int)) (.int .i64 0) (.int .i64 (w : Int)) (.lst 1 (wordsN w a)) (.lst 1 (bitsD w a))) _) _
  rw [rlen]
  refine Ev.bindL (loop w 0 rfl (Nat.zero_le _)) (fun ds h => by obtain ⟨_, h⟩ := h; cases h) fun ds h => ?_
  obtain ⟨_, h⟩ := h
  cases h
  refine Ev.yes rfl (evCall Wrd (Ev.yes rfl (Ev.bindL two (fun ds h => by obtain ⟨_, h⟩ := h; cases h) fun ds h => ?_)))
  obtain ⟨_, h⟩ := h
  cases h
  refine Ev.yes rfl (evCall (bit_neg (w := w) (a := a) (i := -1) (by omega)) (Ev.yes rfl (Ev.yes rfl ?_)))
  have bw := bit_is (w := w) (a := a) (i := w) h2 ha
  rw [Nat.testBit_lt_two_pow ha] at bw
  show Ev (fun n => bindC (bv_Vec_Bit n (vec w a) (.int .i64 ((bitsD w a).length : Int))) _) _
  rw [rlen]
  exact evCall bw (Ev.yes rfl (Ev.ret rfl))
end Go.Proofs.YthlhbocobgkdmaaGreat
