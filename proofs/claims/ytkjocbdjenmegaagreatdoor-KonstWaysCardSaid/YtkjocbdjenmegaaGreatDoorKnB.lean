/- Konst: the reference's bits are two's complement. -/
import Derived.Test.YtkjocbdjenmegaaGreatDoorKnA
namespace Go.Proofs.YtkjocbdjenmegaaGreatDoor
open Go.AE
set_option linter.unusedVariables false
def bitL : Nat → Int → List Bool
  | 0, _ => []
  | k + 1, a => (a % 2 == 1) :: bitL k (a / 2)
theorem bitL_len : ∀ (k : Nat) (a : Int), (bitL k a).length = k
  | 0, _ => rfl
  | k + 1, a => by show (bitL k (a / 2)).length + 1 = k + 1; rw [bitL_len k]
theorem set_at {α : Type} (x y : α) (t : List α) : ∀ pre : List α, (pre ++ x :: t).set pre.length y = pre ++ y :: t
  | [] => rfl
  | p :: pre => by
    show p :: (pre ++ x :: t).set pre.length y = p :: (pre ++ y :: t)
    rw [set_at x y t pre]
theorem half_neg {a : Int} (h : a.tmod 2 < 0) : a % 2 = 1 ∧ (a - 1).tdiv 2 = a / 2 := by
  have hn : a < 0 := by
    rcases Int.lt_or_le a 0 with h0 | h0
    · exact h0
    · have := Int.tmod_nonneg 2 h0; omega
  obtain ⟨b, rfl⟩ : ∃ b : Int, a = -b := ⟨-a, by omega⟩
  rw [Int.neg_tmod, Int.tmod_eq_emod_of_nonneg (by omega)] at h
  have e : (-b - 1).tdiv 2 = -((b + 1) / 2) := by
    rw [show -b - 1 = -(b + 1) by omega, Int.neg_tdiv, Int.tdiv_eq_ediv_of_nonneg (by omega)]
  rw [e]
  omega
theorem half_pos {a : Int} (h : ¬ a.tmod 2 < 0) : (a.tmod 2 == 1) = (a % 2 == 1) ∧ (a - a.tmod 2).tdiv 2 = a / 2 := by
  rcases Int.lt_or_le a 0 with h0 | h0
  · obtain ⟨b, rfl⟩ : ∃ b : Int, a = -b := ⟨-a, by omega⟩
    rw [Int.neg_tmod, Int.tmod_eq_emod_of_nonneg (by omega)] at h ⊢
    have hb : b % 2 = 0 := by omega
    have e : (-b - -(b % 2)).tdiv 2 = -(b / 2) := by
      rw [hb, show -b - -(0 : Int) = -b by omega, Int.neg_tdiv, Int.tdiv_eq_ediv_of_nonneg (by omega)]
    rw [e, hb]
    have : -b % 2 = 0 := by omega
    rw [this]
    exact ⟨rfl, by omega⟩
  · rw [Int.tmod_eq_emod_of_nonneg h0, Int.tdiv_eq_ediv_of_nonneg (by omega)]
    exact ⟨rfl, by omega⟩
theorem kbits_is {a : Int} (h1 : -1099511627776 ≤ a) (h2 : a ≤ 1099511627776) : Ev (fun n => ref11_bits n (.int .i64 a)) fun r => r = (true, [.lst 1 ((bitL 33 a).map bD)]) := by
  have loop : ∀ (m : Nat) (a : Int) (pre : List Bool), pre.length + m = 33 → -1099511627776 ≤ a → a ≤ 1099511627776 →
      Ev (fun n => ref11_bits_L0 n (.int .i64 a) (.int .i64 (pre.length : Int)) (.lst 1 ((pre ++ List.replicate m false).map bD))) fun r => ∃ a' : Int, r = (false, [.int .i64 a', .int .i64 33, .lst 1 ((pre ++ bitL m a).map bD)]) := by
    intro m
    induction m with
    | zero =>
      intro a pre hp h1 h2
      have : (pre.length : Int) = 33 := by omega
      rw [this]
      exact Ev.eq (fun n => ref11_bits_L0_eq n _ _ _) (Ev.no rfl (Ev.ret ⟨a, rfl⟩))
    | succ m ih =>
      intro a pre hp h1 h2
      have hlen : ((pre ++ List.replicate (m + 1) false).map bD).length = 33 := by rw [List.length_map, List.length_append, List.length_replicate, hp]
      have hin : (decide ((0 : Int) ≤ (pre.length : Int)) && decide ((pre.length : Int) < (((pre ++ List.replicate (m + 1) false).map bD).length : Int))) = true := in_range (by rw [hlen]; omega)
      have hset : ∀ b : Bool, ((pre ++ List.replicate (m + 1) false).map bD).set ((pre.length : Nat) : Int).toNat (D.bool b) = ((pre ++ [b]) ++ List.replicate m false).map bD := by
        intro b
        rw [Int.toNat_natCast, show D.bool b = bD b from rfl, ← List.map_set, List.replicate_succ, set_at, List.append_assoc]; rfl
      have hw : IntKind.i64.wrap ((pre.length : Int) + 1) = ((pre ++ [a % 2 == 1]).length : Int) := by
        rw [wrap_id (by omega) (by omega), List.length_append]; rfl
      have nx := ih (a / 2) (pre ++ [a % 2 == 1]) (by rw [List.length_append, List.length_singleton]; omega) (by omega) (by omega)
      have e3 : pre ++ [a % 2 == 1] ++ bitL m (a / 2) = pre ++ bitL (m + 1) a := by rw [List.append_assoc]; rfl
      rw [e3] at nx
      refine Ev.eq (fun n => ref11_bits_L0_eq n _ _ _) (Ev.yes (decide_eq_true (by omega)) (Ev.test (fun h => Ev.yes hin ?_) fun h => Ev.yes hin ?_))
      · obtain ⟨q1, q2⟩ := half_neg (of_decide_eq_true h)
        have e : (a % 2 == 1) = true := by rw [q1]; rfl
        have e2 : IntKind.i64.wrap ((IntKind.i64.wrap (a - 1)).tdiv 2) = a / 2 := by
          rw [wrap_id (x := a - 1) (by omega) (by omega), q2, wrap_id (by omega) (by omega)]
        rw [hset, e2, hw, ← e]
        exact nx
      · obtain ⟨q1, q2⟩ := half_pos (of_decide_eq_false h)
        have h0 := of_decide_eq_false h
        have hb : -2 < a.tmod 2 ∧ a.tmod 2 < 2 := ⟨by omega, Int.tmod_lt_of_pos a (by decide)⟩
        have e2 : IntKind.i64.wrap ((IntKind.i64.wrap (a - a.tmod 2)).tdiv 2) = a / 2 := by
          rw [wrap_id (x := a - a.tmod 2) (by omega) (by omega), q2, wrap_id (by omega) (by omega)]
        rw [hset, e2, hw, q1]
        exact nx
  have h := loop 33 a [] rfl h1 h2
  refine Ev.eq (fun n => ref11_bits_eq n _) (Ev.bindL h (fun ds h => by obtain ⟨_, h⟩ := h; cases h) fun ds h => ?_)
  obtain ⟨_, h⟩ := h
  cases h
  exact Ev.yes rfl (Ev.ret rfl)
theorem numB_take (l : List Bool) {k : Nat} (h : k < l.length) : numB (l.take (k + 1)) = numB (l.take k) + (l[k]).toNat * 2 ^ k := by
  have e : l.take (k + 1) = l.take k ++ [l[k]] := by rw [List.take_succ_eq_append_getElem h]
  rw [e, numB_snoc, List.length_take, Nat.min_eq_left (by omega)]
theorem knumber_is {l : List Bool} (hl : l.length = 33) : Ev (fun n => ref11_number n (.lst 1 (l.map bD))) fun r => r = (true, [.int .i64 ((numB (l.take 32) : Int) - (bif l.getD 32 false then 4294967296 else 0))]) := by
  have hm : (l.map bD).length = 33 := by rw [List.length_map, hl]
  have loop : ∀ (m j : Nat), 32 - j = m → j ≤ 32 → Ev (fun n => ref11_number_L0 n (.lst 1 (l.map bD)) (.int .i64 (numB (l.take j) : Int)) (.int .i64 (j : Int))) fun r => r = (false, [.lst 1 (l.map bD), .int .i64 (numB (l.take 32) : Int), .int .i64 32]) := by
    intro m
    induction m with
    | zero =>
      intro j hm hj
      have : j = 32 := by omega
      subst this
      exact Ev.eq (fun n => ref11_number_L0_eq n _ _ _) (Ev.no rfl (Ev.ret rfl))
    | succ m ih =>
      intro j hmj hj
      have hj2 : j < (l.map bD).length := by omega
      have hj3 : j < l.length := by omega
      have hw : IntKind.i64.wrap ((j : Int) + 1) = ((j + 1 : Nat) : Int) := wrap_succ (by omega)
      have nx := ih (j + 1) (by omega) (by omega)
      have hlt := numB_lt (l.take (j + 1))
      have hp : 2 ^ (l.take (j + 1)).length ≤ 2 ^ 33 := Nat.pow_le_pow_right (by decide) (by rw [List.length_take]; omega)
      have hs := numB_take l hj3
      refine Ev.eq (fun n => ref11_number_L0_eq n _ _ _) (Ev.yes (decide_eq_true (by omega)) (Ev.yes (in_range hj2) ?_))
      rw [get_nat hj2, List.getElem_map, hw]
      refine Ev.yes rfl ?_
      show Ev (fun n => bif l[j] then _ else _) _
      cases hb : l[j] with
      | false =>
        rw [hb, Bool.toNat_false, Nat.zero_mul, Nat.add_zero] at hs
        rw [hs] at nx
        exact Ev.no rfl nx
      | true =>
        rw [hb, Bool.toNat_true, Nat.one_mul] at hs
        refine Ev.yes rfl (evCall (power_is (by omega)) (Ev.yes rfl ?_))
        have e : IntKind.i64.wrap ((numB (l.take j) : Int) + ((2 ^ j : Nat) : Int)) = (numB (l.take (j + 1)) : Int) := by
          rw [hs, wrap_id (by omega) (by omega)]; omega
        show Ev (fun n => ref11_number_L0 n _ (.int .i64 (IntKind.i64.wrap ((numB (l.take j) : Int) + ((2 ^ j : Nat) : Int)))) _) _
        rw [e]
        exact nx
  have h := loop 32 0 rfl (Nat.zero_le _)
  have hlt := numB_lt (l.take 32)
  have hp : 2 ^ (l.take 32).length ≤ 2 ^ 33 := Nat.pow_le_pow_right (by decide) (by rw [List.length_take]; omega)
  have h32 : (l.map bD)[32]?.getD D.top = bD (l.getD 32 false) := by
    rw [List.getElem?_map, List.getD_eq_getElem?_getD, List.getElem?_eq_getElem (by omega)]; rfl
  refine Ev.eq (fun n => ref11_number_eq n _) (evLoop h (Ev.yes rfl (Ev.yes (and_tt rfl (decide_eq_true (by show (32 : Int) < ((l.map bD).length : Int); omega))) ?_)))
  show Ev (fun n => bif notAny (.leaf .bool) && okTy (.leaf .bool) ((l.map bD)[32]?.getD D.top) then (bif ((l.map bD)[32]?.getD D.top).b then _ else _) else none) _
  rw [h32]
  refine Ev.yes rfl ?_
  show Ev (fun n => bif (l.getD 32 false) then _ else _) _
  cases l.getD 32 false with
  | true =>
    refine Ev.yes rfl (evCall (power_is (k := 32) (by decide)) (Ev.yes rfl (Ev.ret ?_)))
    show (true, [D.int .i64 (IntKind.i64.wrap ((numB (l.take 32) : Int) - ((2 ^ 32 : Nat) : Int)))]) = _
    rw [wrap_id (by omega) (by omega)]; rfl
  | false =>
    refine Ev.no rfl (Ev.ret ?_)
    show (true, [D.int .i64 (numB (l.take 32) : Int)]) = (true, [.int .i64 ((numB (l.take 32) : Int) - 0)])
    rw [Int.sub_zero]
theorem mod_half (a : Int) {m : Int} (hm : 0 < m) : a % (2 * m) = a % 2 + 2 * (a / 2 % m) := by
  have h1 : a = 2 * (a / 2) + a % 2 := by omega
  have h2 : a / 2 = m * (a / 2 / m) + a / 2 % m := (Int.mul_ediv_add_emod (a / 2) m).symm
  have h3 := Int.emod_nonneg (a / 2) (show m ≠ 0 by omega)
  have h4 := Int.emod_lt_of_pos (a / 2) hm
  have h5 : a = a % 2 + 2 * (a / 2 % m) + (a / 2 / m) * (2 * m) := by
    have : (a / 2 / m) * (2 * m) = 2 * (m * (a / 2 / m)) := by rw [Int.mul_left_comm, Int.mul_comm (a / 2 / m) m]
    omega
  have h6 : (a % 2 + 2 * (a / 2 % m) + (a / 2 / m) * (2 * m)) % (2 * m) = (a % 2 + 2 * (a / 2 % m)) % (2 * m) := Int.add_mul_emod_self_right _ _ _
  rw [← h5] at h6
  rw [h6]
  exact Int.emod_eq_of_lt (by omega) (by omega)
theorem numB_bitL : ∀ (k : Nat) (a : Int), (numB (bitL k a) : Int) = a % ((2 ^ k : Nat) : Int)
  | 0, a => by show ((0 : Nat) : Int) = a % 1; omega
  | k + 1, a => by
    have ih := numB_bitL k (a / 2)
    have e : ((2 ^ (k + 1) : Nat) : Int) = 2 * ((2 ^ k : Nat) : Int) := by rw [Nat.pow_succ]; omega
    have hp := Nat.two_pow_pos k
    rw [e, mod_half a (by omega), ← ih]
    show ((numB ((a % 2 == 1) :: bitL k (a / 2)) : Nat) : Int) = _
    have hn : numB ((a % 2 == 1) :: bitL k (a / 2)) = (a % 2 == 1).toNat + 2 * numB (bitL k (a / 2)) := rfl
    rw [hn]
    have : ((a % 2 == 1).toNat : Int) = a % 2 := by
      rcases (show a % 2 = 0 ∨ a % 2 = 1 by omega) with h | h <;> rw [h] <;> rfl
    omega
theorem ofInt_bits (a : Int) (i : Nat) : (BitVec.ofInt 33 a).getLsbD i = (bitL 33 a).getD i false := by
  rw [← numB_bit, BitVec.getLsbD]
  have : (BitVec.ofInt 33 a).toNat = numB (bitL 33 a) := by
    have h := numB_bitL 33 a
    rw [BitVec.toNat_ofInt]
    omega
  rw [this]
/-- The sign told by the last of 33 bits. -/
theorem toInt_bits {l : List Bool} (hl : l.length = 33) {x : BitVec 33} (hx : ∀ i, i < 33 → x.getLsbD i = l.getD i false) : (numB (l.take 32) : Int) - (bif l.getD 32 false then 4294967296 else 0) = x.toInt := by
  have hn : x.toNat = numB l := by
    refine Nat.eq_of_testBit_eq fun i => ?_
    rw [numB_bit]
    by_cases hi : i < 33
    · rw [← hx i hi]; rfl
    · rw [List.getD_eq_getElem?_getD, List.getElem?_eq_none (by omega)]
      exact BitVec.getLsbD_of_ge x i (by omega)
  have h1 := numB_take l (k := 32) (by omega)
  have h2 : l.take (32 + 1) = l := List.take_of_length_le (by omega)
  rw [h2] at h1
  have hlt := numB_lt (l.take 32)
  rw [List.length_take, hl] at hlt
  have h3 : l.getD 32 false = l[32] := by rw [List.getD_eq_getElem?_getD, List.getElem?_eq_getElem (by omega)]; rfl
  rw [h3, BitVec.toInt_eq_toNat_cond, hn, h1]
  have hlt : numB (l.take 32) < 4294967296 := hlt
  cases l[32] with
  | false =>
    have e1 : (false.toNat * 2 ^ 32 : Nat) = 0 := rfl
    rw [e1]
    simp only [cond_false]
    rw [if_pos (by omega)]; omega
  | true =>
    have e1 : (true.toNat * 2 ^ 32 : Nat) = 4294967296 := rfl
    have e2 : ((2 ^ 33 : Nat) : Int) = 8589934592 := rfl
    rw [e1, e2]
    simp only [cond_true]
    rw [if_neg (by omega)]; omega
end Go.Proofs.YtkjocbdjenmegaaGreatDoor
