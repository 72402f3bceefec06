/- Bit vectors: product, complement, negative, single bits, the number that it is. -/
import Derived.Test.YthlhbocobgkdmaaGreatBv1
namespace Go.Proofs.YthlhbocobgkdmaaGreat
open Go.AE
set_option linter.unusedVariables false
set_option linter.unusedSimpArgs false
theorem fdiv_pow (x k : Nat) : ((x : Int)).fdiv (2 ^ k) = ((x / 2 ^ k : Nat) : Int) := by
  rw [pow_int, Int.fdiv_eq_ediv_of_nonneg _ (Int.natCast_nonneg _)]; rfl
theorem and_nat {x y : Nat} (hx : x < M64) (hy : y < M64) : (BitVec.ofInt (IntKind.u64).bits (x : Int) &&& BitVec.ofInt (IntKind.u64).bits (y : Int)).toNat = x &&& y := by
  rw [BitVec.toNat_and, ofInt_toNat hx, ofInt_toNat hy]
theorem and32 {x : Nat} (hx : x < M64) : (BitVec.ofInt (IntKind.u64).bits (x : Int) &&& BitVec.ofInt (IntKind.u64).bits 4294967295).toNat = x % 4294967296 := by
  have := and_nat hx (y := 4294967295) (by decide)
  rw [show ((4294967295 : Nat) : Int) = 4294967295 from rfl] at this
  rw [this]
  exact Nat.and_two_pow_sub_one_eq_mod x 32
theorem fdiv32 (x : Nat) : ((x : Int)).fdiv (2 ^ 32) = ((x / 4294967296 : Nat) : Int) := fdiv_pow x 32
theorem mul_le32 {x y : Nat} (hx : x < 4294967296) (hy : y < 4294967296) : x * y ≤ 18446744065119617025 := by
  have := Nat.mul_le_mul (show x ≤ 4294967295 by omega) (show y ≤ 4294967295 by omega)
  exact this
theorem mul_parts (a b : Nat) : a * b = (a % 4294967296) * (b % 4294967296) + 4294967296 * ((a % 4294967296) * (b / 4294967296) + (a / 4294967296) * (b % 4294967296)) + 18446744073709551616 * ((a / 4294967296) * (b / 4294967296)) := by
  have ha : a = a % 4294967296 + 4294967296 * (a / 4294967296) := (Nat.mod_add_div _ _).symm
  have hb : b = b % 4294967296 + 4294967296 * (b / 4294967296) := (Nat.mod_add_div _ _).symm
  generalize a % 4294967296 = x0 at *
  generalize a / 4294967296 = x1 at *
  generalize b % 4294967296 = y0 at *
  generalize b / 4294967296 = y1 at *
  subst ha; subst hb
  rw [Nat.add_mul, Nat.mul_add, Nat.mul_add]
  have e1 : x0 * (4294967296 * y1) = 4294967296 * (x0 * y1) := by rw [Nat.mul_left_comm]
  have e2 : 4294967296 * x1 * y0 = 4294967296 * (x1 * y0) := Nat.mul_assoc ..
  have e3 : 4294967296 * x1 * (4294967296 * y1) = 18446744073709551616 * (x1 * y1) := by
    rw [Nat.mul_assoc, Nat.mul_left_comm x1, ← Nat.mul_assoc]
  rw [e1, e2, e3]; omega
theorem mul64_is {a b : Nat} (ha : a < M64) (hb : b < M64) : Ev (fun n => math_bits_Mul64 n (wd a) (wd b)) fun r => r = (true, [wd (a * b / M64), wd (a * b % M64)]) := by
  refine Ev.eq (fun n => math_bits_Mul64_eq n _ _) (Ev.ret ?_)
  have hx1 : a / 4294967296 < 4294967296 := by unfold M64 at ha; omega
  have hy1 : b / 4294967296 < 4294967296 := by unfold M64 at hb; omega
  have hx0 : a % 4294967296 < 4294967296 := Nat.mod_lt _ (by decide)
  have hy0 : b % 4294967296 < 4294967296 := Nat.mod_lt _ (by decide)
  have hp := mul_parts a b
  have p00 := mul_le32 hx0 hy0
  have p01 := mul_le32 hx0 hy1
  have p10 := mul_le32 hx1 hy0
  have p11 := mul_le32 hx1 hy1
  have m0 : ∀ x y : Nat, ((x : Int) * (y : Int)) = ((x * y : Nat) : Int) := fun x y => (Int.natCast_mul x y).symm
  have s0 : ∀ x y : Nat, ((x : Int) + (y : Int)) = ((x + y : Nat) : Int) := fun x y => (Int.natCast_add x y).symm
  rw [and32 ha, and32 hb, fdiv32, fdiv32]
  have w0 : ∀ x : Nat, x < 4294967296 → IntKind.u64.wrap (x : Int) = (x : Int) := fun x hx => by rw [wrap_u64_nat, Nat.mod_eq_of_lt (by unfold M64; omega)]
  rw [w0 _ hx0, w0 _ hy0]
  simp only [m0]
  have w1 : ∀ x : Nat, x ≤ 18446744065119617025 → IntKind.u64.wrap (x : Int) = (x : Int) := fun x hx => by rw [wrap_u64_nat, Nat.mod_eq_of_lt (by unfold M64; omega)]
  rw [w1 _ p00, w1 _ p01, w1 _ p10, w1 _ p11]
  simp only [fdiv32, s0]
  generalize hq00 : (a % 4294967296) * (b % 4294967296) = q00 at *
  generalize hq01 : (a % 4294967296) * (b / 4294967296) = q01 at *
  generalize hq10 : (a / 4294967296) * (b % 4294967296) = q10 at *
  generalize hq11 : (a / 4294967296) * (b / 4294967296) = q11 at *
  have t1 : IntKind.u64.wrap ((q10 + q00 / 4294967296 : Nat) : Int) = ((q10 + q00 / 4294967296 : Nat) : Int) := by rw [wrap_u64_nat, Nat.mod_eq_of_lt (by unfold M64; omega)]
  rw [t1, and32 (by unfold M64; omega), fdiv32]
  rw [w0 _ (Nat.mod_lt _ (by decide))]
  simp only [s0, fdiv32]
  have t2 : IntKind.u64.wrap (((q10 + q00 / 4294967296) % 4294967296 + q01 : Nat) : Int) = (((q10 + q00 / 4294967296) % 4294967296 + q01 : Nat) : Int) := by rw [wrap_u64_nat, Nat.mod_eq_of_lt (by unfold M64; omega)]
  have t3 : IntKind.u64.wrap ((q11 + (q10 + q00 / 4294967296) / 4294967296 : Nat) : Int) = ((q11 + (q10 + q00 / 4294967296) / 4294967296 : Nat) : Int) := by rw [wrap_u64_nat, Nat.mod_eq_of_lt (by unfold M64; omega)]
  rw [t2, t3]
  simp only [s0, fdiv32]
  have t4 : IntKind.u64.wrap ((q11 + (q10 + q00 / 4294967296) / 4294967296 + ((q10 + q00 / 4294967296) % 4294967296 + q01) / 4294967296 : Nat) : Int) = ((a * b / M64 : Nat) : Int) := by
    rw [wrap_u64_nat]; unfold M64; omega
  rw [t4, wrap_u64_nat]; rfl
theorem sum2_ok (a b : Nat) : (decide ((0 : Int) ≤ (a : Int)) && decide ((0 : Int) ≤ (b : Int)) && decide ((0 : Int) ≤ 0) && decide ((0 : Int) ≤ 1)) = true := and_tt (and_tt (and_tt (decide_eq_true (by omega)) (decide_eq_true (by omega))) rfl) rfl
theorem getD_some {xs : List D} {i : Nat} {x : D} (h : xs[i]? = some x) : xs[((i : Nat) : Int).toNat]?.getD D.top = x := by rw [Int.toNat_natCast, h]; rfl
theorem lt_of_some {α : Type} {xs : List α} {i : Nat} {x : α} (h : xs[i]? = some x) : i < xs.length := (List.getElem?_eq_some_iff.1 h).1
theorem mul_bound {x y : Nat} (hx : x < M64) (hy : y < M64) : x * y ≤ 340282366920938463426481119284349108225 := Nat.mul_le_mul (show x ≤ 18446744073709551615 by unfold M64 at hx; omega) (show y ≤ 18446744073709551615 by unfold M64 at hy; omega)
theorem times_step {i k : Nat} (hi : i ≤ 2) (hk : k ≤ 2) {us vs out zs : List D} {x y o c : Nat} (hx : us[i]? = some (wd x)) (hy : vs[k]? = some (wd y)) (ho : out[i + k]? = some (wd o)) (x1 : x < M64) (y1 : y < M64) (o1 : o < M64) (c1 : c < M64) {q0 q1 q2 q3 q4 q5 : Int} {P : Bool × List D → Prop}
    (h : Ev (fun n => bv_times_L2 n (.int .i64 (i : Int)) (wd ((x * y + c + o) / M64)) (.int .i64 ((k + 1 : Nat) : Int)) (.int .i64 q0) (.int .i64 q1) (.int .i64 q2) (.lst 1 us) (.int .i64 q3) (.lst 1 vs) (.int .i64 q4) (.int .i64 q5) (.lst 1 zs) (.lst 1 (out.set (i + k) (wd ((x * y + c + o) % M64))))) P) :
    Ev (fun n => bv_times_L2 n (.int .i64 (i : Int)) (wd c) (.int .i64 (k : Int)) (.int .i64 q0) (.int .i64 q1) (.int .i64 q2) (.lst 1 us) (.int .i64 q3) (.lst 1 vs) (.int .i64 q4) (.int .i64 q5) (.lst 1 zs) (.lst 1 out)) P := by
  have li := lt_of_some hx
  have lk := lt_of_some hy
  have lo := lt_of_some ho
  have e1 : IntKind.i64.wrap ((i : Int) + (k : Int)) = ((i + k : Nat) : Int) := by rw [wrap_id (by omega) (by omega)]; omega
  have e2 : IntKind.i64.wrap ((k : Int) + 1) = ((k + 1 : Nat) : Int) := wrap_succ (by omega)
  have hb := mul_bound x1 y1
  refine Ev.eq (fun n => bv_times_L2_eq n _ _ _ _ _ _ _ _ _ _ _ _ _) ?_
  rw [e1, e2, getD_some hx, getD_some hy, getD_some ho]
  refine Ev.yes (decide_eq_true (by omega)) (Ev.yes (in_range li) (Ev.yes rfl (Ev.yes (in_range lk) (Ev.yes rfl (Ev.bindC (mul64_is x1 y1) ?_)))))
  intro _ _ hh; cases hh
  refine ⟨rfl, Ev.yes rfl (Ev.yes (sum2_ok _ _) (Ev.yes (in_range lo) (Ev.yes rfl (Ev.yes (and_tt (and_tt (and_tt (decide_eq_true (Int.natCast_nonneg o)) (decide_eq_true ?_)) rfl) rfl) (Ev.yes (in_range lo) ?_)))))⟩
  · exact Int.emod_nonneg _ (by decide)
  · have f1 : (((x * y % M64 : Nat) : Int) + (c : Int) + 0) = ((x * y % M64 + c : Nat) : Int) := by omega
    have f2 : ((x * y % M64 + c : Nat) : Int) % 18446744073709551616 = (((x * y % M64 + c) % M64 : Nat) : Int) := by unfold M64; omega
    have f3 : ((x * y % M64 + c : Nat) : Int) / 18446744073709551616 = (((x * y % M64 + c) / M64 : Nat) : Int) := by unfold M64; omega
    have f4 : ((o : Int) + (((x * y % M64 + c) % M64 : Nat) : Int) + 0) % 18446744073709551616 = (((x * y + c + o) % M64 : Nat) : Int) := by unfold M64; omega
    have f5 : IntKind.u64.wrap (IntKind.u64.wrap (((x * y / M64 : Nat) : Int) + (((x * y % M64 + c) / M64 : Nat) : Int)) + ((o : Int) + (((x * y % M64 + c) % M64 : Nat) : Int) + 0) / 18446744073709551616) = (((x * y + c + o) / M64 : Nat) : Int) := by
      rw [IntKind.wrap_u64, IntKind.wrap_u64]
      unfold M64 at *
      generalize x * y = z at *
      omega
    show Ev (fun n => bv_times_L2 n (.int .i64 (i : Int)) (.int .u64 (IntKind.u64.wrap (IntKind.u64.wrap (((x * y / M64 : Nat) : Int) + (((x * y % M64 : Nat) : Int) + (c : Int) + 0) / 18446744073709551616) + ((o : Int) + (((x * y % M64 : Nat) : Int) + (c : Int) + 0) % 18446744073709551616 + 0) / 18446744073709551616))) (.int .i64 ((k + 1 : Nat) : Int)) (.int .i64 q0) (.int .i64 q1) (.int .i64 q2) (.lst 1 us) (.int .i64 q3) (.lst 1 vs) (.int .i64 q4) (.int .i64 q5) (.lst 1 zs) (.lst 1 (out.set ((i + k : Nat) : Int).toNat (.int .u64 (((o : Int) + (((x * y % M64 : Nat) : Int) + (c : Int) + 0) % 18446744073709551616 + 0) % 18446744073709551616))))) P
    rw [f1, f2, f3, f4, f5, Int.toNat_natCast]
    exact h
theorem mul2_parts (a b : Nat) : a * b = (a % M64) * (b % M64) + M64 * ((a % M64) * (b / M64) + (a / M64) * (b % M64) + M64 * ((a / M64) * (b / M64))) := by
  have ha := div_mod_m a
  have hb := div_mod_m b
  generalize a % M64 = x0 at *
  generalize a / M64 = x1 at *
  generalize b % M64 = y0 at *
  generalize b / M64 = y1 at *
  subst ha; subst hb
  rw [Nat.add_mul, Nat.mul_add, Nat.mul_add]
  have e1 : x0 * (M64 * y1) = M64 * (x0 * y1) := by rw [Nat.mul_left_comm]
  have e2 : M64 * x1 * y0 = M64 * (x1 * y0) := Nat.mul_assoc ..
  have e3 : M64 * x1 * (M64 * y1) = M64 * (M64 * (x1 * y1)) := by
    rw [Nat.mul_assoc, Nat.mul_left_comm x1]
  rw [e1, e2, e3, Nat.mul_add, Nat.mul_add]; omega
theorem add_m_mod {k : Nat} (hk : k ≤ 64) (x y : Nat) : (x + M64 * y) % 2 ^ k = x % 2 ^ k := by
  obtain ⟨q, hq⟩ := pow_dvd_m hk
  rw [hq, Nat.mul_assoc, Nat.add_mul_mod_self_left]
theorem mod_m_mod {k : Nat} (hk : k ≤ 64) (x : Nat) : x % M64 % 2 ^ k = x % 2 ^ k := Nat.mod_mod_of_dvd _ (pow_dvd_m hk)
theorem times_is {w a b : Nat} (h1 : 1 ≤ w) (h2 : w ≤ 128) (ha : a < 2 ^ w) (hb : b < 2 ^ w) : Ev (fun n => bv_times n (vec w a) (vec w b)) fun r => r = (true, [vec w (a * b % 2 ^ w)]) := by
  refine Ev.eq (fun n => bv_times_eq n _ _ _ _) (Ev.bindC (blank_is h1 h2) ?_)
  intro _ _ h; cases h
  refine ⟨rfl, Ev.yes rfl ?_⟩
  by_cases hw : w ≤ 64
  · rw [wordsN1 hw, wordsN1 hw, wordsN1 hw]
    have ha' := lt_m64 hw ha
    have hb' := lt_m64 hw hb
    refine Ev.bindL (Q := fun r => r = (false, [.int .i64 1, .int .i64 1, .int .i64 (w : Int), .lst 1 [wd a], .int .i64 (w : Int), .lst 1 [wd b], .int .i64 0, .int .i64 (w : Int), .lst 1 [], .lst 1 [wd ((a * b + 0 + 0) % M64)]])) ?_ (fun ds h => by cases h) fun ds h => ?_
    · refine Ev.eq (fun n => bv_times_L0_eq n _ _ _ _ _ _ _ _ _ _) (Ev.yes rfl (Ev.bindL (Q := fun r => ∃ c : Int, r = (false, [.int .i64 0, .int .u64 c, .int .i64 1, .int .i64 1, .int .i64 0, .int .i64 (w : Int), .lst 1 [wd a], .int .i64 (w : Int), .lst 1 [wd b], .int .i64 0, .int .i64 (w : Int), .lst 1 [], .lst 1 [wd ((a * b + 0 + 0) % M64)]])) ?_ (fun ds h => by obtain ⟨_, h⟩ := h; cases h) fun ds h => ?_))
      · refine times_step (i := 0) (k := 0) (x := a) (y := b) (o := 0) (c := 0) (by decide) (by decide) rfl rfl rfl ha' hb' (by decide) (by decide) ?_
        exact Ev.eq (fun n => bv_times_L2_eq n _ _ _ _ _ _ _ _ _ _ _ _ _) (Ev.no rfl (Ev.ret ⟨_, rfl⟩))
      · obtain ⟨c, h⟩ := h
        cases h
        exact Ev.yes rfl (Ev.eq (fun n => bv_times_L0_eq n _ _ _ _ _ _ _ _ _ _) (Ev.no rfl (Ev.ret rfl)))
    · cases h
      refine Ev.yes rfl (Ev.bindC (cut1_is h1 hw (mod_m _)) ?_)
      intro _ _ h; cases h
      refine ⟨rfl, Ev.yes rfl (Ev.ret ?_)⟩
      show (true, [D.agg [.int .i64 (w : Int), .lst 1 (wordsN w ((a * b) % M64 % 2 ^ w))]]) = _
      rw [mod_m_mod hw]; rfl
  · have hw : 64 < w := by omega
    rw [wordsN2 hw, wordsN2 hw, wordsN2 hw]
    have a0 := mod_m a
    have b0 := mod_m b
    have a1 := div_lt64 hw h2 ha
    have b1 := div_lt64 hw h2 hb
    have hp := mul2_parts a b
    have hp00 := mul_bound a0 b0
    generalize a % M64 = x0 at *
    generalize a / M64 = x1 at *
    generalize b % M64 = y0 at *
    generalize b / M64 = y1 at *
    refine Ev.bindL (Q := fun r => r = (false, [.int .i64 2, .int .i64 2, .int .i64 (w : Int), .lst 1 [wd x0, wd x1], .int .i64 (w : Int), .lst 1 [wd y0, wd y1], .int .i64 0, .int .i64 (w : Int), .lst 1 [], .lst 1 [wd ((x0 * y0 + 0 + 0) % M64), wd ((x1 * y0 + 0 + (x0 * y1 + (x0 * y0 + 0 + 0) / M64 + 0) % M64) % M64)]])) ?_ (fun ds h => by cases h) fun ds h => ?_
    · refine Ev.eq (fun n => bv_times_L0_eq n _ _ _ _ _ _ _ _ _ _) (Ev.yes rfl (Ev.bindL (Q := fun r => ∃ c : Int, r = (false, [.int .i64 0, .int .u64 c, .int .i64 2, .int .i64 2, .int .i64 0, .int .i64 (w : Int), .lst 1 [wd x0, wd x1], .int .i64 (w : Int), .lst 1 [wd y0, wd y1], .int .i64 0, .int .i64 (w : Int), .lst 1 [], .lst 1 [wd ((x0 * y0 + 0 + 0) % M64), wd ((x0 * y1 + (x0 * y0 + 0 + 0) / M64 + 0) % M64)]])) ?_ (fun ds h => by obtain ⟨_, h⟩ := h; cases h) fun ds h => ?_))
      · refine times_step (i := 0) (k := 0) (x := x0) (y := y0) (o := 0) (c := 0) (by decide) (by decide) rfl rfl rfl a0 b0 (by decide) (by decide) ?_
        refine times_step (i := 0) (k := 1) (x := x0) (y := y1) (o := 0) (c := (x0 * y0 + 0 + 0) / M64) (by decide) (by decide) rfl rfl rfl a0 b1 (by decide) (by unfold M64 at *; omega) ?_
        exact Ev.eq (fun n => bv_times_L2_eq n _ _ _ _ _ _ _ _ _ _ _ _ _) (Ev.no rfl (Ev.ret ⟨_, rfl⟩))
      · obtain ⟨c, h⟩ := h
        cases h
        refine Ev.yes rfl (Ev.eq (fun n => bv_times_L0_eq n _ _ _ _ _ _ _ _ _ _) (Ev.yes rfl (Ev.bindL (Q := fun r => ∃ c : Int, r = (false, [.int .i64 1, .int .u64 c, .int .i64 1, .int .i64 2, .int .i64 1, .int .i64 (w : Int), .lst 1 [wd x0, wd x1], .int .i64 (w : Int), .lst 1 [wd y0, wd y1], .int .i64 0, .int .i64 (w : Int), .lst 1 [], .lst 1 [wd ((x0 * y0 + 0 + 0) % M64), wd ((x1 * y0 + 0 + (x0 * y1 + (x0 * y0 + 0 + 0) / M64 + 0) % M64) % M64)]])) ?_ (fun ds h => by obtain ⟨_, h⟩ := h; cases h) fun ds h => ?_)))
        · refine times_step (i := 1) (k := 0) (x := x1) (y := y0) (o := (x0 * y1 + (x0 * y0 + 0 + 0) / M64 + 0) % M64) (c := 0) (by decide) (by decide) rfl rfl rfl a1 b0 (mod_m _) (by decide) ?_
          exact Ev.eq (fun n => bv_times_L2_eq n _ _ _ _ _ _ _ _ _ _ _ _ _) (Ev.no rfl (Ev.ret ⟨_, rfl⟩))
        · obtain ⟨c, h⟩ := h
          cases h
          exact Ev.yes rfl (Ev.eq (fun n => bv_times_L0_eq n _ _ _ _ _ _ _ _ _ _) (Ev.no rfl (Ev.ret rfl)))
    · cases h
      refine Ev.yes rfl (Ev.bindC (cut2_is hw h2 (mod_m _) (mod_m _)) ?_)
      intro _ _ h; cases h
      refine ⟨rfl, Ev.yes rfl (Ev.ret ?_)⟩
      show (true, [D.agg [.int .i64 (w : Int), .lst 1 (wordsN w (((x0 * y0) % M64 + M64 * ((x1 * y0 + (x0 * y1 + (x0 * y0) / M64) % M64) % M64)) % 2 ^ w))]]) = _
      have e : ((x0 * y0) % M64 + M64 * ((x1 * y0 + (x0 * y1 + (x0 * y0) / M64) % M64) % M64)) % 2 ^ w = a * b % 2 ^ w := by
        have hk : w - 64 ≤ 64 := by omega
        have e1 : a * b = (x0 * y0) % M64 + M64 * ((x0 * y0) / M64 + x0 * y1 + x1 * y0 + M64 * (x1 * y1)) := by
          have := div_mod_m (x0 * y0)
          rw [hp, Nat.mul_add, Nat.mul_add, Nat.mul_add, Nat.mul_add, Nat.mul_add] at *
          omega
        rw [e1, mod2 hw (mod_m _), mod2 hw (mod_m _), mod_m_mod hk, add_m_mod hk]
        congr 1
        congr 1
        rw [Nat.add_mod, mod_m_mod hk, ← Nat.add_mod]
        congr 1
        omega
      rw [e]; rfl
end Go.Proofs.YthlhbocobgkdmaaGreat
