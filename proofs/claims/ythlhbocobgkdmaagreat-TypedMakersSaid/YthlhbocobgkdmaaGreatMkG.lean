/- The number of bits that are set: the library's way, eight bytes at once; the operations on one. -/
import Derived.Test.YthlhbocobgkdmaaGreatMkF
namespace Go.Proofs.YthlhbocobgkdmaaGreat
open Go.AE
set_option linter.unusedVariables false
set_option linter.unusedSimpArgs false
def mkB (m : Nat) : Nat → Nat
  | 0 => 0
  | n + 1 => m + 256 * mkB m n
theorem and_bytes {u v m k : Nat} (hu : u < 256) (hm : m < 256) : (u + 256 * v) &&& (m + 256 * k) = (u &&& m) + 256 * (v &&& k) := by
  have hu : u < 2 ^ 8 := hu
  have hm : m < 2 ^ 8 := hm
  refine Nat.eq_of_testBit_eq fun i => ?_
  rw [Nat.testBit_and, Nat.add_comm u, Nat.add_comm m, Nat.add_comm (u &&& m), show (256 : Nat) = 2 ^ 8 from rfl, Nat.testBit_two_pow_mul_add _ hu, Nat.testBit_two_pow_mul_add _ hm, Nat.testBit_two_pow_mul_add _ (Nat.and_lt_two_pow _ hm), Nat.testBit_and, Nat.testBit_and]
  split <;> rfl
def c1 (n x : Nat) : Nat := (x / 2 &&& mkB 85 n) + (x &&& mkB 85 n)
def c2 (n x : Nat) : Nat := (x / 4 &&& mkB 51 n) + (x &&& mkB 51 n)
def c3 (n x : Nat) : Nat := (x / 16 + x) &&& mkB 15 n
def d1 (a : Nat) : Nat := (a / 2 &&& 85) + (a &&& 85)
def d2 (a : Nat) : Nat := (a / 4 &&& 51) + (a &&& 51)
def pcB (a : Nat) : Nat := (d2 (d1 a) / 16 + d2 (d1 a)) % 16
theorem a1 : ∀ a : Fin 256, ∀ t : Fin 2, (a.val / 2 + 128 * t.val) &&& 85 = a.val / 2 &&& 85 := by decide +kernel
theorem a2 : ∀ a : Fin 256, ∀ t : Fin 4, (a.val / 4 + 64 * t.val) &&& 51 = a.val / 4 &&& 51 := by decide +kernel
theorem b1 : ∀ a : Fin 256, d1 a.val < 256 ∧ d2 a.val < 256 ∧ d2 (d1 a.val) % 16 ≤ 4 ∧ d2 (d1 a.val) ≤ 68 ∧ pcB a.val ≤ 8 := by decide +kernel
theorem b3 : ∀ c : Fin 69, ∀ t : Fin 5, c.val % 16 ≤ 4 → c.val / 16 + 16 * t.val + c.val < 256 ∧ (c.val / 16 + 16 * t.val + c.val) &&& 15 = (c.val / 16 + c.val) % 16 := by decide +kernel
theorem c1_step {a : Nat} (ha : a < 256) (n y : Nat) : c1 (n + 1) (a + 256 * y) = d1 a + 256 * c1 n y := by
  unfold c1
  have e : (a + 256 * y) / 2 = (a / 2 + 128 * (y % 2)) + 256 * (y / 2) := by omega
  show ((a + 256 * y) / 2 &&& (85 + 256 * mkB 85 n)) + ((a + 256 * y) &&& (85 + 256 * mkB 85 n)) = _
  rw [e, and_bytes (by omega) (by omega), and_bytes ha (by omega), a1 ⟨a, ha⟩ ⟨y % 2, by omega⟩]
  show (a / 2 &&& 85) + 256 * (y / 2 &&& mkB 85 n) + ((a &&& 85) + 256 * (y &&& mkB 85 n)) = (a / 2 &&& 85) + (a &&& 85) + 256 * ((y / 2 &&& mkB 85 n) + (y &&& mkB 85 n))
  omega
theorem c2_step {a : Nat} (ha : a < 256) (n y : Nat) : c2 (n + 1) (a + 256 * y) = d2 a + 256 * c2 n y := by
  unfold c2
  have e : (a + 256 * y) / 4 = (a / 4 + 64 * (y % 4)) + 256 * (y / 4) := by omega
  show ((a + 256 * y) / 4 &&& (51 + 256 * mkB 51 n)) + ((a + 256 * y) &&& (51 + 256 * mkB 51 n)) = _
  rw [e, and_bytes (by omega) (by omega), and_bytes ha (by omega), a2 ⟨a, ha⟩ ⟨y % 4, by omega⟩]
  show (a / 4 &&& 51) + 256 * (y / 4 &&& mkB 51 n) + ((a &&& 51) + 256 * (y &&& mkB 51 n)) = (a / 4 &&& 51) + (a &&& 51) + 256 * ((y / 4 &&& mkB 51 n) + (y &&& mkB 51 n))
  omega
def cAll (n x : Nat) : Nat := c3 n (c2 n (c1 n x))
theorem c12_low : ∀ (n x : Nat), x < 256 ^ n → c2 n (c1 n x) % 16 ≤ 4
  | 0, x, h => by
    have : x = 0 := by omega
    subst this
    decide
  | n + 1, x, h => by
    have e : x = x % 256 + 256 * (x / 256) := by omega
    have hb := b1 ⟨x % 256, by omega⟩
    rw [e, c1_step (by omega), c2_step hb.1]
    have := hb.2.2.1
    omega
theorem cAll_step {a : Nat} (ha : a < 256) (n y : Nat) (hy : y < 256 ^ n) : cAll (n + 1) (a + 256 * y) = pcB a + 256 * cAll n y := by
  have hb := b1 ⟨a, ha⟩
  have lo := c12_low n y hy
  unfold cAll
  rw [c1_step ha, c2_step hb.1]
  generalize c2 n (c1 n y) = z at *
  have h68 : d2 (d1 a) ≤ 68 := hb.2.2.2.1
  have h16 : d2 (d1 a) % 16 ≤ 4 := hb.2.2.1
  have h3 : d2 (d1 a) / 16 + 16 * (z % 16) + d2 (d1 a) < 256 ∧ (d2 (d1 a) / 16 + 16 * (z % 16) + d2 (d1 a)) &&& 15 = (d2 (d1 a) / 16 + d2 (d1 a)) % 16 := b3 ⟨d2 (d1 a), by omega⟩ ⟨z % 16, by omega⟩ h16
  clear hb
  show ((d2 (d1 a) + 256 * z) / 16 + (d2 (d1 a) + 256 * z)) &&& (15 + 256 * mkB 15 n) = pcB a + 256 * ((z / 16 + z) &&& mkB 15 n)
  unfold pcB
  generalize d2 (d1 a) = c at *
  have e : (c + 256 * z) / 16 + (c + 256 * z) = (c / 16 + 16 * (z % 16) + c) + 256 * (z / 16 + z) := by omega
  rw [e, and_bytes h3.1 (by omega)]
  have := h3.2
  show ((c / 16 + 16 * (z % 16) + c) &&& 15) + _ = _
  rw [this]
def parB : Nat → Nat → Bool
  | 0, _ => false
  | k + 1, x => (x.testBit 0) ^^ parB k (x / 2)
theorem parB_byte : ∀ a : Fin 256, parB 8 a.val = decide (pcB a.val % 2 = 1) := by decide +kernel
theorem parB_low : ∀ (k m x y : Nat), x < 2 ^ k → parB (k + m) (x + 2 ^ k * y) = (parB k x ^^ parB m y)
  | 0, m, x, y, h => by
    have : x = 0 := by omega
    subst this
    rw [Nat.zero_add, Nat.pow_zero, Nat.one_mul, Nat.zero_add]
    show parB m y = (false ^^ parB m y)
    simp
  | k + 1, m, x, y, h => by
    rw [Nat.pow_succ] at h
    have e1 : (x + 2 ^ (k + 1) * y) / 2 = x / 2 + 2 ^ k * y := by
      rw [Nat.pow_succ, Nat.mul_right_comm, Nat.mul_comm _ 2]; omega
    have e2 : (x + 2 ^ (k + 1) * y).testBit 0 = x.testBit 0 := by
      rw [Nat.testBit_zero, Nat.testBit_zero, Nat.pow_succ, Nat.mul_right_comm, Nat.mul_comm _ 2]
      have : (x + 2 * (2 ^ k * y)) % 2 = x % 2 := by omega
      rw [this]
    rw [show k + 1 + m = (k + m) + 1 by omega]
    show ((x + 2 ^ (k + 1) * y).testBit 0 ^^ parB (k + m) ((x + 2 ^ (k + 1) * y) / 2)) = ((x.testBit 0 ^^ parB k (x / 2)) ^^ parB m y)
    rw [e1, e2, parB_low k m (x / 2) y (by omega)]
    cases x.testBit 0 <;> cases parB k (x / 2) <;> cases parB m y <;> rfl
theorem parB_zero : ∀ m, parB m 0 = false
  | 0 => rfl
  | m + 1 => by
    show ((0 : Nat).testBit 0 ^^ parB m (0 / 2)) = false
    rw [Nat.zero_div, parB_zero m]; rfl
theorem fold_par : ∀ (k x : Nat) (o : Bool), (bl k x).foldl (fun o b => !(o == b)) o = (o ^^ parB k x)
  | 0, x, o => by show o = (o ^^ false); simp
  | k + 1, x, o => by
    have e : bl (k + 1) x = x.testBit 0 :: bl k (x / 2) := by
      unfold bl
      rw [List.range_succ_eq_map, List.map_cons, List.map_map]
      congr 1
      refine List.map_congr_left fun i _ => ?_
      show x.testBit (i + 1) = (x / 2).testBit i
      exact Nat.testBit_succ x i
    rw [e, List.foldl_cons, fold_par k]
    show (!(o == x.testBit 0) ^^ parB k (x / 2)) = (o ^^ (x.testBit 0 ^^ parB k (x / 2)))
    cases o <;> cases x.testBit 0 <;> cases parB k (x / 2) <;> rfl
theorem parN_is {w a : Nat} (h2 : w ≤ 64) (ha : a < 2 ^ w) : parN w a = parB 64 a := by
  unfold parN
  rw [fold_par]
  have h := parB_low w (64 - w) a 0 ha
  rw [Nat.mul_zero, Nat.add_zero, parB_zero, show w + (64 - w) = 64 by omega] at h
  rw [h]
  cases parB w a <;> rfl
def dig : List Nat → Nat
  | [] => 0
  | c :: l => c + 256 * dig l
def addL : List Nat → List Nat → List Nat
  | [], m => m
  | a :: l, [] => a :: l
  | a :: l, b :: m => (a + b) :: addL l m
theorem dig_add : ∀ l m : List Nat, dig l + dig m = dig (addL l m)
  | [], m => Nat.zero_add _
  | a :: l, [] => rfl
  | a :: l, b :: m => by
    have := dig_add l m
    show a + 256 * dig l + (b + 256 * dig m) = (a + b) + 256 * dig (addL l m)
    omega
theorem dig_div {c : Nat} {l : List Nat} (h : c < 256) : dig (c :: l) / 256 = dig l := by
  show (c + 256 * dig l) / 256 = dig l
  omega
theorem dig_pow : ∀ l : List Nat, (∀ c ∈ l, c < 256) → dig l < 256 ^ l.length
  | [], _ => by decide
  | c :: l, h => by
    have h1 := h c (List.mem_cons_self ..)
    have h2 := dig_pow l fun x hx => h x (List.mem_cons_of_mem _ hx)
    show c + 256 * dig l < 256 ^ (l.length + 1)
    rw [Nat.pow_succ]; omega
theorem dig_lt {l : List Nat} (hl : l.length = 8) (h : ∀ c ∈ l, c < 256) : dig l < M64 := by
  have := dig_pow l h
  rw [hl] at this
  exact this
theorem dig_low {c x : Nat} {l : List Nat} (e : c = x) (h : x ≤ 64) : dig (c :: l) % 128 = x := by
  show (c + 256 * dig l) % 128 = x
  omega
def onesF (s : Nat) : Nat :=
  ((((s + s / 256) % M64) + ((s + s / 256) % M64) / 65536) % M64 + ((((s + s / 256) % M64) + ((s + s / 256) % M64) / 65536) % M64) / 4294967296) % M64
theorem ones_par {x : Nat} (hx : x < M64) : decide (onesF (cAll 8 x) % 128 % 2 = 1) = parB 64 x := by
  have st := fun (n : Nat) (y : Nat) (hy : y < 256 ^ (n + 1)) => show cAll (n + 1) y = pcB (y % 256) + 256 * cAll n (y / 256) by
    have := cAll_step (a := y % 256) (by omega) n (y / 256) (by rw [Nat.pow_succ] at hy; omega)
    rwa [show y % 256 + 256 * (y / 256) = y by omega] at this
  have pt := fun (k : Nat) (y : Nat) => show parB (8 + k) y = (decide (pcB (y % 256) % 2 = 1) ^^ parB k (y / 256)) by
    have := parB_low 8 k (y % 256) (y / 256) (by show y % 256 < 256; omega)
    rw [show (2 : Nat) ^ 8 = 256 from rfl, show y % 256 + 256 * (y / 256) = y by omega] at this
    rw [this, parB_byte ⟨y % 256, by omega⟩]
  have le := fun (y : Nat) => (b1 ⟨y % 256, by omega⟩).2.2.2.2
  have hx : x < 18446744073709551616 := hx
  rw [st 7 x (by simpa using hx), st 6 (x / 256) (by simp; omega), st 5 (x / 256 / 256) (by simp; omega), st 4 (x / 256 / 256 / 256) (by simp; omega), st 3 (x / 256 / 256 / 256 / 256) (by simp; omega), st 2 (x / 256 / 256 / 256 / 256 / 256) (by simp; omega), st 1 (x / 256 / 256 / 256 / 256 / 256 / 256) (by simp; omega), st 0 (x / 256 / 256 / 256 / 256 / 256 / 256 / 256) (by simp; omega)]
  rw [pt 56 x, pt 48, pt 40, pt 32, pt 24, pt 16, pt 8, pt 0]
  have l0 := le x
  have l1 := le (x / 256)
  have l2 := le (x / 256 / 256)
  have l3 := le (x / 256 / 256 / 256)
  have l4 := le (x / 256 / 256 / 256 / 256)
  have l5 := le (x / 256 / 256 / 256 / 256 / 256)
  have l6 := le (x / 256 / 256 / 256 / 256 / 256 / 256)
  have l7 := le (x / 256 / 256 / 256 / 256 / 256 / 256 / 256)
  have z : cAll 0 (x / 256 / 256 / 256 / 256 / 256 / 256 / 256 / 256) = 0 := by
    unfold cAll c3
    exact Nat.and_zero _
  rw [z]
  show _ = (_ ^^ (_ ^^ (_ ^^ (_ ^^ (_ ^^ (_ ^^ (_ ^^ (_ ^^ false))))))))
  simp only at l0 l1 l2 l3 l4 l5 l6 l7
  generalize pcB (x % 256) = p0 at *
  generalize pcB (x / 256 % 256) = p1 at *
  generalize pcB (x / 256 / 256 % 256) = p2 at *
  generalize pcB (x / 256 / 256 / 256 % 256) = p3 at *
  generalize pcB (x / 256 / 256 / 256 / 256 % 256) = p4 at *
  generalize pcB (x / 256 / 256 / 256 / 256 / 256 % 256) = p5 at *
  generalize pcB (x / 256 / 256 / 256 / 256 / 256 / 256 % 256) = p6 at *
  generalize pcB (x / 256 / 256 / 256 / 256 / 256 / 256 / 256 % 256) = p7 at *
  have hs : onesF (dig [p0, p1, p2, p3, p4, p5, p6, p7]) % 128 = p0 + p1 + p2 + p3 + p4 + p5 + p6 + p7 := by
    unfold onesF
    have e1 : dig [p0, p1, p2, p3, p4, p5, p6, p7] / 256 = dig [p1, p2, p3, p4, p5, p6, p7] := dig_div (by omega)
    have e2 : (dig [p0, p1, p2, p3, p4, p5, p6, p7] + dig [p1, p2, p3, p4, p5, p6, p7]) % M64 = dig [p0 + p1, p1 + p2, p2 + p3, p3 + p4, p4 + p5, p5 + p6, p6 + p7, p7] := by
      rw [dig_add]
      refine Nat.mod_eq_of_lt (dig_lt rfl ?_)
      simp only [addL, List.mem_cons, List.not_mem_nil, or_false]
      rintro c (rfl | rfl | rfl | rfl | rfl | rfl | rfl | rfl) <;> omega
    have e3 : dig [p0 + p1, p1 + p2, p2 + p3, p3 + p4, p4 + p5, p5 + p6, p6 + p7, p7] / 65536 = dig [p2 + p3, p3 + p4, p4 + p5, p5 + p6, p6 + p7, p7] := by
      rw [show (65536 : Nat) = 256 * 256 from rfl, ← Nat.div_div_eq_div_mul, dig_div (by omega), dig_div (by omega)]
    have e4 : (dig [p0 + p1, p1 + p2, p2 + p3, p3 + p4, p4 + p5, p5 + p6, p6 + p7, p7] + dig [p2 + p3, p3 + p4, p4 + p5, p5 + p6, p6 + p7, p7]) % M64 = dig [p0 + p1 + p2 + p3, p1 + p2 + p3 + p4, p2 + p3 + p4 + p5, p3 + p4 + p5 + p6, p4 + p5 + p6 + p7, p5 + p6 + p7, p6 + p7, p7] := by
      rw [dig_add]
      have e : addL [p0 + p1, p1 + p2, p2 + p3, p3 + p4, p4 + p5, p5 + p6, p6 + p7, p7] [p2 + p3, p3 + p4, p4 + p5, p5 + p6, p6 + p7, p7] = [p0 + p1 + p2 + p3, p1 + p2 + p3 + p4, p2 + p3 + p4 + p5, p3 + p4 + p5 + p6, p4 + p5 + p6 + p7, p5 + p6 + p7, p6 + p7, p7] := by simp only [addL, Nat.add_assoc]
      rw [e]
      refine Nat.mod_eq_of_lt (dig_lt rfl ?_)
      simp only [List.mem_cons, List.not_mem_nil, or_false]
      rintro c (rfl | rfl | rfl | rfl | rfl | rfl | rfl | rfl) <;> omega
    have e5 : dig [p0 + p1 + p2 + p3, p1 + p2 + p3 + p4, p2 + p3 + p4 + p5, p3 + p4 + p5 + p6, p4 + p5 + p6 + p7, p5 + p6 + p7, p6 + p7, p7] / 4294967296 = dig [p4 + p5 + p6 + p7, p5 + p6 + p7, p6 + p7, p7] := by
      rw [show (4294967296 : Nat) = 256 * 256 * 256 * 256 from rfl, ← Nat.div_div_eq_div_mul, ← Nat.div_div_eq_div_mul, ← Nat.div_div_eq_div_mul, dig_div (by omega), dig_div (by omega), dig_div (by omega), dig_div (by omega)]
    rw [e1, e2, e3, e4, e5, dig_add]
    rw [Nat.mod_eq_of_lt (dig_lt rfl (by
      simp only [addL, List.mem_cons, List.not_mem_nil, or_false]
      rintro c (rfl | rfl | rfl | rfl | rfl | rfl | rfl | rfl) <;> omega))]
    simp only [addL]
    exact dig_low (by omega) (by omega)
  rw [show p0 + 256 * (p1 + 256 * (p2 + 256 * (p3 + 256 * (p4 + 256 * (p5 + 256 * (p6 + 256 * (p7 + 256 * 0))))))) = dig [p0, p1, p2, p3, p4, p5, p6, p7] from rfl]
  rw [hs]
  have xr := fun (a b : Nat) => show (decide (a % 2 = 1) ^^ decide (b % 2 = 1)) = decide ((a + b) % 2 = 1) by
    rcases Nat.mod_two_eq_zero_or_one a with h | h <;> rcases Nat.mod_two_eq_zero_or_one b with h' | h' <;> rw [h, h', Nat.add_mod, h, h'] <;> rfl
  rw [Bool.xor_false, xr, xr, xr, xr, xr, xr, xr]
  congr 2
  omega
end Go.Proofs.YthlhbocobgkdmaaGreat
