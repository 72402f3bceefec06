import Derived.Test.YtpmjplpnpnmlcaaGreatDoorM1
import Derived.Test.YtpmjplpnpnmlcaaGreatDoorEng
namespace Go.Proofs.YtpmjplpnpnmlcaaGreatDoor
open Go.AE
set_option linter.all false
def ansI : Out → Int → Bool
  | some (true, [.int .i64 b]), c => b == c
  | _, _ => false
theorem ansI_eq {o : Out} {c : Int} (h : ansI o c = true) : o = some (true, [.int .i64 c]) := by
  unfold ansI at h
  split at h
  · rw [eq_of_beq h]
  · cases h
def oneAt (n : Nat) : Int := idxByte (UInt8.ofNat n) oneS 0
set_option maxRecDepth 100000 in
theorem one_all : allLt (fun n => ansI (go 20 230 [.str oneS, .int .u8 (n : Int)]) (oneAt n)) 256 = true := by kernel_rfl
theorem one_is (a : UInt8) : Ru 230 [.str oneS, .int .u8 (a.toNat : Int)] (true, [.int .i64 (oneAt a.toNat)]) := go_Ru (n := 20) (ansI_eq (allLt_at one_all a.toNat a.toNat_lt))
def signB (n : Nat) : Bool := !isLet n && !isDig n && !isBlank n && !Nat.beq n 36 && !Nat.beq n 39
def isS1 (a : UInt8) : Bool := signB a.toNat && decide (0 ≤ oneAt a.toNat)
theorem signB_parts {n : Nat} (h : signB n = true) : isLet n = false ∧ isDig n = false ∧ isBlank n = false ∧ n ≠ 36 ∧ n ≠ 39 ∧ n ≠ 32 ∧ n ≠ 10 := by
  simp only [signB, Bool.and_eq_true, Bool.not_eq_true'] at h
  obtain ⟨⟨⟨⟨h1, h2⟩, h3⟩, h4⟩, h5⟩ := h
  refine ⟨h1, h2, h3, ?_, ?_, ?_, ?_⟩
  · rintro rfl; cases h4
  · rintro rfl; cases h5
  · rintro rfl; cases h3
  · rintro rfl; cases h3
theorem wok_s1 {a : UInt8} (h : isS1 a = true) : WOk (3, [a]) := by
  rw [isS1, Bool.and_eq_true] at h
  obtain ⟨h1, h2, h3, h4, h5, h6, h7⟩ := signB_parts h.1
  refine ⟨⟨a, [], rfl, h3⟩, fun b hb => ?_, fun r hr => ?_⟩
  · rw [List.mem_singleton.1 hb]
    exact fun e => h7 (by rw [e]; rfl)
  · exact word_sign (m := 1) h1 h2 h4 h5 (by decide) (sign_one (by omega) (fun e => h6 (by rw [e]; rfl)) (one_is a) (of_decide_eq_true h.2))
def isS2 (a b : UInt8) : Bool := signB a.toNat && !isBlank b.toNat && decide (0 ≤ idxStr ([32] ++ [a, b] ++ [32]) longS 0)
theorem wok_s2 {a b : UInt8} (h : isS2 a b = true) : WOk (3, [a, b]) := by
  simp only [isS2, Bool.and_eq_true, Bool.not_eq_true'] at h
  obtain ⟨h1, h2, h3, h4, h5, h6, h7⟩ := signB_parts h.1.1
  have hb32 : b ≠ 32 := by
    rintro rfl
    exact absurd h.1.2 (by decide)
  have hb10 : b ≠ 10 := by
    rintro rfl
    exact absurd h.1.2 (by decide)
  refine ⟨⟨a, [b], rfl, h3⟩, fun u hu => ?_, fun r hr => ?_⟩
  · rcases List.mem_cons.1 hu with rfl | hu
    · exact fun e => h7 (by rw [e]; rfl)
    · rw [List.mem_singleton.1 hu]; exact hb10
  · exact word_sign (m := 2) h1 h2 h4 h5 (by decide) (sign_two (by omega) (fun e => h6 (by rw [e]; rfl)) hb32 h.2)
def isNum : List UInt8 → Bool
  | [] => false
  | a :: s => isDig a.toNat && s.all (fun b => isDig b.toNat) && Nat.ble s.length 1000
theorem dig_dgu {n : Nat} (h : isDig n = true) : isDgU n = true := by unfold isDgU; rw [h]; rfl
theorem wok_num {w : List UInt8} (h : isNum w = true) {x : D} (hp : Ru 169 [.str w] (true, [x, .int .i64 0])) (hn : nrmAll (holes (sg 169).ro) [x, .int .i64 0] = true) : WOk (2, w) := by
  cases w with
  | nil => cases h
  | cons a s =>
    simp only [isNum, Bool.and_eq_true, List.all_eq_true] at h
    have hl := Nat.le_of_ble_eq_true h.2
    have hall : ∀ b ∈ a :: s, isDig b.toNat = true := fun b hb => by
      rcases List.mem_cons.1 hb with rfl | hb
      · exact h.1.1
      · exact h.1.2 b hb
    refine ⟨⟨a, s, rfl, (nam_nb (by unfold isNam; rw [h.1.1]; cases isLet a.toNat <;> rfl)).1⟩, fun b hb => (nam_nb (by unfold isNam; rw [hall b hb]; cases isLet b.toNat <;> rfl)).2, fun r hr => ?_⟩
    have hsp : spanN isDgU ((a :: s) ++ 32 :: r) = (a :: s).length := spanN_all (by decide) r fun b hb => dig_dgu (hall b hb)
    have := word_num (c := a) (s := s ++ 32 :: r) (x := x) (by simp only [List.length_append, List.length_cons]; omega) h.1.1
      (by rw [← List.cons_append, hsp]; simp) (by rw [← List.cons_append, hsp, List.take_left' rfl]; exact hp) hn
    rw [← List.cons_append, hsp] at this
    exact this
theorem Ru_of {f : Nat} {p : T} {xs : List D} {l : Nat} {r : Bool × List D} (q : Eqn C sg f p) (hx : nrmAll (sg f).hs xs = true) (hl : (sg f).hs.length = l) (N : Nat) (h : ∀ k, N ≤ k → p.den sg (R k) [] l (fun i => nth xs i) = some r) : Ru f xs r := by
  refine ⟨N + 1, fun n hn => ?_⟩
  obtain ⟨k, rfl⟩ : ∃ k, n = k + 1 := ⟨n - 1, by omega⟩
  rw [R_eqn q hx, expAt_n hx, hl]
  exact h k (by omega)
theorem den_cp {rec : Nat → List D → Out} {J : List (List D → Out)} {f : Nat} {es : List Ar} {x : T} {n : Nat} {V : Nat → D} {r : List D} (h : rec f (arD V es) = some (true, r)) (h2 : nrmAll (holes (sg f).ro) r = true) (h3 : plainDs (sg f).ro r = true) : (cp f es x).den sg rec J n V = x.den sg rec J (n + (holes (sg f).ro).length) (pushL V n r) := by
  show AE.bindC (rec f (arD V es)) (fun r => bif (bif true then chk (sg f).ro r && plainDs (sg f).ro r else chk (sg f).ro r) then x.den sg rec J (n + (holes (sg f).ro).length) (pushR V n (holes (sg f).ro) r) else none) = _
  rw [h]
  show (bif chk (sg f).ro r && plainDs (sg f).ro r then x.den sg rec J (n + (holes (sg f).ro).length) (pushR V n (holes (sg f).ro) r) else none) = _
  rw [chk_nrm h2, h3, ← pushF_R h2, pushF_L]; rfl
def dv (s : List UInt8) : Nat := s.foldl (fun n b => 10 * n + (b.toNat - 48)) 0
theorem dv_snoc (p : List UInt8) (b : UInt8) : dv (p ++ [b]) = 10 * dv p + (b.toNat - 48) := by simp [dv, List.foldl_append]
theorem dv_le : ∀ (q p : List UInt8), dv p ≤ dv (p ++ q)
  | [], p => by simp
  | b :: q, p => by
    have h1 := dv_snoc p b
    have h2 := dv_le q (p ++ [b])
    rw [List.append_assoc, List.singleton_append] at h2
    omega
def dgD (b : UInt8) : D := .int .i64 ((b.toNat - 48 : Nat) : Int)
set_option maxRecDepth 100000 in
theorem val_all : allLt (fun n => ansI (go 20 317 [.int .u8 ((48 + n : Nat) : Int)]) (n : Int)) 10 = true := by kernel_rfl
theorem val_is {b : UInt8} (h : isDig b.toNat = true) : Ru 317 [.int .u8 (b.toNat : Int)] (true, [dgD b]) := by
  unfold isDig at h
  rw [Bool.and_eq_true] at h
  have h1 := Nat.le_of_ble_eq_true h.1
  have h2 := Nat.le_of_ble_eq_true h.2
  have := go_Ru (n := 20) (ansI_eq (allLt_at val_all (b.toNat - 48) (by omega)))
  rw [show 48 + (b.toNat - 48) = b.toNat by omega] at this
  exact this
theorem digs_loop : ∀ (q p : List UInt8), (∀ b ∈ q, isDig b.toNat = true) → (p ++ q).length < 1000 →
    Ru 278 [.str (p ++ q), .int .i64 10, .int .i64 ((p ++ q).length : Nat), .int .i64 (p.length : Nat), .lst 1 (p.map dgD)] (false, [.str (p ++ q), .int .i64 10, .int .i64 ((p ++ q).length : Nat), .int .i64 ((p ++ q).length : Nat), .lst 1 ((p ++ q).map dgD)])
  | [], p, _, _ => by
    refine Ru_of q278 (by kernel_rfl) (l := 5) (by kernel_rfl) 0 fun k _ => ?_
    unfold p278
    refine (den_if ?_).trans ?_
    · show decide ((p.length : Int) < ((p ++ []).length : Nat)) = false
      exact decide_eq_false (by simp)
    show some (false, [D.str (p ++ []), .int .i64 10, .int .i64 ((p ++ []).length : Nat), .int .i64 (p.length : Nat), .lst 1 (p.map dgD)]) = _
    rw [List.append_nil]
  | b :: q, p, hq, hl => by
    have hb := hq b (List.mem_cons_self ..)
    obtain ⟨M, hM⟩ := val_is hb
    obtain ⟨N, hN⟩ := digs_loop q (p ++ [b]) (fun u hu => hq u (List.mem_cons_of_mem _ hu)) (by simpa using hl)
    rw [List.append_assoc, List.singleton_append] at hN
    have hlt : p.length < (p ++ b :: q).length := by simp
    have hget : (p ++ b :: q)[p.length]? = some b := by simp
    refine Ru_of q278 (by kernel_rfl) (l := 5) (by kernel_rfl) (N + M) fun k hk => ?_
    unfold p278
    refine (den_it ?_).trans ?_
    · show decide ((p.length : Int) < ((p ++ b :: q).length : Nat)) = true
      exact decide_eq_true (by omega)
    refine (den_g ?_).trans ?_
    · show (decide ((0 : Int) ≤ (p.length : Int)) && decide ((p.length : Int) < ((p ++ b :: q).length : Nat))) = true
      rw [decide_eq_true (by omega), decide_eq_true (by omega)]; rfl
    rw [den_l]
    refine (den_c (r := [dgD b]) ?_ (by kernel_rfl)).trans ?_
    · show R k 317 [.int .u8 ((p ++ b :: q)[(p.length : Int).toNat]?.getD 0).toNat] = _
      rw [Int.toNat_natCast, hget]; exact hM k (by omega)
    rw [show (holes (sg 317).ro).length = 1 by kernel_rfl]
    refine (den_g ?_).trans ?_
    · show (decide ((0 : Int) ≤ (p.length : Int)) && decide ((p.length : Int) < ((p ++ b :: q).length : Nat))) = true
      rw [decide_eq_true (by omega), decide_eq_true (by omega)]; rfl
    rw [den_l]
    unfold isDig at hb
    rw [Bool.and_eq_true] at hb
    have h1 := Nat.le_of_ble_eq_true hb.1
    have h2 := Nat.le_of_ble_eq_true hb.2
    refine (den_if ?_).trans ?_
    · show ((((p ++ b :: q)[(p.length : Int).toNat]?.getD 0).toNat : Int) == 95) = false
      rw [Int.toNat_natCast, hget]
      exact beq_eq_false_iff_ne.2 (by show ((b.toNat : Nat) : Int) ≠ 95; omega)
    refine (den_it ?_).trans ?_
    · show decide (((b.toNat - 48 : Nat) : Int) < 10) = true
      exact decide_eq_true (by omega)
    refine (den_g ?_).trans ?_
    · show Nat.ble ((p.map dgD).length + 1) maxLst = true
      exact Nat.ble_eq_true_of_le (by rw [List.length_map]; show _ ≤ 68719476736; omega)
    rw [den_l, den_l]
    show R k 278 [.str (p ++ b :: q), .int .i64 10, .int .i64 ((p ++ b :: q).length : Nat), .int .i64 (IntKind.i64.wrap ((p.length : Int) + 1)), .lst 1 (p.map dgD ++ [dgD b])] = _
    have := hN k (by omega)
    rw [wrap_succ (by omega)]
    simp only [List.length_append, List.length_singleton, List.map_append, List.map_cons, List.map_nil] at this ⊢
    exact this
theorem digits_is {s : List UInt8} (h0 : s ≠ []) (h : ∀ b ∈ s, isDig b.toNat = true) (hl : s.length < 1000) : Ru 225 [.str s, .int .i64 10] (true, [.int .i64 0, .lst 1 (s.map dgD)]) := by
  obtain ⟨N, hN⟩ := digs_loop s [] h hl
  simp only [List.nil_append, List.length_nil, List.map_nil] at hN
  refine Ru_of q225 (by kernel_rfl) (l := 2) (by kernel_rfl) N fun k hk => ?_
  unfold p225
  refine (den_if ?_).trans ?_
  · show (s == []) = false
    exact beq_eq_false_iff_ne.2 h0
  exact (den_o (hN k (by omega)) (by kernel_rfl)).trans rfl
theorem small_loop {mo : Nat} (hmo : mo < 100000000000) : ∀ (q p : List UInt8), (∀ b ∈ q, isDig b.toNat = true) → (p ++ q).length < 1000 → dv (p ++ q) ≤ mo →
    Ru 279 [.int .i64 (mo : Int), .int .i64 (dv p : Int), .lst 1 ((p ++ q).map dgD), .int .i64 ((p ++ q).length : Nat), .int .i64 (p.length : Nat)] (false, [.int .i64 (mo : Int), .int .i64 (dv (p ++ q) : Int), .lst 1 ((p ++ q).map dgD), .int .i64 ((p ++ q).length : Nat), .int .i64 ((p ++ q).length : Nat)])
  | [], p, _, _, _ => by
    refine Ru_of q279 (by kernel_rfl) (l := 5) (by kernel_rfl) 0 fun k _ => ?_
    unfold p279
    refine (den_if ?_).trans ?_
    · show decide ((p.length : Int) < ((p ++ []).length : Nat)) = false
      exact decide_eq_false (by simp)
    show some (false, [D.int .i64 (mo : Int), .int .i64 (dv p : Int), .lst 1 ((p ++ []).map dgD), .int .i64 ((p ++ []).length : Nat), .int .i64 (p.length : Nat)]) = _
    rw [List.append_nil]
  | b :: q, p, hq, hl, hm => by
    have hs : p ++ [b] ++ q = p ++ b :: q := by simp
    obtain ⟨N, hN⟩ := small_loop hmo q (p ++ [b]) (fun u hu => hq u (List.mem_cons_of_mem _ hu)) (by simpa using hl) (by rw [hs]; exact hm)
    rw [hs] at hN
    have hd := dv_snoc p b
    have hle := dv_le q (p ++ [b])
    rw [hs] at hle
    have hb := hq b (List.mem_cons_self ..)
    unfold isDig at hb
    rw [Bool.and_eq_true] at hb
    have h1 := Nat.le_of_ble_eq_true hb.1
    have h2 := Nat.le_of_ble_eq_true hb.2
    have hlt : p.length < (p ++ b :: q).length := by simp
    refine Ru_of q279 (by kernel_rfl) (l := 5) (by kernel_rfl) N fun k hk => ?_
    unfold p279
    refine (den_it ?_).trans ?_
    · show decide ((p.length : Int) < ((p ++ b :: q).length : Nat)) = true
      exact decide_eq_true (by omega)
    refine (den_g ?_).trans ?_
    · show (decide ((0 : Int) ≤ (p.length : Int)) && decide ((p.length : Int) < (((p ++ b :: q).map dgD).length : Nat))) = true
      rw [List.length_map, decide_eq_true (by omega), decide_eq_true (by omega)]; rfl
    have hg : ∀ V : Nat → D, V 2 = .lst 1 ((p ++ b :: q).map dgD) → V 4 = .int .i64 (p.length : Nat) → (E.g 2 4).den V = dgD b := by
      intro V e1 e2
      show (V 2).l[(V 4).i.toNat]?.getD .top = _
      rw [e1, e2]
      show ((p ++ b :: q).map dgD)[(p.length : Int).toNat]?.getD .top = _
      rw [Int.toNat_natCast]; simp
    refine (den_t rfl ?_).trans ?_
    · rw [hg _ rfl rfl]; rfl
    rw [hg _ rfl rfl, den_l, den_l, den_l, den_l]
    show R k 279 [.int .i64 (mo : Int), .int .i64 (min (IntKind.i64.wrap (IntKind.i64.wrap (10 * (dv p : Int)) + ((b.toNat - 48 : Nat) : Int))) (mo : Int)), .lst 1 ((p ++ b :: q).map dgD), .int .i64 ((p ++ b :: q).length : Nat), .int .i64 (IntKind.i64.wrap ((p.length : Int) + 1))] = _
    have := hN k (by omega)
    rw [wrap_succ (by omega), wrap_id (x := 10 * (dv p : Int)) (by omega) (by omega), wrap_id (by omega) (by omega)]
    rw [show min (10 * (dv p : Int) + ((b.toNat - 48 : Nat) : Int)) (mo : Int) = (dv (p ++ [b]) : Int) by omega]
    simp only [List.length_append, List.length_singleton] at this ⊢
    exact this
theorem small_is {s : List UInt8} {mo : Nat} (hmo : mo < 100000000000) (h : ∀ b ∈ s, isDig b.toNat = true) (hl : s.length < 1000) (hm : dv s ≤ mo) : Ru 226 [.lst 1 (s.map dgD), .int .i64 (mo : Int)] (true, [.int .i64 (dv s : Int)]) := by
  obtain ⟨N, hN⟩ := small_loop hmo s [] h hl hm
  simp only [List.nil_append, List.length_nil] at hN
  refine Ru_of q226 (by kernel_rfl) (l := 2) (by kernel_rfl) N fun k hk => ?_
  unfold p226
  refine (den_o (r := [.int .i64 (mo : Int), .int .i64 (dv s : Int), .lst 1 (s.map dgD), .int .i64 (s.length : Nat), .int .i64 (s.length : Nat)]) ?_ (by kernel_rfl)).trans rfl
  show R k 279 [.int .i64 (mo : Int), .int .i64 0, .lst 1 (s.map dgD), .int .i64 ((s.map dgD).length : Nat), .int .i64 0] = _
  rw [List.length_map]
  exact hN k (by omega)
def M64 : Nat := 18446744073709551616
def wd (x : Nat) : D := .int .u64 (x : Int)
theorem wrap_u64_nat (x : Nat) : IntKind.u64.wrap (x : Int) = ((x % M64 : Nat) : Int) := by
  rw [IntKind.wrap_u64]; unfold M64; omega
theorem ofInt_toNat {x : Nat} (h : x < M64) : (BitVec.ofInt (IntKind.u64).bits (x : Int)).toNat = x := by
  rw [BitVec.toNat_ofInt]
  show ((x : Int) % ((2 ^ 64 : Nat) : Int)).toNat = x
  unfold M64 at h
  omega
theorem pow_int (r : Nat) : ((2 : Int) ^ r) = ((2 ^ r : Nat) : Int) := by simp
theorem mask_is {r : Nat} (hr : r ≤ 63) : IntKind.u64.wrap (IntKind.u64.wrap (1 * 2 ^ (min r (IntKind.u64).bits)) - 1) = ((2 ^ r - 1 : Nat) : Int) := by
  have hp : 2 ^ r < M64 := Nat.lt_of_le_of_lt (Nat.pow_le_pow_right (by omega) hr) (by decide)
  have h1 : 1 ≤ 2 ^ r := Nat.one_le_pow _ _ (by decide)
  have e : min r (IntKind.u64).bits = r := Nat.min_eq_left (by show r ≤ 64; omega)
  rw [e, Int.one_mul, pow_int, wrap_u64_nat, Nat.mod_eq_of_lt hp]
  have e2 : ((2 ^ r : Nat) : Int) - 1 = ((2 ^ r - 1 : Nat) : Int) := by omega
  rw [e2, wrap_u64_nat, Nat.mod_eq_of_lt (by omega)]
theorem and_mask {x r : Nat} (hx : x < M64) (hr : r ≤ 63) : IntKind.u64.wrap ((BitVec.ofInt (IntKind.u64).bits (x : Int) &&& BitVec.ofInt (IntKind.u64).bits (IntKind.u64.wrap (IntKind.u64.wrap (1 * 2 ^ (min r (IntKind.u64).bits)) - 1))).toNat : Int) = ((x % 2 ^ r : Nat) : Int) := by
  have hp : 2 ^ r < M64 := Nat.lt_of_le_of_lt (Nat.pow_le_pow_right (by omega) hr) (by decide)
  have h1 : 1 ≤ 2 ^ r := Nat.one_le_pow _ _ (by decide)
  rw [mask_is hr, BitVec.toNat_and, ofInt_toNat hx, ofInt_toNat (by omega), Nat.and_two_pow_sub_one_eq_mod, wrap_u64_nat, Nat.mod_eq_of_lt]
  exact Nat.lt_of_le_of_lt (Nat.mod_le _ _) hx
theorem fdiv_pow (x k : Nat) : ((x : Int)).fdiv (2 ^ k) = ((x / 2 ^ k : Nat) : Int) := by
  rw [pow_int, Int.fdiv_eq_ediv_of_nonneg _ (Int.natCast_nonneg _)]; rfl
theorem and_nat {x y : Nat} (hx : x < M64) (hy : y < M64) : (BitVec.ofInt (IntKind.u64).bits (x : Int) &&& BitVec.ofInt (IntKind.u64).bits (y : Int)).toNat = x &&& y := by
  rw [BitVec.toNat_and, ofInt_toNat hx, ofInt_toNat hy]
theorem bit_word {x r : Nat} (hx : x < M64) (hr : r < 64) : (IntKind.u64.wrap ((BitVec.ofInt (IntKind.u64).bits ((x : Int).fdiv (2 ^ (min r (IntKind.u64).bits))) &&& BitVec.ofInt (IntKind.u64).bits 1).toNat : Int) == 1) = x.testBit r := by
  have e : min r (IntKind.u64).bits = r := Nat.min_eq_left (by show r ≤ 64; omega)
  rw [e, fdiv_pow]
  have hq : x / 2 ^ r < M64 := Nat.lt_of_le_of_lt (Nat.div_le_self _ _) hx
  have := and_nat hq (y := 1) (by decide)
  rw [show ((1 : Nat) : Int) = 1 from rfl] at this
  rw [this, Nat.and_one_is_mod, wrap_u64_nat, Nat.mod_eq_of_lt (show x / 2 ^ r % 2 < M64 by unfold M64; omega), Nat.testBit_eq_decide_div_mod_eq]
  have h2 : x / 2 ^ r % 2 = 0 ∨ x / 2 ^ r % 2 = 1 := by omega
  rcases h2 with h2 | h2 <;> rw [h2] <;> rfl
def andW (x : Int) (r : Nat) : D := .int .u64 (IntKind.u64.wrap ((BitVec.ofInt (IntKind.u64).bits x &&& BitVec.ofInt (IntKind.u64).bits (IntKind.u64.wrap (IntKind.u64.wrap (1 * 2 ^ (min r (IntKind.u64).bits)) - 1))).toNat : Int))
theorem andW_is {x r : Nat} (hx : x < M64) (hr : r ≤ 63) : andW (x : Int) r = wd (x % 2 ^ r) := congrArg (D.int .u64) (and_mask hx hr)
def v32 (m : Nat) : D := .agg [.int .i64 32, .lst 1 [wd m]]
set_option maxRecDepth 100000 in
theorem new32_all (x : Int) : go 20 130 [.int .i64 32, .lst 1 [.int .u64 x]] = some (true, [.agg [.int .i64 32, .lst 1 [andW x 32]], .int .i64 0]) := by kernel_rfl
theorem new32 {m : Nat} (hm : m < 2147483648) : Ru 130 [.int .i64 32, .lst 1 [wd m]] (true, [v32 m, .int .i64 0]) := by
  have := go_Ru (new32_all (m : Int))
  rw [andW_is (by unfold M64; omega) (by decide), Nat.mod_eq_of_lt (show m < 2 ^ 32 by omega)] at this
  exact this
theorem of_is {m : Nat} (hm : m < 2147483648) : Ru 277 [.int .i64 (m : Int)] (true, [.agg [.int .i64 32, .lst 1 [wd m], .bool true, .bool false], .int .i64 0]) := by
  obtain ⟨N, hN⟩ := new32 hm
  refine Ru_of q277 (by kernel_rfl) (l := 1) (by kernel_rfl) N fun k hk => ?_
  unfold p277
  refine (den_if ?_).trans ?_
  · show decide ((m : Int) < 0) = false
    exact decide_eq_false (by omega)
  refine (den_if ?_).trans ?_
  · show decide ((m : Int) ≥ 2147483648) = false
    exact decide_eq_false (by omega)
  rw [den_l]
  refine (den_c (r := [v32 m, .int .i64 0]) ?_ (by kernel_rfl)).trans rfl
  show R k 130 [.int .i64 32, .lst 1 [.int .u64 (IntKind.u64.wrap (m : Int))]] = _
  rw [wrap_u64_nat, Nat.mod_eq_of_lt (by unfold M64; omega)]
  exact hN k (by omega)
structure Dec (s : List UInt8) (m : Nat) : Prop where
  ne : s ≠ []
  dig : ∀ b ∈ s, isDig b.toNat = true
  len : s.length ≤ 60
  val : dv s = m
  lt : m < 2147483648
def litD (m : Nat) : D := .agg [.int .i64 32, .lst 1 [wd m], .bool true, .bool false]
theorem idx_none {s : List UInt8} : ∀ j, (∀ b ∈ s, isDig b.toNat = true) → idxStr [39] s j = -1 := by
  induction s with
  | nil => intro j _; rfl
  | cons b s ih =>
    intro j h
    have hb : b ≠ 39 := by
      rintro rfl
      exact absurd (h 39 (List.mem_cons_self ..)) (by decide)
    show (bif List.isPrefixOf [39] (b :: s) then (j : Int) else idxStr [39] s (j + 1)) = -1
    have : List.isPrefixOf [39] (b :: s) = false := by
      show ((39 : UInt8) == b && List.isPrefixOf [] s) = false
      rw [show ((39 : UInt8) == b) = false from beq_eq_false_iff_ne.2 (Ne.symm hb)]; rfl
    rw [this]
    exact ih (j + 1) fun u hu => h u (List.mem_cons_of_mem _ hu)
theorem cut_is {s : List UInt8} (h : ∀ b ∈ s, isDig b.toNat = true) (hl : s.length ≤ 60) : Ru 223 [.str s, .str [39]] (true, [.str s, .str [], .bool false]) := by
  refine ⟨1, fun n hn => ?_⟩
  obtain ⟨k, rfl⟩ : ∃ k, n = k + 1 := ⟨n - 1, by omega⟩
  refine q223 [.str s, .str [39]] [.str s, .str [], .bool false] ?_ k
  show (bif Nat.ble s.length 4294967280 then some [D.str (cutStr s [39]).1, .str (cutStr s [39]).2.1, .bool (cutStr s [39]).2.2] else none) = _
  rw [Nat.ble_eq_true_of_le (by omega)]
  have : cutStr s [39] = (s, [], false) := by
    unfold cutStr
    rw [idx_none 0 h]; rfl
  rw [this]; rfl
theorem plain_is {s : List UInt8} {m : Nat} (h : Dec s m) : Ru 224 [.str s] (true, [litD m, .int .i64 0]) := by
  obtain ⟨N1, h1⟩ := digits_is h.ne h.dig (by have := h.len; omega)
  obtain ⟨N2, h2⟩ := small_is (mo := 2147483648) (by decide) h.dig (by have := h.len; omega) (by have := h.val; have := h.lt; omega)
  rw [h.val] at h2
  obtain ⟨N3, h3⟩ := of_is h.lt
  refine Ru_of q224 (by kernel_rfl) (l := 1) (by kernel_rfl) (N1 + N2 + N3) fun k hk => ?_
  unfold p224
  refine (den_c (h1 k (by omega)) (by kernel_rfl)).trans ?_
  rw [show (holes (sg 225).ro).length = 2 by kernel_rfl]
  refine (den_if rfl).trans ?_
  refine (den_cp (r := [.int .i64 (m : Int)]) (h2 k (by omega)) (by kernel_rfl) (by kernel_rfl)).trans ?_
  rw [show (holes (sg 226).ro).length = 1 by kernel_rfl]
  exact (den_c (r := [litD m, .int .i64 0]) (h3 k (by omega)) (by kernel_rfl)).trans rfl
theorem parse_is {s : List UInt8} {m : Nat} (h : Dec s m) : Ru 169 [.str s] (true, [litD m, .int .i64 0]) := by
  obtain ⟨N1, h1⟩ := cut_is h.dig h.len
  obtain ⟨N2, h2⟩ := plain_is h
  refine Ru_of q169 (by kernel_rfl) (l := 1) (by kernel_rfl) (N1 + N2) fun k hk => ?_
  unfold p169
  refine (den_c (r := [.str s, .str [], .bool false]) (h1 k (by omega)) (by kernel_rfl)).trans ?_
  rw [show (holes (sg 223).ro).length = 3 by kernel_rfl]
  refine (den_it rfl).trans ?_
  exact (den_c (r := [litD m, .int .i64 0]) (h2 k (by omega)) (by kernel_rfl)).trans rfl
theorem R_of {f : Nat} {p : T} {xs : List D} {l : Nat} (q : Eqn C sg f p) (hx : nrmAll (sg f).hs xs = true) (hl : (sg f).hs.length = l) (k : Nat) : R (k + 1) f xs = p.den sg (R k) [] l (fun i => nth xs i) := by
  rw [R_eqn q hx, expAt_n hx, hl]
theorem bit_gen {ws : List D} {w i x : Nat} (hl : i / 64 < ws.length) (hx : x < M64) (hg : ws[i / 64]?.getD .top = wd x) (hw : w ≤ 128) (hi : i < w) (n : Nat) : R (n + 1) 289 [.agg [.int .i64 (w : Int), .lst 1 ws], .int .i64 (i : Int)] = some (true, [.bool (x.testBit (i % 64))]) := by
  rw [R_of q289 (by kernel_rfl) (l := 2) (by kernel_rfl)]
  unfold p289
  refine (den_it ?_).trans ?_
  · show decide ((i : Int) ≥ 0) = true
    exact decide_eq_true (by omega)
  refine (den_it ?_).trans ?_
  · show decide ((i : Int) < (w : Int)) = true
    exact decide_eq_true (by omega)
  rw [den_l]
  have e1 : IntKind.i64.wrap ((i : Int).tdiv 64) = ((i / 64 : Nat) : Int) := by
    rw [Int.tdiv_eq_ediv_of_nonneg (by omega), wrap_id (by omega) (by omega)]; omega
  have e2 : (i : Int).tmod 64 = ((i % 64 : Nat) : Int) := by rw [Int.tmod_eq_emod_of_nonneg (by omega)]; omega
  refine (den_g ?_).trans ?_
  · show (decide ((0 : Int) ≤ IntKind.i64.wrap ((i : Int).tdiv 64)) && decide (IntKind.i64.wrap ((i : Int).tdiv 64) < (ws.length : Nat))) = true
    rw [e1, decide_eq_true (by omega), decide_eq_true (by omega)]; rfl
  have hgv : ∀ V : Nat → D, V 0 = .agg [.int .i64 (w : Int), .lst 1 ws] → V 2 = .int .i64 (IntKind.i64.wrap ((i : Int).tdiv 64)) → (E.g (.a 0 1) 2).den V = wd x := by
    intro V v0 v2
    show ((V 0).at_ 1).l[(V 2).i.toNat]?.getD .top = _
    rw [v0, v2, e1]
    show ws[((i / 64 : Nat) : Int).toNat]?.getD .top = _
    rw [Int.toNat_natCast]; exact hg
  refine (den_t rfl ?_).trans ?_
  · rw [hgv _ rfl rfl]; rfl
  rw [hgv _ rfl rfl, den_l]
  refine (den_if ?_).trans ?_
  · show decide ((i : Int).tmod 64 < 0) = false
    rw [e2]; exact decide_eq_false (by omega)
  rw [den_l, den_l]
  show some (true, [D.bool (IntKind.u64.wrap ((BitVec.ofInt (IntKind.u64).bits ((x : Int).fdiv (2 ^ (min ((i : Int).tmod 64).toNat (IntKind.u64).bits))) &&& BitVec.ofInt (IntKind.u64).bits 1).toNat : Int) == 1)]) = _
  rw [e2, Int.toNat_natCast, bit_word hx (Nat.mod_lt _ (by decide))]
theorem bit31 {m : Nat} (hm : m < 2147483648) : Ru 289 [v32 m, .int .i64 31] (true, [.bool false]) := by
  refine ⟨1, fun n hn => ?_⟩
  obtain ⟨k, rfl⟩ : ∃ k, n = k + 1 := ⟨n - 1, by omega⟩
  have := bit_gen (ws := [wd m]) (w := 32) (i := 31) (x := m) (by show 0 < 1; decide) (by unfold M64; omega) rfl (by decide) (by decide) k
  rw [Nat.testBit_lt_two_pow hm] at this
  exact this
set_option maxRecDepth 100000 in
theorem num_all (x : Int) : go 20 291 [.agg [.int .i64 32, .lst 1 [.int .u64 x]], .int .i64 2147483649] = some (true, [.int .i64 (IntKind.i64.wrap (min x 2147483649))]) := by kernel_rfl
theorem num_is {m : Nat} (hm : m < 2147483648) : Ru 291 [v32 m, .int .i64 2147483649] (true, [.int .i64 (m : Int)]) := by
  have := go_Ru (num_all (m : Int))
  rw [Int.min_eq_left (by omega), wrap_id (by omega) (by omega)] at this
  exact this
theorem int_is {m : Nat} (hm : m < 2147483648) : Ru 244 [litD m] (true, [.int .i64 (m : Int), .int .i64 0]) := by
  obtain ⟨N1, h1⟩ := bit31 hm
  obtain ⟨N2, h2⟩ := num_is hm
  obtain ⟨N3, h3⟩ : Ru 109 [v32 m] (true, [.int .i64 32]) := go_Ru (n := 5) (by kernel_rfl)
  refine Ru_of q244 (by kernel_rfl) (l := 1) (by kernel_rfl) (N1 + N2 + N3) fun k hk => ?_
  unfold p244
  refine (den_c (r := [.int .i64 32]) (h3 k (by omega)) (by kernel_rfl)).trans ?_
  rw [show (holes (sg 109).ro).length = 1 by kernel_rfl]
  refine (den_if rfl).trans ?_
  rw [den_j]
  refine (den_it rfl).trans ?_
  rw [den_l]
  refine (den_c (r := [.bool false]) (h1 k (by omega)) (by kernel_rfl)).trans ?_
  rw [show (holes (sg 289).ro).length = 1 by kernel_rfl, den_jp]
  unfold jmpTo
  refine (den_if rfl).trans ?_
  refine (den_c (r := [.int .i64 (m : Int)]) (h2 k (by omega)) (by kernel_rfl)).trans ?_
  rw [show (holes (sg 291).ro).length = 1 by kernel_rfl]
  refine (den_if rfl).trans ?_
  refine (den_if rfl).trans ?_
  refine (den_if ?_).trans rfl
  show decide ((m : Int) ≥ 2147483648) = false
  exact decide_eq_false (by omega)
def numE (f l c : Int) (w : List UInt8) (xs : List D) : D := .agg [.int .i64 1, .int .i64 f, .int .i64 l, .int .i64 c, .str w, .lst 6 xs]
def negE (f l c : Int) (e : D) : D := .agg [.int .i64 3, .int .i64 f, .int .i64 l, .int .i64 c, .str [45], .lst 6 [e]]
def stK (env : List D) : List D := [.lst 2 env, .int .i64 0, .int .i64 0, .int .i64 0, .int .i64 0]
theorem number_of {s : List UInt8} {m : Nat} (h : Dec s m) : ∃ N, ∀ (f l c : Int) (xs env : List D) (n : Nat), N ≤ n → R n 177 (numE f l c s xs :: stK env) = some (true, .int .i64 (m : Int) :: stK env) := by
  obtain ⟨N1, h1⟩ := parse_is h
  obtain ⟨N2, h2⟩ := int_is h.lt
  refine ⟨N1 + N2 + 1, fun f l c xs env n hn => ?_⟩
  obtain ⟨k, rfl⟩ : ∃ k, n = k + 1 := ⟨n - 1, by omega⟩
  rw [R_of q177 (by kernel_rfl) (l := 6) (by kernel_rfl)]
  unfold p177
  refine (den_c (r := [litD m, .int .i64 0]) (h1 k (by omega)) (by kernel_rfl)).trans ?_
  rw [show (holes (sg 169).ro).length = 2 by kernel_rfl, den_j]
  refine (den_if rfl).trans ?_
  rw [den_jp]
  unfold jmpTo
  refine (den_if rfl).trans ?_
  refine (den_c (r := [.int .i64 (m : Int), .int .i64 0]) (h2 k (by omega)) (by kernel_rfl)).trans ?_
  rw [show (holes (sg 244).ro).length = 2 by kernel_rfl]
  exact (den_if rfl).trans ((den_if rfl).trans rfl)
theorem expr_num {s : List UInt8} {m : Nat} (h : Dec s m) : ∃ N, ∀ (f l c : Int) (xs env : List D) (n : Nat), N ≤ n → R n 122 (numE f l c s xs :: stK env) = some (true, .int .i64 (m : Int) :: stK env) := by
  obtain ⟨N1, h1⟩ := number_of h
  have hm := h.lt
  refine ⟨N1 + 1, fun f l c xs env n hn => ?_⟩
  obtain ⟨k, rfl⟩ : ∃ k, n = k + 1 := ⟨n - 1, by omega⟩
  rw [R_of q122 (by kernel_rfl) (l := 6) (by kernel_rfl)]
  unfold p122
  rw [den_j]
  refine (den_it rfl).trans ?_
  refine (den_c (r := .int .i64 (m : Int) :: stK env) (h1 f l c xs env k (by omega)) (by kernel_rfl)).trans ?_
  rw [show (holes (sg 177).ro).length = 6 by kernel_rfl, den_jp]
  unfold jmpTo
  refine (den_it rfl).trans ?_
  refine (den_if ?_).trans ?_
  · show decide ((m : Int) < -2147483648) = false
    exact decide_eq_false (by omega)
  refine (den_if ?_).trans rfl
  show decide ((m : Int) > 2147483647) = false
  exact decide_eq_false (by omega)
theorem one_of {s : List UInt8} {m : Nat} (h : Dec s m) : ∃ N, ∀ (f l c f' l' c' : Int) (xs env : List D) (n : Nat), N ≤ n → R n 179 (negE f' l' c' (numE f l c s xs) :: stK env) = some (true, .int .i64 (-(m : Int)) :: stK env) := by
  obtain ⟨N1, h1⟩ := expr_num h
  have hm := h.lt
  refine ⟨N1 + 1, fun f l c f' l' c' xs env n hn => ?_⟩
  obtain ⟨k, rfl⟩ : ∃ k, n = k + 1 := ⟨n - 1, by omega⟩
  rw [R_of q179 (by kernel_rfl) (l := 6) (by kernel_rfl)]
  unfold p179
  refine (den_it rfl).trans ?_
  refine (den_g rfl).trans ?_
  refine (den_t rfl rfl).trans ?_
  refine (den_c (r := .int .i64 (m : Int) :: stK env) (h1 f l c xs env k (by omega)) (by kernel_rfl)).trans ?_
  rw [show (holes (sg 122).ro).length = 6 by kernel_rfl, den_l]
  show some (true, D.int .i64 (IntKind.i64.wrap (0 - (m : Int))) :: stK env) = _
  rw [wrap_id (by omega) (by omega), Int.zero_sub]
theorem expr_neg {s : List UInt8} {m : Nat} (h : Dec s m) : ∃ N, ∀ (f l c f' l' c' : Int) (xs env : List D) (n : Nat), N ≤ n → R n 122 (negE f' l' c' (numE f l c s xs) :: stK env) = some (true, .int .i64 (-(m : Int)) :: stK env) := by
  obtain ⟨N1, h1⟩ := one_of h
  have hm := h.lt
  refine ⟨N1 + 1, fun f l c f' l' c' xs env n hn => ?_⟩
  obtain ⟨k, rfl⟩ : ∃ k, n = k + 1 := ⟨n - 1, by omega⟩
  rw [R_of q122 (by kernel_rfl) (l := 6) (by kernel_rfl)]
  unfold p122
  rw [den_j]
  refine (den_if rfl).trans ?_
  refine (den_if rfl).trans ?_
  refine (den_it rfl).trans ?_
  refine (den_c (r := .int .i64 (-(m : Int)) :: stK env) (h1 f l c f' l' c' xs env k (by omega)) (by kernel_rfl)).trans ?_
  rw [show (holes (sg 179).ro).length = 6 by kernel_rfl, den_jp]
  unfold jmpTo
  refine (den_it rfl).trans ?_
  refine (den_if ?_).trans ?_
  · show decide (-(m : Int) < -2147483648) = false
    exact decide_eq_false (by omega)
  refine (den_if ?_).trans rfl
  show decide (-(m : Int) > 2147483647) = false
  exact decide_eq_false (by omega)
def pos0 : D := .agg [.int .i64 0, .int .i64 0, .int .i64 0]
theorem eval_of {e : D} {n : Int} {env : List D} {k : Nat} (hx : nrmAll (sg 71).hs [e, .agg [.lst 2 env]] = true) (h : R k 122 (e :: stK env) = some (true, .int .i64 n :: stK env)) : R (k + 1) 71 [e, .agg [.lst 2 env]] = some (true, [.int .i64 n, pos0, .int .i64 0]) := by
  rw [R_of q71 hx (l := 2) (by kernel_rfl)]
  unfold p71
  refine (den_c (r := .int .i64 n :: stK env) h (by kernel_rfl)).trans ?_
  rw [show (holes (sg 122).ro).length = 6 by kernel_rfl]
  exact (den_if rfl).trans rfl
theorem eval_num {s : List UInt8} {m : Nat} (h : Dec s m) : ∃ N, ∀ (f l c : Int) (xs env : List D) (n : Nat), N ≤ n → R n 71 [numE f l c s xs, .agg [.lst 2 env]] = some (true, [.int .i64 (m : Int), pos0, .int .i64 0]) := by
  obtain ⟨N1, h1⟩ := expr_num h
  refine ⟨N1 + 1, fun f l c xs env n hn => ?_⟩
  obtain ⟨k, rfl⟩ : ∃ k, n = k + 1 := ⟨n - 1, by omega⟩
  exact eval_of (by kernel_rfl) (h1 f l c xs env k (by omega))
theorem eval_neg {s : List UInt8} {m : Nat} (h : Dec s m) : ∃ N, ∀ (f l c f' l' c' : Int) (xs env : List D) (n : Nat), N ≤ n → R n 71 [negE f' l' c' (numE f l c s xs), .agg [.lst 2 env]] = some (true, [.int .i64 (-(m : Int)), pos0, .int .i64 0]) := by
  obtain ⟨N1, h1⟩ := expr_neg h
  refine ⟨N1 + 1, fun f l c f' l' c' xs env n hn => ?_⟩
  obtain ⟨k, rfl⟩ : ∃ k, n = k + 1 := ⟨n - 1, by omega⟩
  exact eval_of (by kernel_rfl) (h1 f l c f' l' c' xs env k (by omega))
noncomputable def mgo (tl : Nat → List D → Option (List D)) : Nat → Nat → List D → Out := mfev (fun f => (sg f).hs) (fun f => holes (sg f).ro) (fun f => (sg f).hs.length) (fun f => (holes (sg f).ro).length) sg bd tl
noncomputable def bOk (b : Bd) : Bool := Bd.casesOn (motive := fun _ => Bool) b true (fun t => t.kOk) (fun _ => true)
noncomputable def bOkL : List Bd → Bool
  | [] => true
  | b :: r => c2 (bOk b) (bOkL r)
noncomputable def bOkT : List (List Bd) → Bool
  | [] => true
  | b :: r => c2 (bOkL b) (bOkT r)
theorem nthB_ok : ∀ {l : List Bd} (k : Nat), bOkL l = true → bOk (nthB l k) = true
  | [], k, _ => by cases k <;> rfl
  | b :: l, 0, h => (c2_and h).1
  | b :: l, k + 1, h => nthB_ok (l := l) k (c2_and h).2
theorem nthC_ok : ∀ {l : List (List Bd)} (k : Nat), bOkT l = true → bOkL (nthC l k) = true
  | [], k, _ => by cases k <;> rfl
  | b :: l, 0, h => (c2_and h).1
  | b :: l, k + 1, h => nthC_ok (l := l) k (c2_and h).2
set_option maxRecDepth 100000 in
theorem bdT_ok : bOkT bdT = true := by kernel_rfl
theorem bd_kOk {f : Nat} {t : T} (h : bd f = .p t) : t.kOk = true := by
  have := nthB_ok (f % 16) (nthC_ok (f / 16) bdT_ok)
  have e : nthB (nthC bdT (f / 16)) (f % 16) = .p t := h
  rw [e] at this
  exact this
theorem mgo_Ru {rl : UInt8 → List UInt8} {tl : Nat → List D → Option (List D)} (H : MkOk rl) {M : Nat} (htl : ∀ f xs r, tl f xs = some r → ∀ m, M ≤ m → R m f (sgL rl xs) = some (true, sgL rl r)) {n f : Nat} {xs : List D} {b : Bool} {r : List D} (h : mgo tl n f xs = some (b, r)) : Ru f (sgL rl xs) (b, sgL rl r) :=
  ⟨n + M, mfev_run (fun _ => rfl) (fun _ => rfl) (fun _ => rfl) (fun _ => rfl) H bd_ok (fun _ _ h => bd_kOk h) htl n f xs b r h⟩
def rW (s : List UInt8) (x : Int × List UInt8) : Int × List UInt8 := (x.1, sgS (fun _ => s) x.2)
noncomputable def mkW (w : List UInt8) : Bool := eqS w [249]
theorem mkW_eq {w : List UInt8} (h : mkW w = true) : w = [249] := by
  unfold mkW at h
  rw [eqS_eq] at h
  exact eq_of_beq h
noncomputable def okW (x : Int × List UInt8) : Bool := cnd (mkW x.2) (x.1 == 2) (c2 (noMk x.2) (cnd (x.1 == 1) (isName x.2) (cnd (x.1 == 3) (match x.2 with | [a] => isS1 a | [a, b] => isS2 a b | _ => false) (cnd (x.1 == 2) (c2 (isNum x.2) (c2 (Nat.ble x.2.length 60) (Nat.ble (dv x.2) 2147483647))) false))))
noncomputable def okWs : List (Int × List UInt8) → Bool
  | [] => true
  | x :: r => c2 (okW x) (okWs r)
theorem cnd_t {c a b : Bool} (h : c = true) : cnd c a b = a := by rw [h]; rfl
theorem cnd_f {c a b : Bool} (h : c = false) : cnd c a b = b := by rw [h]; rfl
theorem num_dec {s : List UInt8} (h : isNum s = true) (h2 : s.length ≤ 60) (h3 : dv s ≤ 2147483647) : Dec s (dv s) := by
  cases s with
  | nil => cases h
  | cons a s =>
    simp only [isNum, Bool.and_eq_true, List.all_eq_true] at h
    exact ⟨by simp, fun b hb => by
      rcases List.mem_cons.1 hb with rfl | hb
      · exact h.1.1
      · exact h.1.2 b hb, h2, rfl, by omega⟩
theorem dec_num {s : List UInt8} {m : Nat} (h : Dec s m) : isNum s = true := by
  cases s with
  | nil => exact absurd rfl h.ne
  | cons a s =>
    simp only [isNum, Bool.and_eq_true, List.all_eq_true]
    exact ⟨⟨h.dig a (List.mem_cons_self ..), fun b hb => h.dig b (List.mem_cons_of_mem _ hb)⟩, Nat.ble_eq_true_of_le (by have := h.len; simp only [List.length_cons] at this; omega)⟩
theorem wok_dec {s : List UInt8} {m : Nat} (h : Dec s m) : WOk (2, s) := wok_num (dec_num h) (parse_is h) (by kernel_rfl)
theorem okW_WOk {s : List UInt8} {m : Nat} (h : Dec s m) {x : Int × List UInt8} (hx : okW x = true) : WOk (rW s x) := by
  obtain ⟨k, w⟩ := x
  unfold okW at hx
  cases hm : mkW w with
  | true =>
    rw [cnd_t hm] at hx
    obtain rfl := mkW_eq hm
    obtain rfl : k = 2 := eq_of_beq hx
    have : rW s (2, [249]) = (2, s) := by
      show ((2 : Int), s ++ []) = _
      rw [List.append_nil]
    rw [this]
    exact wok_dec h
  | false =>
    rw [cnd_f hm] at hx
    obtain ⟨h1, hx⟩ := c2_and hx
    have : rW s (k, w) = (k, w) := by
      show (k, sgS (fun _ => s) w) = _
      rw [sgS_no h1]
    rw [this]
    cases k1 : (k == 1) with
    | true =>
      rw [cnd_t k1] at hx
      obtain rfl : k = 1 := eq_of_beq k1
      exact wok_nam hx
    | false =>
      rw [cnd_f k1] at hx
      cases k3 : (k == 3) with
      | true =>
        rw [cnd_t k3] at hx
        obtain rfl : k = 3 := eq_of_beq k3
        simp only [] at hx
        split at hx
        · exact wok_s1 hx
        · exact wok_s2 hx
        · cases hx
      | false =>
        rw [cnd_f k3] at hx
        cases k2 : (k == 2) with
        | true =>
          rw [cnd_t k2] at hx
          obtain rfl : k = 2 := eq_of_beq k2
          obtain ⟨h2, hx⟩ := c2_and hx
          obtain ⟨h3, h4⟩ := c2_and hx
          exact wok_dec (num_dec h2 (Nat.le_of_ble_eq_true h3) (Nat.le_of_ble_eq_true h4))
        | false => rw [cnd_f k2] at hx; cases hx
theorem okWs_mem {s : List UInt8} {m : Nat} (h : Dec s m) : ∀ {l : List (Int × List UInt8)}, okWs l = true → ∀ x ∈ l.map (rW s), WOk x
  | [], _, x, hx => by cases hx
  | y :: l, hl, x, hx => by
    obtain ⟨h1, h2⟩ := c2_and hl
    rw [List.map_cons] at hx
    rcases List.mem_cons.1 hx with rfl | hx
    · exact okW_WOk h h1
    · exact okWs_mem h h2 x hx
noncomputable def mtks (L : Nat) : Nat → List (Int × List UInt8) → List D
  | _, [] => []
  | c, x :: r => tokD x.1 x.2 1 ((c + 1 : Nat) : Int) :: mtks L (c + 1 + cnd (mkW x.2) L x.2.length) r
theorem len_rW {s : List UInt8} {x : Int × List UInt8} (h : okW x = true) : (rW s x).2.length = cnd (mkW x.2) s.length x.2.length := by
  obtain ⟨k, w⟩ := x
  unfold okW at h
  show (sgS (fun _ => s) w).length = cnd (mkW w) s.length w.length
  cases hm : mkW w with
  | true =>
    obtain rfl := mkW_eq hm
    show (s ++ []).length = s.length
    rw [List.append_nil]
  | false =>
    rw [cnd_f hm] at h
    rw [sgS_no (c2_and h).1]; rfl
theorem mtks_sg {s : List UInt8} : ∀ {l : List (Int × List UInt8)} (c : Nat), okWs l = true → sgL (fun _ => s) (mtks s.length c l) = tks 1 c (l.map (rW s))
  | [], _, _ => rfl
  | x :: l, c, h => by
    obtain ⟨h1, h2⟩ := c2_and h
    show sgD (fun _ => s) (tokD x.1 x.2 1 ((c + 1 : Nat) : Int)) :: sgL (fun _ => s) (mtks s.length (c + 1 + cnd (mkW x.2) s.length x.2.length) l) = tokD (rW s x).1 (rW s x).2 1 ((c + 1 : Nat) : Int) :: tks 1 (c + 1 + (rW s x).2.length) (l.map (rW s))
    rw [mtks_sg _ h2, len_rW h1]; rfl
theorem tail_sg {s : List UInt8} : ∀ l : List (Int × List UInt8), sgS (fun _ => s) (tail l) = tail (l.map (rW s))
  | [] => rfl
  | x :: l => by
    show sgS (fun _ => s) (32 :: x.2 ++ tail l) = 32 :: (rW s x).2 ++ tail (l.map (rW s))
    rw [sgS_app, tail_sg l]; rfl
def mtext (x : Int × List UInt8) (ws : List (Int × List UInt8)) (y : List UInt8) : List UInt8 := x.2 ++ tail (ws ++ [(1, y)])
noncomputable def mtoks (L : Nat) (x : Int × List UInt8) (ws : List (Int × List UInt8)) (y : List UInt8) : List D := tokD x.1 x.2 1 1 :: mtks L (1 + x.2.length) (ws ++ [(1, y)])
theorem okWs_app : ∀ {a b : List (Int × List UInt8)}, okWs a = true → okWs b = true → okWs (a ++ b) = true
  | [], _, _, h => h
  | x :: a, b, h1, h2 => by
    obtain ⟨h3, h4⟩ := c2_and h1
    show cnd (okW x) (okWs (a ++ b)) false = true
    rw [okWs_app h4 h2, h3]; rfl
theorem nam_okW {y : List UInt8} (hy : isName y = true) (hn : noMk y = true) : okW (1, y) = true := by
  show cnd (mkW y) ((1 : Int) == 2) (c2 (noMk y) (isName y)) = true
  have : mkW y = false := by
    cases h : mkW y with
    | false => rfl
    | true => rw [mkW_eq h] at hn; cases hn
  rw [cnd_f this, hn, hy]; rfl
theorem lex_mark {s : List UInt8} {m : Nat} (h : Dec s m) {x : List UInt8} {ws : List (Int × List UInt8)} {y : List UInt8} (hx : isName x = true) (hxn : noMk x = true) (hy : isName y = true) (hyn : noMk y = true) (hw : okWs ws = true) (hl : (mtext (1, x) ws y).length ≤ 900) (hl2 : ws.length ≤ 900) :
    Ru 60 (sgL (fun _ => s) (stG [] (mtext (1, x) ws y) (mtext (1, x) ws y) 1 1)) (true, sgL (fun _ => s) [pos0, .int .i64 0, .lst 5 (mtoks s.length (1, x) ws y)]) := by
  have e1 : sgS (fun _ => s) (mtext (1, x) ws y) = x ++ tail (ws.map (rW s) ++ [(1, y)]) := by
    unfold mtext
    rw [sgS_app, tail_sg, List.map_append, List.map_cons, List.map_nil, sgS_no hxn]
    show x ++ tail (ws.map (rW s) ++ [((1 : Int), sgS (fun _ => s) y)]) = _
    rw [sgS_no hyn]
  have e2 : sgL (fun _ => s) (mtoks s.length (1, x) ws y) = tokD 1 x 1 1 :: tks 1 (1 + x.length) (ws.map (rW s) ++ [(1, y)]) := by
    show sgD (fun _ => s) (tokD 1 x 1 1) :: sgL (fun _ => s) (mtks s.length (1 + x.length) (ws ++ [(1, y)])) = _
    rw [mtks_sg _ (okWs_app hw (by
      show cnd (okW (1, y)) true false = true
      rw [nam_okW hy hyn]; rfl)), List.map_append, List.map_cons, List.map_nil]
    have h1 : rW s (1, y) = (1, y) := by
      show ((1 : Int), sgS (fun _ => s) y) = _
      rw [sgS_no hyn]
    have h2 : sgD (fun _ => s) (tokD 1 x 1 1) = tokD 1 x 1 1 := by
      show D.agg [_, .str (sgS (fun _ => s) x), _, _, _] = _
      rw [sgS_no hxn]; rfl
    rw [h1, h2]
  show Ru 60 (stG [] (sgS (fun _ => s) (mtext (1, x) ws y)) (sgS (fun _ => s) (mtext (1, x) ws y)) 1 1) (true, [pos0, .int .i64 0, .lst 5 (sgL (fun _ => s) (mtoks s.length (1, x) ws y))])
  have hlen : (sgS (fun _ => s) (mtext (1, x) ws y)).length ≤ 64 * 900 := by
    have := sgS_len (rl := fun _ => s) (fun b _ => by
      cases s with
      | nil => exact absurd rfl h.ne
      | cons a s =>
        have ha := h.dig a (List.mem_cons_self ..)
        unfold isDig at ha
        rw [Bool.and_eq_true] at ha
        exact ⟨a, s, rfl, Nat.le_of_ble_eq_true ha.1, Nat.le_of_ble_eq_true ha.2, by have := h.len; show (a :: s).length ≤ 64; omega⟩) (mtext (1, x) ws y)
    omega
  rw [e1] at hlen ⊢
  rw [e2]
  exact lex_text (l := 1) (t := x ++ tail (ws.map (rW s) ++ [(1, y)])) (last_nam hy) (x := (1, x)) (wok_nam hx) (okWs_mem h hw) (by show (x ++ tail (ws.map (rW s) ++ [(1, y)])).length < 60000; omega) (by rw [List.length_map]; omega)
theorem mk_dec {s : List UInt8} {m : Nat} (h : Dec s m) : MkOk (fun _ => s) := fun b _ => by
  cases s with
  | nil => exact absurd rfl h.ne
  | cons a s =>
    have ha := h.dig a (List.mem_cons_self ..)
    unfold isDig at ha
    rw [Bool.and_eq_true] at ha
    exact ⟨a, s, rfl, Nat.le_of_ble_eq_true ha.1, Nat.le_of_ble_eq_true ha.2, by have := h.len; show (a :: s).length ≤ 64; omega⟩
noncomputable def tl71 (m : Int) : List D → Option (List D)
  | [.agg [.int .i64 k, .int .i64 _, .int .i64 _, .int .i64 _, .str w, .lst 6 as_], .agg [.lst 2 _]] =>
    cnd (k == 1) (cnd (mkW w) (some [.int .i64 m, pos0, .int .i64 0]) none) (cnd (k == 3) (cnd (eqS w [45]) (match as_ with
      | [.agg [.int .i64 k', .int .i64 _, .int .i64 _, .int .i64 _, .str w', .lst 6 _]] => cnd (k' == 1) (cnd (mkW w') (some [.int .i64 (-m), pos0, .int .i64 0]) none) none
      | _ => none) none) none)
  | _ => none
noncomputable def tlN (t : List UInt8) (toks : List D) (m : Int) (f : Nat) (xs : List D) : Option (List D) :=
  cnd (Nat.beq f 60) (cnd (D.eqs xs (stG [] t t 1 1)) (some [pos0, .int .i64 0, .lst 5 toks]) none) (cnd (Nat.beq f 71) (tl71 m xs) none)
theorem cnd_o {α : Type} {c : Bool} {a : Option α} {x : α} (h : cnd c a none = some x) : c = true ∧ a = some x := by
  cases c with
  | true => exact ⟨rfl, h⟩
  | false => cases h
theorem tl71_is {s : List UInt8} {m : Nat} (h : Dec s m) : ∃ M, ∀ xs r, tl71 m xs = some r → ∀ n, M ≤ n → R n 71 (sgL (fun _ => s) xs) = some (true, sgL (fun _ => s) r) := by
  obtain ⟨N1, h1⟩ := eval_num h
  obtain ⟨N2, h2⟩ := eval_neg h
  have es : sgS (fun _ => s) [249] = s := by
    show s ++ [] = s
    rw [List.append_nil]
  refine ⟨N1 + N2, fun xs r hr n hn => ?_⟩
  unfold tl71 at hr
  split at hr
  · rename_i k f l c w as_ env
    cases k1 : (k == 1) with
    | true =>
      rw [k1] at hr
      obtain ⟨hm, hr⟩ := cnd_o (show cnd (mkW w) _ none = some r from hr)
      obtain rfl : k = 1 := eq_of_beq k1
      obtain rfl := mkW_eq hm
      cases hr
      have := h1 f l c (sgL (fun _ => s) as_) (sgL (fun _ => s) env) n (by omega)
      rw [show sgL (fun _ => s) [D.agg [.int .i64 1, .int .i64 f, .int .i64 l, .int .i64 c, .str [249], .lst 6 as_], .agg [.lst 2 env]] = [numE f l c (sgS (fun _ => s) [249]) (sgL (fun _ => s) as_), .agg [.lst 2 (sgL (fun _ => s) env)]] from rfl, es]
      exact this
    | false =>
      rw [k1] at hr
      obtain ⟨k3, hr⟩ := cnd_o (show cnd (k == 3) _ none = some r from hr)
      obtain ⟨hw, hr⟩ := cnd_o hr
      obtain rfl : k = 3 := eq_of_beq k3
      rw [eqS_eq] at hw
      obtain rfl := eq_of_beq hw
      split at hr
      · rename_i k' f' l' c' w' as2 e1 e2
        obtain ⟨k4, hr⟩ := cnd_o hr
        obtain ⟨hm, hr⟩ := cnd_o hr
        obtain rfl : k' = 1 := eq_of_beq k4
        obtain rfl := mkW_eq hm
        cases hr
        have := h2 f' l' c' f l c (sgL (fun _ => s) as2) (sgL (fun _ => s) env) n (by omega)
        rw [show sgL (fun _ => s) [D.agg [.int .i64 3, .int .i64 f, .int .i64 l, .int .i64 c, .str [45], .lst 6 [.agg [.int .i64 1, .int .i64 f', .int .i64 l', .int .i64 c', .str [249], .lst 6 as2]]], .agg [.lst 2 env]] = [negE f l c (numE f' l' c' (sgS (fun _ => s) [249]) (sgL (fun _ => s) as2)), .agg [.lst 2 (sgL (fun _ => s) env)]] from rfl, es]
        exact this
      · cases hr
  · cases hr
theorem tlN_is {s : List UInt8} {m : Nat} (h : Dec s m) {x : List UInt8} {ws : List (Int × List UInt8)} {y : List UInt8} (hx : isName x = true) (hxn : noMk x = true) (hy : isName y = true) (hyn : noMk y = true) (hw : okWs ws = true) (hl : (mtext (1, x) ws y).length ≤ 900) (hl2 : ws.length ≤ 900) :
    ∃ M, ∀ f xs r, tlN (mtext (1, x) ws y) (mtoks s.length (1, x) ws y) m f xs = some r → ∀ n, M ≤ n → R n f (sgL (fun _ => s) xs) = some (true, sgL (fun _ => s) r) := by
  obtain ⟨N1, h1⟩ := lex_mark h hx hxn hy hyn hw hl hl2
  obtain ⟨N2, h2⟩ := tl71_is h
  refine ⟨N1 + N2, fun f xs r hr n hn => ?_⟩
  unfold tlN at hr
  cases hf : Nat.beq f 60 with
  | true =>
    rw [hf] at hr
    obtain rfl := Nat.eq_of_beq_eq_true hf
    obtain ⟨he, h3⟩ := cnd_o (show cnd (D.eqs xs _) _ none = some r from hr)
    clear hr
    obtain rfl := D.eqs_eq he
    cases h3
    exact h1 n (by omega)
  | false =>
    rw [hf] at hr
    obtain ⟨hf, hr⟩ := cnd_o (show cnd (Nat.beq f 71) _ none = some r from hr)
    obtain rfl := Nat.eq_of_beq_eq_true hf
    exact h2 xs r hr n (by omega)
theorem bit_i64 (q : Int) : (IntKind.i64.wrap ((BitVec.ofInt (IntKind.i64).bits q &&& BitVec.ofInt (IntKind.i64).bits 1).toNat : Int) == 1) = decide (q % 2 = 1) := by
  have h1 : (BitVec.ofInt (IntKind.i64).bits q &&& BitVec.ofInt (IntKind.i64).bits 1).toNat = (q % 18446744073709551616).toNat % 2 := by
    rw [BitVec.toNat_and, BitVec.toNat_ofInt, BitVec.toNat_ofInt]
    show (q % 18446744073709551616).toNat &&& 1 = _
    rw [Nat.and_one_is_mod]
  rw [h1, wrap_id (by omega) (by omega)]
  have h2 : q % 2 = 1 ∨ q % 2 = 0 := by omega
  rcases h2 with h2 | h2
  · have : (q % 18446744073709551616).toNat % 2 = 1 := by omega
    rw [this, h2]; rfl
  · have : (q % 18446744073709551616).toNat % 2 = 0 := by omega
    rw [this, h2]; rfl
def sb (N : Int) (i : Nat) : Bool := decide (N / ((2 ^ (min i 62) : Nat) : Int) % 2 = 1)
def loN (N : Int) : Nat := (N % 18446744073709551616).toNat
def hiN (N : Int) : Nat := if N < 0 then 18446744073709551615 else 0
theorem lo_bit {N : Int} (h1 : -1073741824 ≤ N) (h2 : N ≤ 1073741824) {i : Nat} (hi : i < 64) : (loN N).testBit i = sb N i := by
  unfold loN sb
  rw [Nat.testBit_eq_decide_div_mod_eq]
  congr 1
  by_cases h : i ≤ 62
  · rw [Nat.min_eq_left h]
    have hp : (18446744073709551616 : Int) = ((2 ^ i : Nat) : Int) * ((2 * 2 ^ (63 - i) : Nat) : Int) := by
      have e : 2 ^ i * (2 * 2 ^ (63 - i)) = 2 ^ 64 := by
        rw [← Nat.pow_succ', ← Nat.pow_add]
        congr 1; omega
      have : ((2 ^ i * (2 * 2 ^ (63 - i)) : Nat) : Int) = 18446744073709551616 := by rw [e]; rfl
      rw [← this, Int.natCast_mul]
    have hpos : 0 < 2 ^ i := Nat.two_pow_pos i
    generalize hP : 2 ^ i = P at *
    generalize 2 ^ (63 - i) = Q at *
    have hN : N = N % 18446744073709551616 + 18446744073709551616 * (N / 18446744073709551616) := (Int.emod_add_mul_ediv N _).symm
    generalize ha : N % 18446744073709551616 = a at *
    generalize N / 18446744073709551616 = q at *
    have ha0 : 0 ≤ a := by omega
    obtain ⟨b, rfl⟩ := Int.eq_ofNat_of_zero_le ha0
    have e1 : N / (P : Int) = (b : Int) / (P : Int) + ((2 * Q : Nat) : Int) * q := by
      rw [hN, hp, Int.mul_assoc, Int.add_mul_ediv_left _ _ (by omega)]
    have e2 : N / (P : Int) % 2 = (b : Int) / (P : Int) % 2 := by
      rw [e1, Int.natCast_mul, Int.mul_assoc]
      show ((b : Int) / (P : Int) + 2 * ((Q : Int) * q)) % 2 = _
      rw [Int.add_mul_emod_self_left]
    rw [e2, Int.toNat_natCast]
    have : (b : Int) / (P : Int) % 2 = ((b / P % 2 : Nat) : Int) := by omega
    rw [this]
    exact propext ⟨fun h => by rw [h]; rfl, fun h => by omega⟩
  · obtain rfl : i = 63 := by omega
    rw [Nat.min_eq_right (by decide)]
    show ((N % 18446744073709551616).toNat / 9223372036854775808 % 2 = 1) = (N / 4611686018427387904 % 2 = 1)
    exact propext (by omega)
theorem hi_bit {N : Int} (h1 : -1073741824 ≤ N) (h2 : N ≤ 1073741824) {i : Nat} (hi : 64 ≤ i) (hj : i < 128) : (hiN N).testBit (i - 64) = sb N i := by
  unfold hiN sb
  rw [Nat.min_eq_right (by omega)]
  show _ = decide (N / 4611686018427387904 % 2 = 1)
  by_cases h : N < 0
  · rw [if_pos h, show (18446744073709551615 : Nat) = 2 ^ 64 - 1 from rfl, Nat.testBit_two_pow_sub_one, decide_eq_true (by omega), decide_eq_true (by omega)]
  · rw [if_neg h, Nat.zero_testBit, decide_eq_false (by omega)]
theorem lo_lt (N : Int) : loN N < M64 := by unfold loN M64; omega
theorem hi_lt (N : Int) : hiN N < M64 := by unfold hiN M64; split <;> omega
theorem lo_wrap (N : Int) : IntKind.u64.wrap N = (loN N : Int) := by
  rw [IntKind.wrap_u64]; unfold loN; omega
def hiZ (N : Int) : Int := IntKind.u64.wrap (N.fdiv (2 ^ (min 63 (IntKind.i64).bits)))
theorem hi_wrap {N : Int} (h1 : -1073741824 ≤ N) (h2 : N ≤ 1073741824) : hiZ N = (hiN N : Int) := by
  unfold hiZ hiN
  rw [show (2 : Int) ^ (min 63 (IntKind.i64).bits) = 9223372036854775808 from rfl, Int.fdiv_eq_ediv_of_nonneg _ (by decide), IntKind.wrap_u64]
  by_cases h : N < 0
  · rw [if_pos h]; omega
  · rw [if_neg h]; omega
def wds (w : Nat) (N : Int) : List D := bif Nat.blt w 64 then [andW (IntKind.u64.wrap N) w] else bif Nat.beq w 64 then [.int .u64 (IntKind.u64.wrap N)] else bif Nat.blt w 128 then [.int .u64 (IntKind.u64.wrap N), andW (hiZ N) (w - 64)] else [.int .u64 (IntKind.u64.wrap N), .int .u64 (hiZ N)]
theorem mod_bit {x w i : Nat} (h : i < w) : (x % 2 ^ w).testBit i = x.testBit i := by rw [Nat.testBit_mod_two_pow, decide_eq_true h, Bool.true_and]
theorem wds_at {N : Int} (h1 : -1073741824 ≤ N) (h2 : N ≤ 1073741824) {w i : Nat} (hw : w ≤ 128) (hi : i < w) : i / 64 < (wds w N).length ∧ ∃ x : Nat, x < M64 ∧ (wds w N)[i / 64]?.getD .top = wd x ∧ x.testBit (i % 64) = sb N i := by
  have hlo := lo_wrap N
  have hhi := hi_wrap h1 h2
  have hl := lo_lt N
  have hh := hi_lt N
  unfold wds
  by_cases a : w < 64
  · rw [show Nat.blt w 64 = true from Nat.ble_eq_true_of_le a, cond_true, hlo, andW_is hl (by omega)]
    have e1 : i / 64 = 0 := by omega
    have e2 : i % 64 = i := by omega
    rw [e1, e2]
    exact ⟨by show 0 < 1; decide, loN N % 2 ^ w, Nat.lt_of_le_of_lt (Nat.mod_le _ _) hl, rfl, by rw [mod_bit hi]; exact lo_bit h1 h2 (by omega)⟩
  · rw [show Nat.blt w 64 = false from by cases hb : Nat.blt w 64 with | false => rfl | true => have := Nat.le_of_ble_eq_true hb; omega, cond_false]
    by_cases b : w = 64
    · subst b
      have e1 : i / 64 = 0 := by omega
      have e2 : i % 64 = i := by omega
      rw [e1, e2, hlo]
      exact ⟨by show 0 < 1; decide, loN N, hl, rfl, lo_bit h1 h2 (by omega)⟩
    · rw [show Nat.beq w 64 = false from by cases hb : Nat.beq w 64 with | false => rfl | true => exact absurd (Nat.eq_of_beq_eq_true hb) b, cond_false]
      by_cases c : i < 64
      · have e1 : i / 64 = 0 := by omega
        have e2 : i % 64 = i := by omega
        rw [e1, e2, hlo]
        cases Nat.blt w 128
        · exact ⟨by show 0 < 2; decide, loN N, hl, rfl, lo_bit h1 h2 c⟩
        · exact ⟨by show 0 < 2; decide, loN N, hl, rfl, lo_bit h1 h2 c⟩
      · have e1 : i / 64 = 1 := by omega
        have e2 : i % 64 = i - 64 := by omega
        rw [e1, e2, hhi]
        by_cases d : w < 128
        · rw [show Nat.blt w 128 = true from Nat.ble_eq_true_of_le d, cond_true, andW_is hh (by omega)]
          exact ⟨by show 1 < 2; decide, hiN N % 2 ^ (w - 64), Nat.lt_of_le_of_lt (Nat.mod_le _ _) hh, rfl, by rw [mod_bit (by omega)]; exact hi_bit h1 h2 (by omega) (by omega)⟩
        · rw [show Nat.blt w 128 = false from by cases hb : Nat.blt w 128 with | false => rfl | true => have := Nat.le_of_ble_eq_true hb; omega, cond_false]
          exact ⟨by show 1 < 2; decide, hiN N, hh, rfl, hi_bit h1 h2 (by omega) (by omega)⟩
theorem bit_of {N : Int} (h1 : -1073741824 ≤ N) (h2 : N ≤ 1073741824) {w i : Nat} (hw : w ≤ 128) (hi : i < w) {n : Nat} : R (n + 1) 289 [.agg [.int .i64 (w : Int), .lst 1 (wds w N)], .int .i64 (i : Int)] = some (true, [.bool (sb N i)]) := by
  obtain ⟨hl, x, hx, hg, hb⟩ := wds_at h1 h2 hw hi
  rw [← hb]
  exact bit_gen hl hx hg hw hi n
def decN : Nat → Nat → List UInt8
  | 0, m => [UInt8.ofNat (48 + m)]
  | f + 1, m => if 9 < m then decN f (m / 10) ++ [UInt8.ofNat (48 + m % 10)] else [UInt8.ofNat (48 + m)]
theorem dig_nat {d : Nat} (h : d ≤ 9) : (UInt8.ofNat (48 + d)).toNat = 48 + d := by
  rw [UInt8.toNat_ofNat']; exact Nat.mod_eq_of_lt (by omega)
theorem decN_ok : ∀ (f m : Nat), m < 10 ^ (f + 1) → (decN f m ≠ []) ∧ (∀ b ∈ decN f m, isDig b.toNat = true) ∧ (decN f m).length ≤ f + 1 ∧ dv (decN f m) = m := by
  have hd : ∀ d, d ≤ 9 → isDig (UInt8.ofNat (48 + d)).toNat = true := fun d h => by
    rw [dig_nat h]
    unfold isDig
    rw [Nat.ble_eq_true_of_le (by omega), Nat.ble_eq_true_of_le (by omega)]; rfl
  have one : ∀ f m, m ≤ 9 → decN f m = [UInt8.ofNat (48 + m)] := fun f m h => by
    cases f with
    | zero => rfl
    | succ f =>
      show (if 9 < m then _ else _) = _
      rw [if_neg (by omega)]
  intro f
  induction f with
  | zero =>
    intro m h
    have h : m ≤ 9 := by omega
    rw [one 0 m h]
    refine ⟨by simp, fun b hb => ?_, by simp, ?_⟩
    · rw [List.mem_singleton.1 hb]; exact hd m h
    · show 10 * 0 + ((UInt8.ofNat (48 + m)).toNat - 48) = m
      rw [dig_nat h]; omega
  | succ f ih =>
    intro m h
    by_cases h9 : 9 < m
    · have e : decN (f + 1) m = decN f (m / 10) ++ [UInt8.ofNat (48 + m % 10)] := if_pos h9
      have hm : m % 10 ≤ 9 := by omega
      obtain ⟨h1, h2, h3, h4⟩ := ih (m / 10) (by rw [Nat.pow_succ] at h; omega)
      rw [e]
      refine ⟨by simp, fun b hb => ?_, by simp only [List.length_append, List.length_singleton]; omega, ?_⟩
      · rcases List.mem_append.1 hb with hb | hb
        · exact h2 b hb
        · rw [List.mem_singleton.1 hb]; exact hd _ hm
      · rw [dv_snoc, h4, dig_nat hm]; omega
    · rw [one (f + 1) m (by omega)]
      refine ⟨by simp, fun b hb => ?_, by simp, ?_⟩
      · rw [List.mem_singleton.1 hb]; exact hd m (by omega)
      · show 10 * 0 + ((UInt8.ofNat (48 + m)).toNat - 48) = m
        rw [dig_nat (by omega)]; omega
def dec (m : Nat) : List UInt8 := decN 9 m
theorem dec_ok {m : Nat} (h : m < 2147483648) : Dec (dec m) m := by
  obtain ⟨h1, h2, h3, h4⟩ := decN_ok 9 m (by omega)
  exact ⟨h1, h2, by unfold dec; omega, h4, h⟩
theorem byte_of {d : Nat} (h : d ≤ 9) : toByte (.int .u8 (IntKind.u8.wrap (IntKind.i64.wrap (48 + (d : Int))))) = UInt8.ofNat (48 + d) := by
  rw [wrap_id (by omega) (by omega), IntKind.wrap_u8, show (48 + (d : Int)) % 256 = ((48 + d : Nat) : Int) by omega]
  rfl
theorem dec_loop : ∀ (f m : Nat) (s : List UInt8), m < 10 ^ (f + 1) → f ≤ 9 → s.length + f ≤ 20 → ∃ (t : List UInt8) (d : Nat), d ≤ 9 ∧ t.length ≤ s.length + f ∧ UInt8.ofNat (48 + d) :: t = decN f m ++ s ∧ Ru 454 [.int .i64 (m : Int), .str s] (false, [.int .i64 (d : Int), .str t])
  | 0, m, s, h, _, hs => by
    have h9 : m ≤ 9 := by omega
    refine ⟨s, m, h9, by omega, rfl, Ru_of q454 (by kernel_rfl) (l := 2) (by kernel_rfl) 0 fun k _ => ?_⟩
    unfold p454
    refine (den_if ?_).trans rfl
    show decide ((m : Int) > 9) = false
    exact decide_eq_false (by omega)
  | f + 1, m, s, h, hf, hs => by
    by_cases h9 : 9 < m
    · have e : decN (f + 1) m = decN f (m / 10) ++ [UInt8.ofNat (48 + m % 10)] := if_pos h9
      have hm : m % 10 ≤ 9 := by omega
      have hlim : m < 100000000000 := Nat.lt_of_lt_of_le h (Nat.le_trans (Nat.pow_le_pow_right (by decide) (show f + 1 + 1 ≤ 11 by omega)) (by decide))
      obtain ⟨t, d, h1, h3, h4, N, hN⟩ := dec_loop f (m / 10) (UInt8.ofNat (48 + m % 10) :: s) (by rw [Nat.pow_succ] at h; omega) (by omega) (by simp only [List.length_cons]; omega)
      refine ⟨t, d, h1, by simp only [List.length_cons] at h3; omega, ?_, Ru_of q454 (by kernel_rfl) (l := 2) (by kernel_rfl) N fun k hk => ?_⟩
      · rw [h4, e, List.append_assoc]; rfl
      · unfold p454
        refine (den_it ?_).trans ?_
        · show decide ((m : Int) > 9) = true
          exact decide_eq_true (by omega)
        rw [den_l, den_l, den_l, den_l]
        refine (den_g ?_).trans ?_
        · show decide (1 + s.length ≤ maxStr) = true
          exact decide_eq_true (by show _ ≤ 4611686018427387904; omega)
        rw [den_l, den_l]
        show R k 454 [.int .i64 (IntKind.i64.wrap ((m : Int).tdiv 10)), .str (toByte (.int .u8 (IntKind.u8.wrap (IntKind.i64.wrap (48 + (m : Int).tmod 10)))) :: s)] = _
        have e1 : (m : Int).tmod 10 = ((m % 10 : Nat) : Int) := by rw [Int.tmod_eq_emod_of_nonneg (by omega)]; omega
        have e2 : IntKind.i64.wrap ((m : Int).tdiv 10) = ((m / 10 : Nat) : Int) := by rw [Int.tdiv_eq_ediv_of_nonneg (by omega), wrap_id (by omega) (by omega)]; omega
        rw [e1, e2, byte_of hm]
        exact hN k (by omega)
    · refine ⟨s, m, by omega, by omega, ?_, Ru_of q454 (by kernel_rfl) (l := 2) (by kernel_rfl) 0 fun k _ => ?_⟩
      · have : decN (f + 1) m = [UInt8.ofNat (48 + m)] := if_neg h9
        rw [this]; rfl
      · unfold p454
        refine (den_if ?_).trans rfl
        show decide ((m : Int) > 9) = false
        exact decide_eq_false (by omega)
theorem dec_is {m : Nat} (h : m < 2147483648) : Ru 452 [.int .i64 (m : Int)] (true, [.str (dec m)]) := by
  obtain ⟨t, d, h1, h3, h4, N, hN⟩ := dec_loop 9 m [] (by omega) (by decide) (by decide)
  rw [List.append_nil] at h4
  refine Ru_of q452 (by kernel_rfl) (l := 1) (by kernel_rfl) N fun k hk => ?_
  unfold p452
  refine (den_o (hN k (by omega)) (by kernel_rfl)).trans ?_
  rw [show (holes (sg 454).ro).length = 2 by kernel_rfl, den_l, den_l, den_l]
  refine (den_g ?_).trans ?_
  · show decide (1 + t.length ≤ maxStr) = true
    exact decide_eq_true (by show _ ≤ 4611686018427387904; simp only [List.length_nil] at h3; omega)
  rw [den_l]
  show some (true, [D.str (toByte (.int .u8 (IntKind.u8.wrap (IntKind.i64.wrap (48 + (d : Int))))) :: t)]) = _
  rw [byte_of h1, h4]; rfl
end Go.Proofs.YtpmjplpnpnmlcaaGreatDoor
