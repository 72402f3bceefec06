/- Literals: the text of a number is parsed as the same number. -/
import Derived.Test.YtkjocbdjenmegaaDoorLitD
namespace Go.Proofs.YtkjocbdjenmegaaDoor
open Go.AE
set_option linter.unusedVariables false
def decC (d : Nat) : UInt8 := UInt8.ofNat (48 + d)
theorem decC_all : ∀ k : Fin 10, valN (decC k.val) = k.val ∧ (((decC k.val).toNat : Int) == 95) = false ∧ (decC k.val == 39) = false := by decide +kernel
theorem hexC_all : ∀ k : Fin 16, valN (hexC k.val) = k.val ∧ (((hexC k.val).toNat : Int) == 95) = false := by decide +kernel
theorem digG_map {b : Nat} {f : Nat → UInt8} (hf : ∀ d, d < b → valN (f d) = d ∧ (((f d).toNat : Int) == 95) = false) : ∀ {l : List Nat}, (∀ d ∈ l, d < b) → digG b (l.map f) = some l
  | [], _ => rfl
  | d :: l, h => by
    have hd := h d (List.mem_cons_self ..)
    obtain ⟨h1, h2⟩ := hf d hd
    have ih := digG_map hf (l := l) fun x hx => h x (List.mem_cons_of_mem _ hx)
    show (bif (((f d).toNat : Int) == 95) then digG b (l.map f) else bif decide (valN (f d) < b) then (digG b (l.map f)).map (valN (f d) :: ·) else none) = _
    rw [h2, h1, decide_eq_true hd, ih]; rfl
theorem digF_map {b : Nat} {f : Nat → UInt8} (hf : ∀ d, d < b → valN (f d) = d ∧ (((f d).toNat : Int) == 95) = false) {l : List Nat} (hl : l ≠ []) (h : ∀ d ∈ l, d < b) : digF b (l.map f) = some l := by
  cases l with
  | nil => exact absurd rfl hl
  | cons d l =>
    have hd := h d (List.mem_cons_self ..)
    obtain ⟨h1, h2⟩ := hf d hd
    show (bif decide (valN (f d) < b) then (digG b (l.map f)).map (valN (f d) :: ·) else none) = _
    rw [h1, decide_eq_true hd, digG_map hf fun x hx => h x (List.mem_cons_of_mem _ hx)]; rfl
theorem decS_digs : ∀ (k u : Nat), u < 10 ^ (k + 1) → ∃ l : List Nat, l ≠ [] ∧ (∀ d ∈ l, d < 10) ∧ decV l = u ∧ ∀ acc, decS (k + 1) u acc = l.map decC ++ acc := by
  intro k
  induction k with
  | zero =>
    intro u h
    have h : u < 10 := by simpa using h
    refine ⟨[u], by simp, fun d hd => by rw [List.mem_singleton.1 hd]; exact h, by simp [decV], fun acc => ?_⟩
    unfold decS
    rw [Nat.ble_eq_true_of_le (by omega)]; rfl
  | succ k ih =>
    intro u h
    by_cases h10 : u < 10
    · refine ⟨[u], by simp, fun d hd => by rw [List.mem_singleton.1 hd]; exact h10, by simp [decV], fun acc => ?_⟩
      unfold decS
      rw [Nat.ble_eq_true_of_le (by omega)]; rfl
    · have h2 : u / 10 < 10 ^ (k + 1) := by
        rw [Nat.pow_succ] at h
        omega
      obtain ⟨l, h1, h2, h3, h4⟩ := ih (u / 10) h2
      have hb : Nat.ble u 9 = false := by
        cases hx : Nat.ble u 9 with
        | false => rfl
        | true => have := Nat.le_of_ble_eq_true hx; omega
      refine ⟨l ++ [u % 10], by simp, fun d hd => ?_, ?_, fun acc => ?_⟩
      · rcases List.mem_append.1 hd with hd | hd
        · exact h2 d hd
        · rw [List.mem_singleton.1 hd]; omega
      · unfold decV at h3 ⊢
        rw [List.foldl_append, h3]
        show 10 * (u / 10) + u % 10 = u
        omega
      · show (bif Nat.ble u 9 then UInt8.ofNat (48 + u) :: acc else decS (k + 1) (u / 10) (UInt8.ofNat (48 + u % 10) :: acc)) = _
        rw [hb, cond_false, h4, List.map_append, List.append_assoc]; rfl
theorem itoa_digs {u : Nat} (h : u < 100000000000000000000) : ∃ l : List Nat, l ≠ [] ∧ (∀ d ∈ l, d < 10) ∧ decV l = u ∧ itoaS (u : Int) = l.map decC := by
  obtain ⟨l, h1, h2, h3, h4⟩ := decS_digs 19 u h
  refine ⟨l, h1, h2, h3, ?_⟩
  have := h4 []
  rw [List.append_nil] at this
  exact this
theorem cutQ_map : ∀ {l : List Nat}, (∀ d ∈ l, d < 10) → ∀ r, cutQ (l.map decC ++ 39 :: r) = some (l.map decC, r)
  | [], _, r => rfl
  | d :: l, h, r => by
    have hd := h d (List.mem_cons_self ..)
    have h3 := (decC_all ⟨d, hd⟩).2.2
    have ih := cutQ_map (l := l) (fun x hx => h x (List.mem_cons_of_mem _ hx)) r
    show (bif decC d == 39 then some ([], l.map decC ++ 39 :: r) else (cutQ (l.map decC ++ 39 :: r)).map fun p => (decC d :: p.1, p.2)) = _
    rw [h3, ih]; rfl
theorem cutQ_no : ∀ {l : List Nat}, (∀ d ∈ l, d < 10) → cutQ (l.map decC) = none
  | [], _ => rfl
  | d :: l, h => by
    have hd := h d (List.mem_cons_self ..)
    have h3 := (decC_all ⟨d, hd⟩).2.2
    have ih := cutQ_no (l := l) (fun x hx => h x (List.mem_cons_of_mem _ hx))
    show (bif decC d == 39 then some ([], l.map decC) else (cutQ (l.map decC)).map fun p => (decC d :: p.1, p.2)) = _
    rw [h3, ih]; rfl
theorem hexN_lt : ∀ (k n : Nat) (st : Bool), ∀ d ∈ hexN k n st, d < 16
  | 0, _, _, d, h => by simp [hexN] at h
  | k + 1, n, st, d, h => by
    rw [hexN_succ] at h
    cases hc : decide (nib n k > 0) || st || decide (k = 0) with
    | true =>
      rw [hc] at h
      rcases List.mem_cons.1 h with rfl | h
      · exact nib_lt n k
      · exact hexN_lt k n true d h
    | false => rw [hc] at h; exact hexN_lt k n st d h
theorem hexN_ne : ∀ (k n : Nat) (st : Bool), hexN (k + 1) n st ≠ []
  | 0, n, st => by rw [hexN_succ]; simp
  | k + 1, n, st => by
    rw [hexN_succ]
    cases hc : decide (nib n (k + 1) > 0) || st || decide (k + 1 = 0) with
    | true => simp
    | false => exact hexN_ne k n st
theorem mod_nib (n k : Nat) : n % 16 ^ (k + 1) = 16 ^ k * nib n k + n % 16 ^ k := by
  unfold nib
  rw [Nat.pow_succ, Nat.mod_mul, Nat.add_comm]
theorem hexN_val : ∀ (k n : Nat) (st : Bool) (a : Nat), (st = true ∨ a = 0) → (hexN k n st).foldl (fun a d => a * 16 + d) a = a * 16 ^ k + n % 16 ^ k
  | 0, n, st, a, _ => by simp [hexN, Nat.mod_one]
  | k + 1, n, st, a, h => by
    rw [hexN_succ, mod_nib]
    cases hc : decide (nib n k > 0) || st || decide (k = 0) with
    | true =>
      have ih := hexN_val k n true (a * 16 + nib n k) (.inl rfl)
      simp only [cond_true, List.foldl_cons]
      rw [ih, Nat.pow_succ, Nat.add_mul, Nat.mul_assoc, Nat.mul_comm 16 (16 ^ k), Nat.mul_comm (nib n k) (16 ^ k)]
      omega
    | false =>
      have h0 : nib n k = 0 ∧ st = false := by
        cases st with
        | true => simp at hc
        | false =>
          simp at hc
          exact ⟨by omega, rfl⟩
      have ha : a = 0 := by
        rcases h with h | h
        · rw [h0.2] at h; cases h
        · exact h
      have ih := hexN_val k n st a (.inr ha)
      simp only [cond_false]
      rw [ih, ha, h0.1]; simp
theorem hexF_val {w n : Nat} (h1 : 1 ≤ w) (hn : n < 2 ^ w) : valB 16 (hexN ((w - 1) / 4 + 1) n false) = n := by
  unfold valB
  rw [hexN_val _ _ _ _ (.inr rfl), Nat.zero_mul, Nat.zero_add]
  refine Nat.mod_eq_of_lt (Nat.lt_of_lt_of_le hn ?_)
  have : 16 ^ ((w - 1) / 4 + 1) = 2 ^ (4 * ((w - 1) / 4 + 1)) := by rw [Nat.pow_mul]
  rw [this]
  exact Nat.pow_le_pow_right (by omega) (by omega)
theorem tail_hex {w w0 n : Nat} (h1 : 1 ≤ w) (h2 : w ≤ 128) (hn : n < 2 ^ w) (hw : w0 = w) (sz sg : Bool) : tailF w0 sz ((bif sg then [115] else []) ++ [104] ++ hexF w n) = .ok w n sg sz := by
  subst hw
  have hb : basedF ((bif sg then [115] else []) ++ [104] ++ hexF w0 n) = .ok (hexF w0 n) 16 sg := by
    cases sg <;> rfl
  have hne : hexF w0 n ≠ [] := by
    unfold hexF
    intro h
    exact hexN_ne _ _ _ (List.map_eq_nil_iff.1 h)
  have hF : digF 16 (hexF w0 n) = some (hexN ((w0 - 1) / 4 + 1) n false) := digF_map (f := hexC) (fun d hd => hexC_all ⟨d, hd⟩) (hexN_ne _ _ _) (hexN_lt _ _ _)
  unfold tailF
  rw [hb]
  cases hh : hexF w0 n with
  | nil => exact absurd hh hne
  | cons c u =>
    rw [hh] at hF
    simp only [hF]
    rw [decide_eq_false (show ¬ w0 < 1 by omega), decide_eq_false (show ¬ w0 > 128 by omega), hexF_val h1 hn, Nat.mod_eq_of_lt hn]
    rfl
theorem lt31 {n : Nat} (h : n < 2 ^ 32) (hb : n.testBit 31 = false) : n < 2147483648 := by
  rw [Nat.testBit_eq_decide_div_mod_eq] at hb
  have h1 := of_decide_eq_false hb
  have e : (2 : Nat) ^ 31 = 2147483648 := rfl
  have e2 : (2 : Nat) ^ 32 = 4294967296 := rfl
  rw [e] at h1
  omega
theorem round {w n : Nat} (h1 : 1 ≤ w) (h2 : w ≤ 128) (hn : n < 2 ^ w) (sg sz : Bool) (hz : sz = true ∨ w = 32) : parseF (textF w n sg sz) = .ok w n sg sz := by
  unfold textF
  rw [decide_eq_false (show ¬ w = 0 by omega)]
  have hx : (!sz && decide (w ≠ 32)) = false := by
    rcases hz with rfl | rfl
    · rfl
    · simp
  rw [hx]
  simp only [cond_false]
  cases hp : plainT n sg sz with
  | true =>
    have hs : sg = true ∧ sz = false ∧ n.testBit 31 = false := by
      unfold plainT at hp
      cases sg with
      | false => cases hp
      | true =>
        cases sz with
        | true => cases hp
        | false => exact ⟨rfl, rfl, by simpa using hp⟩
    obtain ⟨rfl, rfl, hb⟩ := hs
    have hw : w = 32 := by
      rcases hz with h | h
      · cases h
      · exact h
    subst hw
    have hn31 := lt31 hn hb
    obtain ⟨l, l1, l2, l3, l4⟩ := itoa_digs (u := n) (by omega)
    rw [Nat.min_eq_left (by omega)]
    simp only [cond_true]
    rw [l4]
    unfold parseF
    rw [cutQ_no l2]
    show plainF (l.map decC) = _
    have hF : digF 10 (l.map decC) = some l := digF_map (f := decC) (fun d hd => ⟨(decC_all ⟨d, hd⟩).1, (decC_all ⟨d, hd⟩).2.1⟩) l1 l2
    unfold plainF
    cases hm : l.map decC with
    | nil => exact absurd (List.map_eq_nil_iff.1 hm) l1
    | cons c u =>
      rw [hm] at hF
      simp only [hF]
      rw [l3, Nat.min_eq_left (by omega)]
      unfold ofF
      rw [decide_eq_true hn31]; rfl
  | false =>
    simp only [cond_false]
    cases sz with
    | false =>
      have hw : w = 32 := by
        rcases hz with h | h
        · cases h
        · exact h
      subst hw
      have := tail_hex (w0 := 32) (by decide) h2 hn rfl false sg
      simp only [List.append_assoc] at this ⊢
      exact this
    | true =>
      obtain ⟨l, l1, l2, l3, l4⟩ := itoa_digs (u := w) (by omega)
      have hF : digF 10 (l.map decC) = some l := digF_map (f := decC) (fun d hd => ⟨(decC_all ⟨d, hd⟩).1, (decC_all ⟨d, hd⟩).2.1⟩) l1 l2
      have := tail_hex (w0 := min (decV l) 129) h1 h2 hn (by omega) true sg
      rw [l4]
      unfold parseF
      have hq := cutQ_map l2 ((bif sg then [115] else []) ++ [104] ++ hexF w n)
      simp only [cond_true, List.append_assoc, List.singleton_append, List.cons_append, List.nil_append] at hq this ⊢
      rw [hq]
      cases hm : l.map decC with
      | nil => exact absurd (List.map_eq_nil_iff.1 hm) l1
      | cons c u =>
        rw [hm] at hF
        simp only [hF]
        exact this
end Go.Proofs.YtkjocbdjenmegaaDoor
