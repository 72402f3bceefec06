/- The reference's literals: Dec, Text, Int told exactly. -/
import Derived.Test.YtkjocbdjenmegaaDoorRefC
namespace Go.Proofs.YtkjocbdjenmegaaDoor
open Go.AE
set_option linter.unusedVariables false
theorem toByte1 {x : Int} (h0 : 0 ≤ x) (h1 : x < 10) : List.map toByte [D.int .u8 (IntKind.u8.wrap (IntKind.i64.wrap (48 + x)))] = [UInt8.ofNat (48 + x.toNat)] := by
  rw [wrap_id (by omega) (by omega), wrap_u8n]
  have : ((48 + x) % 256).toNat = 48 + x.toNat := by omega
  show [UInt8.ofNat ((48 + x) % 256).toNat] = _
  rw [this]
theorem dec_is {u : Nat} (hu : u < 9223372036854775808) : Ev (fun n => ref02_Dec n (.int .i64 (u : Int))) fun r => r = (true, [.str (itoaS (u : Int))]) := by
  refine Ev.eq (fun n => ref02_Dec_eq n _) ?_
  have loop : ∀ (k u : Nat) (acc : List UInt8), u < 10 ^ (k + 1) → u < 9223372036854775808 → acc.length + k ≤ 1000 →
      Ev (fun n => ref02_Dec_L0 n (.int .i64 (u : Int)) (.str acc)) fun r => ∃ (v : Nat) (acc' : List UInt8), r = (false, [.int .i64 (v : Int), .str acc']) ∧ v < 10 ∧ acc'.length ≤ acc.length + k ∧ UInt8.ofNat (48 + v) :: acc' = decS (k + 1) u acc := by
    intro k
    induction k with
    | zero =>
      intro u acc h _ hl
      have h : u < 10 := by simpa using h
      refine Ev.eq (fun n => ref02_Dec_L0_eq n _ _) (Ev.no (decide_eq_false (by omega)) (Ev.ret ⟨u, acc, rfl, h, by omega, ?_⟩))
      unfold decS
      rw [Nat.ble_eq_true_of_le (by omega)]; rfl
    | succ k ih =>
      intro u acc h hu hl
      by_cases h10 : u < 10
      · refine Ev.eq (fun n => ref02_Dec_L0_eq n _ _) (Ev.no (decide_eq_false (by omega)) (Ev.ret ⟨u, acc, rfl, h10, by omega, ?_⟩))
        unfold decS
        rw [Nat.ble_eq_true_of_le (by omega)]; rfl
      · have hb : Nat.ble u 9 = false := by
          cases hx : Nat.ble u 9 with
          | false => rfl
          | true => have := Nat.le_of_ble_eq_true hx; omega
        have h2 : u / 10 < 10 ^ (k + 1) := by
          rw [Nat.pow_succ] at h
          omega
        have e1 : (u : Int).tmod 10 = ((u % 10 : Nat) : Int) := by rw [Int.tmod_eq_emod_of_nonneg (by omega)]; omega
        have e2 : IntKind.i64.wrap ((u : Int).tdiv 10) = ((u / 10 : Nat) : Int) := by
          rw [Int.tdiv_eq_ediv_of_nonneg (by omega), wrap_id (by omega) (by omega)]; omega
        have hd : decS (k + 1 + 1) u acc = decS (k + 1) (u / 10) (UInt8.ofNat (48 + u % 10) :: acc) := by
          show (bif Nat.ble u 9 then UInt8.ofNat (48 + u) :: acc else decS (k + 1) (u / 10) (UInt8.ofNat (48 + u % 10) :: acc)) = _
          rw [hb]; rfl
        refine Ev.eq (fun n => ref02_Dec_L0_eq n _ _) (Ev.yes (decide_eq_true (by omega)) ?_)
        rw [e1, e2, toByte1 (by omega) (by omega), Int.toNat_natCast, hd]
        refine Ev.yes (decide_eq_true (by simp only [maxStr, List.length_singleton]; omega)) ((ih (u / 10) ([UInt8.ofNat (48 + u % 10)] ++ acc) h2 (by omega) (by simp only [List.length_append, List.length_singleton]; omega)).mono fun r hr => ?_)
        obtain ⟨v, acc', h1, h3, h4, h5⟩ := hr
        exact ⟨v, acc', h1, h3, by simp only [List.length_append, List.length_singleton] at h4; omega, h5⟩
  refine Ev.bindL (loop 19 u [] (by omega) hu (by simp)) (fun ds h => by obtain ⟨_, _, h, _⟩ := h; cases h) fun ds h => ?_
  obtain ⟨v, acc', h1, h2, h3, h4⟩ := h
  cases h1
  simp only [List.length_nil] at h3
  refine Ev.yes rfl ?_
  show Ev (fun _ => bif decide ((List.map toByte [D.int .u8 (IntKind.u8.wrap (IntKind.i64.wrap (48 + (v : Int))))]).length + acc'.length ≤ maxStr) then some (true, [D.str (List.map toByte [D.int .u8 (IntKind.u8.wrap (IntKind.i64.wrap (48 + (v : Int))))] ++ acc')]) else none) _
  rw [toByte1 (by omega) (by omega), Int.toNat_natCast]
  refine Ev.yes (decide_eq_true (by simp only [maxStr, List.length_singleton]; omega)) (Ev.ret ?_)
  show (true, [D.str (UInt8.ofNat (48 + v) :: acc')]) = (true, [D.str (decS 20 u [])])
  rw [h4]
/-- The digit of four bits, from the highest on. -/
theorem nibLoop {w n i : Nat} (hw : w ≤ 1000) (hn : n < 2 ^ w) (hi : 4 * i ≤ 1000) (s d : List UInt8) (b1 b2 : Bool) : Ev (fun k => ref02_Text_L2 k (.int .i64 (w : Int)) (.str s) (.str d) (.int .i64 ((4 * i : Nat) : Int)) (.int .i64 0) (.int .i64 3) (.lst 1 (bitsD w n)) (.bool b1) (.bool b2)) fun r => r = (false, [.int .i64 (w : Int), .str s, .str d, .int .i64 ((4 * i : Nat) : Int), iD (nib n i), .int .i64 (-1), .lst 1 (bitsD w n), .bool b1, .bool b2]) := by
  have rb : ∀ k, Ev (fun m => ref01_Bit m (.lst 1 (bitsD w n)) (.int .i64 (k : Nat))) fun r => r = (true, [.bool (n.testBit k)]) := fun k => by
    refine (rBit_is (w := w) n k).mono fun r hr => ?_
    rw [hr]
    by_cases h : k < w
    · rw [decide_eq_true h, Bool.true_and]
    · rw [Nat.testBit_lt_two_pow (Nat.lt_of_lt_of_le hn (Nat.pow_le_pow_right (by omega) (by omega))), Bool.and_false]
  have step : ∀ (k x : Nat) {P : Bool × List D → Prop}, k < 4 → x ≤ 100 →
      Ev (fun m => ref02_Text_L2 m (.int .i64 (w : Int)) (.str s) (.str d) (.int .i64 ((4 * i : Nat) : Int)) (iD (2 * x + (n.testBit (4 * i + k)).toNat)) (.int .i64 ((k : Int) - 1)) (.lst 1 (bitsD w n)) (.bool b1) (.bool b2)) P →
      Ev (fun m => ref02_Text_L2 m (.int .i64 (w : Int)) (.str s) (.str d) (.int .i64 ((4 * i : Nat) : Int)) (iD x) (.int .i64 (k : Int)) (.lst 1 (bitsD w n)) (.bool b1) (.bool b2)) P := by
    intro k x P hk hx h
    have e1 : IntKind.i64.wrap (((4 * i : Nat) : Int) + (k : Int)) = ((4 * i + k : Nat) : Int) := by rw [wrap_id (by omega) (by omega)]; omega
    have e2 : IntKind.i64.wrap ((k : Int) - 1) = (k : Int) - 1 := wrap_id (by omega) (by omega)
    have e3 : IntKind.i64.wrap (2 * (x : Int)) = ((2 * x : Nat) : Int) := by rw [wrap_id (by omega) (by omega)]; omega
    have e4 : IntKind.i64.wrap (((2 * x : Nat) : Int) + 1) = ((2 * x + 1 : Nat) : Int) := by rw [wrap_id (by omega) (by omega)]; omega
    refine Ev.eq (fun m => ref02_Text_L2_eq m _ _ _ _ _ _ _ _ _) (Ev.yes (decide_eq_true (by omega)) ?_)
    rw [e1, e2, e3, e4]
    refine evCall (rb (4 * i + k)) (Ev.yes rfl ?_)
    cases hb : n.testBit (4 * i + k) with
    | true => rw [hb] at h; exact Ev.yes rfl h
    | false => rw [hb] at h; exact Ev.no rfl h
  have b : ∀ k, (n.testBit k).toNat ≤ 1 := fun k => by cases n.testBit k <;> decide
  have b0 := b (4 * i)
  have b1' := b (4 * i + 1)
  have b2' := b (4 * i + 2)
  have b3' := b (4 * i + 3)
  have hN := nib_bits n i
  refine step 3 0 (by decide) (by decide) ?_
  refine step 2 _ (by decide) (by omega) ?_
  refine step 1 _ (by decide) (by omega) ?_
  refine step 0 _ (by decide) (by omega) ?_
  refine Ev.eq (fun m => ref02_Text_L2_eq m _ _ _ _ _ _ _ _ _) (Ev.no rfl (Ev.ret ?_))
  have e : 2 * (2 * (2 * (2 * 0 + (n.testBit (4 * i + 3)).toNat) + (n.testBit (4 * i + 2)).toNat) + (n.testBit (4 * i + 1)).toNat) + (n.testBit (4 * i + 0)).toNat = nib n i := by
    rw [hN, show 4 * i + 0 = 4 * i from rfl]; omega
  rw [e]; rfl
theorem hexByte {d : Nat} (h : d < 16) : List.map toByte [D.int .u8 ((([48, 49, 50, 51, 52, 53, 54, 55, 56, 57, 97, 98, 99, 100, 101, 102] : List UInt8)[((d : Nat) : Int).toNat]?.getD 0).toNat : Int)] = [hexC d] := by
  rw [hexD_at h]
  exact toByte_cD [hexC d]
theorem hexN_full : ∀ (k n : Nat), hexN (k + 1) n true = nib n k :: hexN k n true := fun k n => by
  rw [hexN_succ]
  simp
theorem textLoop {w n : Nat} (h1 : 1 ≤ w) (hw : w ≤ 1000) (hn : n < 2 ^ w) (s : List UInt8) (b1 b2 : Bool) : Ev (fun k => ref02_Text_L0 k (.int .i64 (w : Int)) (.str s) (.str []) (.int .i64 0) (.lst 1 (bitsD w n)) (.bool b1) (.bool b2)) fun r => ∃ j' : Int, r = (false, [.int .i64 (w : Int), .str s, .str ((hexN ((w - 1) / 4 + 1) n true).map hexC), .int .i64 j', .lst 1 (bitsD w n), .bool b1, .bool b2]) := by
  have loop : ∀ (m j : Nat), (w - 1) / 4 + 1 - j = m → j ≤ (w - 1) / 4 + 1 →
      Ev (fun k => ref02_Text_L0 k (.int .i64 (w : Int)) (.str s) (.str ((hexN j n true).map hexC)) (.int .i64 ((4 * j : Nat) : Int)) (.lst 1 (bitsD w n)) (.bool b1) (.bool b2)) fun r => ∃ j' : Int, r = (false, [.int .i64 (w : Int), .str s, .str ((hexN ((w - 1) / 4 + 1) n true).map hexC), .int .i64 j', .lst 1 (bitsD w n), .bool b1, .bool b2]) := by
    intro m
    induction m with
    | zero =>
      intro j hm hj
      have : j = (w - 1) / 4 + 1 := by omega
      subst this
      exact Ev.eq (fun k => ref02_Text_L0_eq k _ _ _ _ _ _ _) (Ev.no (decide_eq_false (by omega)) (Ev.ret ⟨_, rfl⟩))
    | succ m ih =>
      intro j hm hj
      have hl := hexN_len j n true
      have e1 : IntKind.i64.wrap (((4 * j : Nat) : Int) + 4) = ((4 * (j + 1) : Nat) : Int) := by rw [wrap_id (by omega) (by omega)]; omega
      have hb := nib_lt n j
      refine Ev.eq (fun k => ref02_Text_L0_eq k _ _ _ _ _ _ _) (Ev.yes (decide_eq_true (by omega)) (evLoop (nibLoop hw hn (i := j) (by omega) s _ b1 b2) (Ev.yes rfl ?_)))
      show Ev (fun k => bif (decide ((0 : Int) ≤ ((nib n j : Nat) : Int)) && decide (((nib n j : Nat) : Int) < (16 : Int))) then (bif decide ((List.map toByte [D.int .u8 ((([48, 49, 50, 51, 52, 53, 54, 55, 56, 57, 97, 98, 99, 100, 101, 102] : List UInt8)[((nib n j : Nat) : Int).toNat]?.getD 0).toNat : Int)]).length + ((hexN j n true).map hexC).length ≤ maxStr) then ref02_Text_L0 k (.int .i64 (w : Int)) (.str s) (.str (List.map toByte [D.int .u8 ((([48, 49, 50, 51, 52, 53, 54, 55, 56, 57, 97, 98, 99, 100, 101, 102] : List UInt8)[((nib n j : Nat) : Int).toNat]?.getD 0).toNat : Int)] ++ (hexN j n true).map hexC)) (.int .i64 (IntKind.i64.wrap (((4 * j : Nat) : Int) + 4))) (.lst 1 (bitsD w n)) (.bool b1) (.bool b2) else none) else none) _
      rw [hexByte hb, e1]
      refine Ev.yes (and_tt (decide_eq_true (by omega)) (decide_eq_true (by omega))) (Ev.yes (decide_eq_true ?_) ?_)
      · show 1 + ((hexN j n true).map hexC).length ≤ maxStr
        rw [List.length_map]; simp only [maxStr]; omega
      · have := ih (j + 1) (by omega) (by omega)
        rw [hexN_full] at this
        exact this
  exact loop ((w - 1) / 4 + 1) 0 rfl (Nat.zero_le _)
theorem hexC_zero : ∀ k : Fin 16, (((hexC k.val).toNat : Int) == 48) = decide (k.val = 0) := by decide +kernel
theorem strip_is {n : Nat} (s : List UInt8) : ∀ k, k ≤ 1000 → Ev (fun m => ref02_Text_L4 m (.str s) (.str ((hexN (k + 1) n true).map hexC))) fun r => r = (false, [.str s, .str ((hexN (k + 1) n false).map hexC)]) := by
  intro k
  induction k with
  | zero =>
    intro _
    have e : ∀ b, hexN 1 n b = [nib n 0] := fun b => by rw [hexN_succ]; simp [hexN]
    rw [e, e]
    exact Ev.eq (fun m => ref02_Text_L4_eq m _ _) (Ev.no rfl (Ev.ret rfl))
  | succ k ih =>
    intro hk
    have hl := hexN_len (k + 1) n true
    have hne : 0 < (hexN (k + 1) n true).length := List.length_pos_iff.2 (hexN_ne k n true)
    have hz := hexC_zero ⟨nib n (k + 1), nib_lt n (k + 1)⟩
    rw [hexN_full (k + 1) n, hexN_succ (k + 1) n false, List.map_cons]
    refine Ev.eq (fun m => ref02_Text_L4_eq m _ _) (Ev.yes (decide_eq_true (by simp only [List.length_cons, List.length_map]; omega)) (Ev.yes (cons_in _ _) ?_))
    rw [drop1]
    simp only [List.getElem?_cons_zero, Option.getD_some]
    rw [hz]
    by_cases h0 : nib n (k + 1) = 0
    · rw [decide_eq_true h0]
      have : (decide (nib n (k + 1) > 0) || false || decide (k + 1 = 0)) = false := by simp; omega
      rw [this]
      exact Ev.yes rfl (Ev.yes (slice1 _ _) (ih (by omega)))
    · rw [decide_eq_false h0]
      have : (decide (nib n (k + 1) > 0) || false || decide (k + 1 = 0)) = true := by simp; omega
      rw [this]
      exact Ev.no rfl (Ev.ret rfl)
theorem rtext_is {w n : Nat} (h1 : 1 ≤ w) (hw : w ≤ 1000) (hn : n < 2 ^ w) (sg sz : Bool) : Ev (fun k => ref02_Text k (.agg [.lst 1 (bitsD w n), .bool sg, .bool sz])) fun r => r = (true, [.str (textF w n sg sz)]) := by
  have hhl : (hexF w n).length ≤ 251 := by
    unfold hexF
    have := hexN_len ((w - 1) / 4 + 1) n false
    rw [List.length_map]; omega
  have hhl2 := hexN_len ((w - 1) / 4 + 1) n true
  have j4 : ∀ g : List UInt8, g.length ≤ 100 → Ev (fun k => ref02_Text_j4 k g (bitsD w n) sg sz) fun r => r = (true, [.str (g ++ [104] ++ hexF w n)]) := by
    intro g hg
    refine evDfn (fun k => ref02_Text_j4_def k _ _ _ _) (Ev.yes (decide_eq_true (by simp only [maxStr]; omega)) ?_)
    rw [bitsD_len]
    refine Ev.bindL (textLoop h1 hw hn _ sg sz) (fun ds h => by obtain ⟨_, h⟩ := h; cases h) fun ds h => ?_
    obtain ⟨j', h⟩ := h
    cases h
    refine Ev.yes rfl (evLoop (strip_is (g ++ [104]) ((w - 1) / 4) (by omega)) (Ev.yes rfl (Ev.yes (decide_eq_true ?_) (Ev.ret rfl))))
    show (g ++ [104]).length + (hexF w n).length ≤ maxStr
    simp only [maxStr, List.length_append, List.length_singleton]; omega
  have j3 : ∀ g : List UInt8, g.length ≤ 99 → Ev (fun k => ref02_Text_j3 k g sg (bitsD w n) sz) fun r => r = (true, [.str (g ++ (bif sg then [115] else []) ++ [104] ++ hexF w n)]) := by
    intro g hg
    refine evDfn (fun k => ref02_Text_j3_def k _ _ _ _) ?_
    cases sg with
    | true => exact Ev.yes rfl (Ev.yes (decide_eq_true (by simp only [maxStr]; omega)) (j4 (g ++ [115]) (by simp only [List.length_append, List.length_singleton]; omega)))
    | false =>
      refine Ev.no rfl ?_
      have := j4 g (by omega)
      simpa using this
  have j2 : ∀ q : Bool, (q = true → n < 9223372036854775808 ∨ True) → Ev (fun k => ref02_Text_j2 k q (bitsD w n) sz sg) fun r => r = (true, [.str (bif q then itoaS ((min n 2147483648 : Nat) : Int) else (bif sz then itoaS (w : Int) ++ [39] else [39]) ++ (bif sg then [115] else []) ++ [104] ++ hexF w n)]) := by
    intro q _
    refine evDfn (fun k => ref02_Text_j2_def k _ _ _ _) ?_
    cases q with
    | true => exact Ev.yes rfl (evCall (rNum_is (m := 2147483648) hw hn (by decide)) (Ev.yes rfl (evCall (dec_is (u := min n 2147483648) (by omega)) (Ev.yes rfl (Ev.ret rfl)))))
    | false =>
      refine Ev.no rfl ?_
      cases sz with
      | true =>
        have hil := itoa_len (w : Int)
        refine Ev.yes rfl ?_
        rw [bitsD_len]
        refine evCall (dec_is (u := w) (by omega)) (Ev.yes rfl (Ev.yes (decide_eq_true ?_) ?_))
        · show (itoaS (w : Int)).length + 1 ≤ maxStr
          simp only [maxStr]; omega
        · exact j3 (itoaS (w : Int) ++ [39]) (by simp only [List.length_append, List.length_singleton]; omega)
      | false => exact Ev.no rfl (j3 [39] (by simp))
  have j1 : ∀ x : Bool, x = (!sz && decide (w ≠ 32)) → Ev (fun k => ref02_Text_j1 k x sg sz (bitsD w n)) fun r => r = (true, [.str (textF w n sg sz)]) := by
    intro x hx
    refine evDfn (fun k => ref02_Text_j1_def k _ _ _ _) ?_
    unfold textF
    rw [← hx, decide_eq_false (show ¬ w = 0 by omega)]
    cases x with
    | true => exact Ev.yes rfl (Ev.ret rfl)
    | false =>
      refine Ev.no rfl ?_
      cases sg with
      | false => exact Ev.no rfl (j2 false (fun h => by cases h))
      | true =>
        refine Ev.yes rfl ?_
        cases sz with
        | true => exact Ev.no rfl (j2 false (fun h => by cases h))
        | false =>
          have hw32 : w = 32 := by
            have := hx.symm
            simpa using this
          subst hw32
          refine Ev.yes rfl (Ev.yes (and_tt rfl (decide_eq_true (by rw [bitsD_len]; decide))) ?_)
          have hg : (bitsD 32 n)[31]?.getD D.top = .bool (n.testBit 31) := by rw [bitsD_get (by decide)]; rfl
          rw [hg]
          exact Ev.yes rfl (j2 (!(n.testBit 31)) (fun _ => .inr trivial))
  refine Ev.eq (fun k => ref02_Text_eq k _ _ _) ?_
  rw [bitsD_len]
  refine Ev.no (ne_zero h1) ?_
  cases sz with
  | true => exact Ev.no rfl (j1 false rfl)
  | false =>
    refine Ev.yes rfl (j1 _ ?_)
    show ((w : Int) != 32) = (true && decide (w ≠ 32))
    by_cases h : w = 32
    · subst h; rfl
    · rw [decide_eq_true h]; simp; omega
theorem rtext0_is (sg sz : Bool) : Ev (fun k => ref02_Text k (.agg [.lst 1 [], .bool sg, .bool sz])) fun r => r = (true, [.str []]) :=
  Ev.eq (fun k => ref02_Text_eq k _ _ _) (Ev.yes rfl (evDfn (fun k => ref02_Text_j1_def k _ _ _ _) (Ev.yes rfl (Ev.ret rfl))))
theorem rInt_is {w n : Nat} (h1 : 1 ≤ w) (h2 : w ≤ 1000) (hn : n < 2 ^ w) (sg sz : Bool) : Ev (fun k => ref02_Int k (.agg [.lst 1 (bitsD w n), .bool sg, .bool sz])) fun r => r = (true, [.int .i64 (intF w n sg).1, iD (intF w n sg).2]) := by
  have e1 : IntKind.i64.wrap ((w : Int) - 1) = ((w - 1 : Nat) : Int) := by rw [wrap_id (by omega) (by omega)]; omega
  have hmod : (2 ^ w - n) % 2 ^ w < 2 ^ w := Nat.mod_lt _ (two_pos w)
  have j1 : ∀ q : Bool, q = (sg && n.testBit (w - 1)) → Ev (fun k => ref02_Int_j1 k q (bitsD w n)) fun r => r = (true, [.int .i64 (intF w n sg).1, iD (intF w n sg).2]) := by
    intro q hq
    refine evDfn (fun k => ref02_Int_j1_def k _ _) ?_
    unfold intF
    rw [← hq]
    cases q with
    | true =>
      refine Ev.yes rfl (evCall (Neg_is h2 hn) (Ev.yes rfl (evCall (rNum_is (m := 1099511627776) h2 hmod (by decide)) (Ev.yes rfl ?_))))
      generalize (2 ^ w - n) % 2 ^ w = v
      show Ev (fun _ => bif (decide (((min v 1099511627776 : Nat) : Int) > (2147483648 : Int))) then _ else (some (true, [(.int .i64 (IntKind.i64.wrap (0 - ((min v 1099511627776 : Nat) : Int)))), (.int .i64 (0 : Int))]))) _
      by_cases h : v ≤ 2147483648
      · refine Ev.no (decide_eq_false (by omega)) (Ev.ret ?_)
        rw [wrap_id (by omega) (by omega), Nat.min_eq_left (by omega), decide_eq_true h]
        show (true, [D.int .i64 (0 - (v : Int)), _]) = (true, [D.int .i64 (-(v : Int)), _])
        rw [Int.zero_sub]; rfl
      · refine Ev.yes (decide_eq_true (by omega)) (Ev.ret ?_)
        rw [decide_eq_false h]; rfl
    | false =>
      refine Ev.no rfl (evCall (rNum_is (m := 1099511627776) h2 hn (by decide)) (Ev.yes rfl ?_))
      show Ev (fun _ => bif (decide (((min n 1099511627776 : Nat) : Int) ≥ (2147483648 : Int))) then _ else (some (true, [(.int .i64 ((min n 1099511627776 : Nat) : Int)), (.int .i64 (0 : Int))]))) _
      by_cases h : n ≥ 2147483648
      · rw [decide_eq_true h]
        exact Ev.yes (decide_eq_true (by omega)) (Ev.ret rfl)
      · rw [decide_eq_false h]
        refine Ev.no (decide_eq_false (by omega)) (Ev.ret ?_)
        rw [Nat.min_eq_left (by omega)]; rfl
  refine Ev.eq (fun k => ref02_Int_eq k _ _ _) ?_
  rw [bitsD_len]
  refine Ev.no (ne_zero h1) ?_
  cases sg with
  | false => exact Ev.no rfl (j1 false rfl)
  | true =>
    rw [e1]
    refine Ev.yes rfl (Ev.yes (and_tt (decide_eq_true (by omega)) (decide_eq_true (by omega))) ?_)
    rw [bitsD_at (by omega)]
    exact Ev.yes rfl (j1 _ rfl)
theorem rInt0_is (sg sz : Bool) : Ev (fun k => ref02_Int k (.agg [.lst 1 [], .bool sg, .bool sz])) fun r => r = (true, [.int .i64 0, iD 2]) :=
  Ev.eq (fun k => ref02_Int_eq k _ _ _) (Ev.yes rfl (Ev.ret rfl))
end Go.Proofs.YtkjocbdjenmegaaDoor
