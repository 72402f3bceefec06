/- Literals: Parse told exactly. -/
import Derived.Test.YtkjocbdjenmegaaDoorLitA
namespace Go.Proofs.YtkjocbdjenmegaaDoor
open Go.AE
set_option linter.unusedVariables false
theorem ne_self {w : Nat} : ((w : Int) != (w : Int)) = false := by simp
theorem ne_zero {w : Nat} (h : 1 ≤ w) : ((w : Int) == 0) = false := by simp; omega
theorem bin_mul {w a b : Nat} (h1 : 1 ≤ w) (h2 : w ≤ 128) (ha : a < 2 ^ w) (hb : b < 2 ^ w) : Ev (fun n => bv_Bin n (.int .i64 2) (vec w a) (vec w b)) fun r => r = (true, [vec w (a * b % 2 ^ w), .int .i64 0]) :=
  Ev.eq (fun n => bv_Bin_eq n _ _ _ _ _) (Ev.no rfl (Ev.no rfl (Ev.no ne_self (Ev.no (ne_zero h1) (Ev.no rfl (Ev.no rfl (Ev.yes rfl (evCall (times_is h1 h2 ha hb) (Ev.yes rfl (Ev.ret rfl))))))))))
theorem bin_add {w a b : Nat} (h1 : 1 ≤ w) (h2 : w ≤ 128) (ha : a < 2 ^ w) (hb : b < 2 ^ w) : Ev (fun n => bv_Bin n (.int .i64 0) (vec w a) (vec w b)) fun r => r = (true, [vec w ((a + b) % 2 ^ w), .int .i64 0]) :=
  Ev.eq (fun n => bv_Bin_eq n _ _ _ _ _) (Ev.no rfl (Ev.no rfl (Ev.no ne_self (Ev.no (ne_zero h1) (Ev.yes rfl (evCall (plus_is (k := 0) h1 h2 ha hb (by decide)) (Ev.yes rfl (Ev.ret rfl))))))))
theorem un_neg {w a : Nat} (h1 : 1 ≤ w) (h2 : w ≤ 128) (ha : a < 2 ^ w) : Ev (fun n => bv_Un n (.int .i64 1) (vec w a)) fun r => r = (true, [vec w ((2 ^ w - a) % 2 ^ w), .int .i64 0]) :=
  Ev.eq (fun n => bv_Un_eq n _ _ _) (Ev.no rfl (Ev.no rfl (Ev.no (ne_zero h1) (Ev.no rfl (Ev.yes rfl (evCall (neg_is h1 h2 ha) (Ev.yes rfl (Ev.ret rfl))))))))
def valB (b : Nat) (l : List Nat) : Nat := l.foldl (fun a d => a * b + d) 0
theorem two_pos (w : Nat) : 0 < 2 ^ w := Nat.two_pow_pos w
theorem bits_is {l : List Nat} (hd : ∀ d ∈ l, d < 17) (hl : l.length ≤ 1048576) {b w : Nat} (hb : b ≤ 16) (h1 : 1 ≤ w) (h2 : w ≤ 128) : Ev (fun n => lit_bits n (.lst 1 (l.map iD)) (.int .i64 (b : Int)) (.int .i64 (w : Int))) fun r => r = (true, [vec w (valB b l % 2 ^ w)]) := by
  have hp := two_pos w
  refine Ev.eq (fun n => lit_bits_eq n _ _ _) (evCall (new0_is h1 h2) (Ev.yes rfl ?_))
  have eb : IntKind.u64.wrap (b : Int) = (b : Int) := by rw [wrap_u64_nat, Nat.mod_eq_of_lt (by unfold M64; omega)]
  rw [eb]
  refine evCall (new1_is (x := b) h1 h2 (by unfold M64; omega)) (Ev.yes rfl ?_)
  rw [List.length_map]
  have hmb : b % 2 ^ w < 2 ^ w := Nat.mod_lt _ hp
  have loop : ∀ (k j v : Nat) (x : Int), l.length - j = k → j ≤ l.length →
      Ev (fun n => lit_bits_L0 n (.int .i64 (w : Int)) (.lst 1 (l.map iD)) (.int .i64 (l.length : Int)) (.int .i64 (j : Int)) (.int .i64 x) (.int .i64 (w : Int)) (.lst 1 (wordsN w (v % 2 ^ w))) (.int .i64 (w : Int)) (.lst 1 (wordsN w (b % 2 ^ w))) (.lst 1 [])) fun r =>
        r = (false, [.int .i64 (w : Int), .lst 1 (l.map iD), .int .i64 (l.length : Int), .int .i64 (l.length : Int), .int .i64 x, .int .i64 (w : Int), .lst 1 (wordsN w ((l.drop j).foldl (fun a d => a * b + d) v % 2 ^ w)), .int .i64 (w : Int), .lst 1 (wordsN w (b % 2 ^ w)), .lst 1 []]) := by
    intro k
    induction k with
    | zero =>
      intro j v x hk hj
      have : j = l.length := by omega
      subst this
      refine Ev.eq (fun n => lit_bits_L0_eq n _ _ _ _ _ _ _ _ _ _) (Ev.no (decide_eq_false (by omega)) (Ev.ret ?_))
      rw [List.drop_length]; rfl
    | succ k ih =>
      intro j v x hk hj
      have hj2 : j < l.length := by omega
      have hj3 : j < (l.map iD).length := by rw [List.length_map]; exact hj2
      have hw : IntKind.i64.wrap ((j : Int) + 1) = ((j + 1 : Nat) : Int) := wrap_succ (by omega)
      have hdj := hd l[j] (List.getElem_mem hj2)
      have ed : IntKind.u64.wrap (l[j] : Int) = (l[j] : Int) := by rw [wrap_u64_nat, Nat.mod_eq_of_lt (by unfold M64; omega)]
      refine Ev.eq (fun n => lit_bits_L0_eq n _ _ _ _ _ _ _ _ _ _) (Ev.yes (decide_eq_true (by omega)) (Ev.yes (in_range hj3) ?_))
      rw [get_nat hj3, hw, List.getElem_map]
      refine Ev.yes rfl (evCall (bin_mul h1 h2 (Nat.mod_lt v hp) hmb) (Ev.yes rfl ?_))
      show Ev (fun n => AE.bindC (bv_New n (.int .i64 (w : Int)) (.lst 1 [.int .u64 (IntKind.u64.wrap (l[j] : Int))])) fun r2 => _) _
      rw [ed]
      refine evCall (new1_is (x := l[j]) h1 h2 (by unfold M64; omega)) (Ev.yes rfl ?_)
      refine evCall (bin_add (a := v % 2 ^ w * (b % 2 ^ w) % 2 ^ w) (b := l[j] % 2 ^ w) h1 h2 (Nat.mod_lt _ hp) (Nat.mod_lt _ hp)) (Ev.yes rfl ?_)
      have e : (v % 2 ^ w * (b % 2 ^ w) % 2 ^ w + l[j] % 2 ^ w) % 2 ^ w = (v * b + l[j]) % 2 ^ w := by
        rw [← Nat.mul_mod, ← Nat.add_mod]
      rw [e]
      refine (ih (j + 1) (v * b + l[j]) x (by omega) hj2).mono fun r hr => ?_
      rw [hr, drop_cons hj2]; rfl
  have l0 := loop l.length 0 0 0 rfl (Nat.zero_le _)
  rw [Nat.zero_mod, List.drop_zero] at l0
  exact evLoop l0 (Ev.yes rfl (Ev.ret rfl))
/-- What a text comes to as a number: an error, or a width, a number, signed, sized. -/
inductive Num
  | bad (e : Nat)
  | ok (w n : Nat) (sg sz : Bool)
def Num.own : Num → List D
  | .bad e => [.agg [.int .i64 0, .lst 1 [], .bool false, .bool false], iD e]
  | .ok w n sg sz => [.agg [.int .i64 (w : Int), .lst 1 (wordsN w n), .bool sg, .bool sz], iD 0]
def Num.Ok : Num → Prop
  | .bad e => e ≠ 0
  | .ok w n sg sz => 1 ≤ w ∧ w ≤ 128 ∧ n < 2 ^ w ∧ (sz = false → w = 32)
def ofF (n : Nat) : Num := bif decide (n < 2147483648) then .ok 32 n true false else .bad 3
def plainF (s : List UInt8) : Num := match s with
  | [] => .bad 6
  | c :: t => match digF 10 (c :: t) with
    | none => .bad 5
    | some l => ofF (min (decV l) 2147483648)
def cutQ : List UInt8 → Option (List UInt8 × List UInt8)
  | [] => none
  | c :: t => bif c == 39 then some ([], t) else (cutQ t).map fun p => (c :: p.1, p.2)
def isS (c : UInt8) : Bool := c == 115 || c == 83
inductive Bsd
  | bad (e : Nat)
  | ok (t : List UInt8) (b : Nat) (sg : Bool)
def based1 (t : List UInt8) (sg : Bool) : Bsd := match t with
  | [] => .bad 6
  | c :: r => bif baseN c == 0 then .bad 5 else .ok r (baseN c) sg
def basedF (s : List UInt8) : Bsd := match s with
  | [] => .bad 6
  | c :: t => bif isS c then based1 t true else based1 (c :: t) false
def tailF (w : Nat) (sz : Bool) (r : List UInt8) : Num := match basedF r with
  | .bad e => .bad e
  | .ok t b sg => match t with
    | [] => .bad 6
    | c :: u => match digF b (c :: u) with
      | none => .bad 5
      | some l => bif decide (w < 1) then .bad 2 else bif decide (w > 128) then .bad 2 else .ok w (valB b l % 2 ^ w) sg sz
def parseF (s : List UInt8) : Num := match cutQ s with
  | none => plainF s
  | some (a, r) => match a with
    | [] => tailF 32 false r
    | c :: u => match digF 10 (c :: u) with
      | none => .bad 5
      | some l => tailF (min (decV l) 129) true r
theorem of_is {x : Nat} (hx : x < 9223372036854775808) : Ev (fun n => lit_Of n (.int .i64 (x : Int))) fun r => r = (true, (ofF x).own) := by
  refine Ev.eq (fun n => lit_Of_eq n _) (Ev.no (decide_eq_false (by omega)) (evDfn (fun n => lit_Of_j1_def n _ _) ?_))
  unfold ofF
  by_cases h : x < 2147483648
  · rw [decide_eq_true h]
    have ex : IntKind.u64.wrap (x : Int) = (x : Int) := by rw [wrap_u64_nat, Nat.mod_eq_of_lt (by unfold M64; omega)]
    rw [ex]
    refine Ev.no (decide_eq_false (by omega)) (evCall (new1_is (w := 32) (x := x) (by decide) (by decide) (by unfold M64; omega)) (Ev.yes rfl (Ev.ret ?_)))
    show (true, [D.agg [.int .i64 ((32 : Nat) : Int), .lst 1 (wordsN 32 (x % 2 ^ 32)), .bool true, .bool false], .int .i64 0]) = _
    rw [Nat.mod_eq_of_lt (by omega)]; rfl
  · rw [decide_eq_false h]
    exact Ev.yes (decide_eq_true (by omega)) (Ev.ret rfl)
theorem lt17 {l : List Nat} {b : Nat} (hb : b ≤ 16) (h : ∀ d ∈ l, d < b) : ∀ d ∈ l, d < 17 := fun d hd => by have := h d hd; omega
theorem plain_is {s : List UInt8} (hs : s.length ≤ 1048576) : Ev (fun n => lit_plain n (.str s)) fun r => r = (true, (plainF s).own) := by
  refine Ev.eq (fun n => lit_plain_eq n _) ?_
  have hd := digits_is hs 10
  cases s with
  | nil => exact evCall hd (Ev.yes rfl (Ev.yes rfl (Ev.ret rfl)))
  | cons c t =>
    unfold digitsR at hd
    unfold plainF
    cases hF : digF 10 (c :: t) with
    | none =>
      simp only [hF] at hd ⊢
      exact evCall hd (Ev.yes rfl (Ev.yes rfl (Ev.ret rfl)))
    | some l =>
      simp only [hF] at hd ⊢
      obtain ⟨hl, hd10⟩ := digF_len hF
      refine evCall hd (Ev.yes rfl (Ev.no rfl (evCall (small_is (m := 2147483648) (lt17 (by decide) hd10) (by omega) (by decide)) (Ev.yes rfl ?_))))
      refine evCall (of_is (x := min (decV l) 2147483648) (by omega)) (Ev.yes ?_ (Ev.ret ?_))
      · cases ofF (min (decV l) 2147483648) <;> rfl
      · cases ofF (min (decV l) 2147483648) <;> rfl
theorem cutQ_len : ∀ {s a r : List UInt8}, cutQ s = some (a, r) → s = a ++ 39 :: r ∧ idxStr [39] s 0 = (a.length : Int)
  | [], _, _, h => by cases h
  | c :: t, a, r, h => by
    unfold cutQ at h
    cases hc : c == 39 with
    | true =>
      rw [hc] at h
      cases h
      have : c = 39 := by simpa using hc
      subst this
      exact ⟨rfl, rfl⟩
    | false =>
      rw [hc] at h
      obtain ⟨p, hp, he⟩ := Option.map_eq_some_iff.1 (show (cutQ t).map (fun p => (c :: p.1, p.2)) = some (a, r) from h)
      obtain ⟨a', r'⟩ := p
      cases he
      obtain ⟨h1, h2⟩ := cutQ_len hp
      refine ⟨by rw [h1]; rfl, ?_⟩
      have hi : idxStr [39] (c :: t) 0 = idxStr [39] t 1 := by
        show (bif ([39] : List UInt8).isPrefixOf (c :: t) then ((0 : Nat) : Int) else idxStr [39] t 1) = _
        have : ([39] : List UInt8).isPrefixOf (c :: t) = false := by
          have h39 : ((39 : UInt8) == c) = false := by
            have := beq_eq_false_iff_ne.1 hc
            exact beq_eq_false_iff_ne.2 fun e => this e.symm
          simp [List.isPrefixOf, h39]
        rw [this]; rfl
      have sh : ∀ (s : List UInt8) (j : Nat), 0 ≤ idxStr [39] s 0 → idxStr [39] s j = (j : Int) + idxStr [39] s 0 := by
        intro s
        induction s with
        | nil => intro j h0; simp [idxStr] at h0
        | cons x s ih =>
          intro j h0
          unfold idxStr at h0 ⊢
          cases hp : ([39] : List UInt8).isPrefixOf (x :: s) with
          | true => simp
          | false =>
            rw [hp] at h0
            simp only [cond_false] at h0 ⊢
            by_cases h00 : 0 ≤ idxStr [39] s 0
            · rw [ih (j + 1) h00, ih (0 + 1) h00]; omega
            · exfalso
              have neg : ∀ (s : List UInt8) (j : Nat), ¬ 0 ≤ idxStr [39] s 0 → ¬ 0 ≤ idxStr [39] s j := by
                intro s
                induction s with
                | nil => intro j _; simp [idxStr]
                | cons y s ih2 =>
                  intro j hn
                  unfold idxStr at hn ⊢
                  cases hq : ([39] : List UInt8).isPrefixOf (y :: s) with
                  | true => rw [hq] at hn; exact absurd (Int.natCast_nonneg 0) hn
                  | false =>
                    rw [hq] at hn
                    simp only [cond_false] at hn ⊢
                    intro hj
                    by_cases h3 : 0 ≤ idxStr [39] s 0
                    · have : ∀ (s : List UInt8) (j k : Nat), 0 ≤ idxStr [39] s j → 0 ≤ idxStr [39] s k := by
                        intro s
                        induction s with
                        | nil => intro j k h; simp [idxStr] at h
                        | cons z s ih3 =>
                          intro j k h
                          unfold idxStr at h ⊢
                          cases hz : ([39] : List UInt8).isPrefixOf (z :: s) with
                          | true => exact Int.natCast_nonneg k
                          | false => rw [hz] at h; exact ih3 _ _ h
                      exact hn (this s 0 (0 + 1) h3)
                    · exact ih2 (j + 1) h3 hj
              exact neg s (0 + 1) h00 h0
      rw [hi, sh t 1 (by rw [h2]; omega), h2]
      simp only [List.length_cons]; omega
theorem cutQ_none : ∀ {s : List UInt8} (j : Nat), cutQ s = none → idxStr [39] s j = -1
  | [], _, _ => rfl
  | c :: t, j, h => by
    unfold cutQ at h
    cases hc : c == 39 with
    | true => rw [hc] at h; cases h
    | false =>
      rw [hc] at h
      have h := Option.map_eq_none_iff.1 (show (cutQ t).map (fun p => (c :: p.1, p.2)) = none from h)
      show (bif ([39] : List UInt8).isPrefixOf (c :: t) then (j : Int) else idxStr [39] t (j + 1)) = _
      have : ([39] : List UInt8).isPrefixOf (c :: t) = false := by
        have h39 : ((39 : UInt8) == c) = false := by
          have := beq_eq_false_iff_ne.1 hc
          exact beq_eq_false_iff_ne.2 fun e => this e.symm
        simp [List.isPrefixOf, h39]
      rw [this]
      exact cutQ_none (j + 1) h
theorem cut_is {s : List UInt8} (hs : s.length ≤ 1048576) : Ev (fun n => strings_Cut n (.str s) (.str [39])) fun r => r = (true, match cutQ s with
    | none => [.str s, .str [], .bool false]
    | some (a, r) => [.str a, .str r, .bool true]) := by
  have h0 : Ev (fun n => strings_Cut n (.str s) (.str [39])) fun r => r = (true, [.str (cutStr s [39]).1, .str (cutStr s [39]).2.1, .bool (cutStr s [39]).2.2]) := by
    refine Ev.eq (u := fun _ => some (true, [D.str (cutStr s [39]).1, .str (cutStr s [39]).2.1, .bool (cutStr s [39]).2.2])) (fun n => strings_Cut_orc n _ _ _ ?_) (Ev.ret rfl)
    show (bif Nat.ble s.length 4294967280 then some [D.str (cutStr s [39]).1, .str (cutStr s [39]).2.1, .bool (cutStr s [39]).2.2] else none) = _
    rw [Nat.ble_eq_true_of_le (by omega)]; rfl
  cases hc : cutQ s with
  | none =>
    have hi := cutQ_none 0 hc
    unfold cutStr at h0
    rw [hi] at h0
    exact h0
  | some p =>
    obtain ⟨a, r⟩ := p
    obtain ⟨h1, h2⟩ := cutQ_len hc
    unfold cutStr at h0
    rw [h2] at h0
    have e1 : s.take a.length = a := by rw [h1, List.take_left]
    have e2 : s.drop (a.length + ([39] : List UInt8).length) = r := by
      rw [h1, List.drop_append]
      simp
    refine h0.mono fun x hx => ?_
    rw [hx]
    show (true, [D.str (s.take a.length), .str (s.drop (a.length + ([39] : List UInt8).length)), .bool true]) = _
    rw [e1, e2]
def Bsd.own : Bsd → List D
  | .bad e => [.str [], .int .i64 0, .bool false, iD e]
  | .ok t b sg => [.str t, iD b, .bool sg, iD 0]
theorem drop1 (c : UInt8) (t : List UInt8) : ((c :: t).drop 1).take (((c :: t).length : Int).toNat - 1) = t := by
  show t.take _ = t
  rw [List.take_of_length_le (by simp only [List.length_cons]; omega)]
theorem slice1 (c : UInt8) (t : List UInt8) : (true && decide ((1 : Int) ≤ ((c :: t).length : Int)) && decide (((c :: t).length : Int) ≤ ((c :: t).length : Int))) = true := and_tt (and_tt rfl (decide_eq_true (by simp only [List.length_cons]; omega))) (decide_eq_true (Int.le_refl _))
theorem cons_in (c : UInt8) (t : List UInt8) : (true && decide ((0 : Int) < ((c :: t).length : Int))) = true := and_tt rfl (decide_eq_true (by simp only [List.length_cons]; omega))
theorem orS_all : ∀ k : Fin 256, (orI ((UInt8.ofFin k).toNat : Int) == 115) = isS (UInt8.ofFin k) := by decide +kernel
theorem orS (c : UInt8) : (orI (c.toNat : Int) == 115) = isS c := byByte (P := fun c => (orI (c.toNat : Int) == 115) = isS c) orS_all c
theorem base_zero (c : UInt8) : ((baseN c : Int) == 0) = (baseN c == 0) := by
  cases baseN c with
  | zero => rfl
  | succ k => show _ = false; simp; omega
theorem based_is (s : List UInt8) : Ev (fun n => lit_based n (.str s)) fun r => r = (true, (basedF s).own) := by
  refine Ev.eq (fun n => lit_based_eq n s) ?_
  have j2 : ∀ (t : List UInt8) (b : Bool), Ev (fun n => lit_based_j2 n t b) fun r => r = (true, (based1 t b).own) := by
    intro t b
    refine evDfn (fun n => lit_based_j2_def n _ _) ?_
    cases t with
    | nil => exact Ev.yes rfl (Ev.ret rfl)
    | cons c' r =>
      rw [drop1]
      simp only [List.getElem?_cons_zero, Option.getD_some]
      refine Ev.no rfl (Ev.yes (cons_in c' r) (evCall (base_is c') (Ev.yes rfl ?_)))
      rw [show based1 (c' :: r) b = (bif baseN c' == 0 then .bad 5 else .ok r (baseN c') b) from rfl]
      have hz := base_zero c'
      cases hb : baseN c' == 0 with
      | true => rw [hb] at hz; exact Ev.yes hz (Ev.ret rfl)
      | false => rw [hb] at hz; exact Ev.no hz (Ev.yes (slice1 c' r) (Ev.ret rfl))
  cases s with
  | nil => exact Ev.no rfl (evDfn (fun n => lit_based_j1_def n _ _) (Ev.no rfl (j2 [] false)))
  | cons c t =>
    simp only [List.getElem?_cons_zero, Option.getD_some]
    have hS := orS c
    unfold orI at hS
    rw [hS]
    refine Ev.yes rfl (Ev.yes (cons_in c t) (evDfn (fun n => lit_based_j1_def n _ _) ?_))
    rw [show basedF (c :: t) = (bif isS c then based1 t true else based1 (c :: t) false) from rfl]
    cases hc : isS c with
    | true =>
      refine Ev.yes rfl (Ev.yes (slice1 c t) ?_)
      rw [drop1]
      exact j2 t true
    | false => exact Ev.no rfl (j2 (c :: t) false)
theorem baseN_all : ∀ k : Fin 256, baseN (UInt8.ofFin k) ≤ 16 := by decide +kernel
theorem baseN_le (c : UInt8) : baseN c ≤ 16 := byByte (P := fun c => baseN c ≤ 16) baseN_all c
theorem based1_ok {t r : List UInt8} {b : Nat} {sg sg' : Bool} (h : based1 t sg' = .ok r b sg) : b ≤ 16 ∧ r.length ≤ t.length := by
  cases t with
  | nil => cases h
  | cons c u =>
    unfold based1 at h
    cases hb : baseN c == 0 with
    | true => simp [hb] at h
    | false =>
      simp [hb] at h
      obtain ⟨rfl, rfl, _⟩ := h
      exact ⟨baseN_le c, by simp⟩
theorem basedF_ok {s r : List UInt8} {b : Nat} {sg : Bool} (h : basedF s = .ok r b sg) : b ≤ 16 ∧ r.length ≤ s.length := by
  cases s with
  | nil => cases h
  | cons c t =>
    unfold basedF at h
    cases hc : isS c with
    | true =>
      simp only [hc, cond_true] at h
      have := based1_ok h
      exact ⟨this.1, by simp only [List.length_cons]; omega⟩
    | false =>
      simp only [hc, cond_false] at h
      exact based1_ok h
theorem tail_is {w : Nat} (hw : w ≤ 4294967296) {a r : List UInt8} {sz : Bool} (hr : r.length ≤ 1048576) (hsz : (!(a == [])) = sz) : Ev (fun n => lit_Parse_j1 n (w : Int) [.str a, .str r, .bool true]) fun x => x = (true, (tailF w sz r).own) := by
  refine evDfn (fun n => lit_Parse_j1_def n _ _) ?_
  refine evCall (based_is r) ?_
  unfold tailF
  cases hb : basedF r with
  | bad e =>
    refine Ev.yes rfl ?_
    have he : e ≠ 0 := by
      cases r with
      | nil => cases hb; decide
      | cons c t =>
        unfold basedF at hb
        have b1 : ∀ t sg, based1 t sg = .bad e → e ≠ 0 := by
          intro t sg h
          cases t with
          | nil => cases h; decide
          | cons c u =>
            unfold based1 at h
            cases hz : baseN c == 0 with
            | true => simp [hz] at h; omega
            | false => simp [hz] at h
        cases hc : isS c with
        | true => simp only [hc, cond_true] at hb; exact b1 _ _ hb
        | false => simp only [hc, cond_false] at hb; exact b1 _ _ hb
    refine Ev.yes ?_ (Ev.ret rfl)
    show ((e : Int) != 0) = true
    simp; omega
  | ok t b sg =>
    obtain ⟨hb16, hlen⟩ := basedF_ok hb
    refine Ev.yes rfl (Ev.no rfl ?_)
    have hd := digits_is (s := t) (by omega) b
    cases t with
    | nil => exact evCall hd (Ev.yes rfl (Ev.yes rfl (Ev.ret rfl)))
    | cons c u =>
      unfold digitsR at hd
      cases hF : digF b (c :: u) with
      | none =>
        simp only [hF] at hd ⊢
        exact evCall hd (Ev.yes rfl (Ev.yes rfl (Ev.ret rfl)))
      | some l =>
        simp only [hF] at hd ⊢
        obtain ⟨hl, hdb⟩ := digF_len hF
        refine evCall hd (Ev.yes rfl (Ev.no rfl ?_))
        by_cases w0 : w < 1
        · rw [decide_eq_true w0]
          exact Ev.yes (decide_eq_true (by omega)) (Ev.ret rfl)
        · rw [decide_eq_false w0]
          refine Ev.no (decide_eq_false (by omega)) ?_
          by_cases w1 : w > 128
          · rw [decide_eq_true w1]
            exact Ev.yes (decide_eq_true (by omega)) (Ev.ret rfl)
          · rw [decide_eq_false w1]
            refine Ev.no (decide_eq_false (by omega)) (evCall (bits_is (b := b) (w := w) (lt17 hb16 hdb) (by omega) hb16 (by omega) (by omega)) (Ev.yes rfl (Ev.ret ?_)))
            show (true, [D.agg [.int .i64 (w : Int), .lst 1 (wordsN w (valB b l % 2 ^ w)), .bool sg, .bool (!(a == []))], .int .i64 0]) = _
            rw [hsz]; rfl
theorem parse_is {s : List UInt8} (hs : s.length ≤ 1048576) : Ev (fun n => lit_Parse n (.str s)) fun r => r = (true, (parseF s).own) := by
  refine Ev.eq (fun n => lit_Parse_eq n s) ?_
  have hcut := cut_is hs
  unfold parseF
  cases hc : cutQ s with
  | none =>
    rw [hc] at hcut
    refine evCall hcut (Ev.yes rfl (Ev.yes rfl (evCall (plain_is hs) (Ev.yes ?_ (Ev.ret ?_)))))
    · cases plainF s <;> rfl
    · cases plainF s <;> rfl
  | some p =>
    obtain ⟨a, r⟩ := p
    rw [hc] at hcut
    obtain ⟨hsl, _⟩ := cutQ_len hc
    have hl : s.length = a.length + (r.length + 1) := by rw [hsl]; simp
    refine evCall hcut (Ev.yes rfl (Ev.no rfl ?_))
    cases a with
    | nil => exact Ev.no rfl (tail_is (w := 32) (by decide) (by omega) rfl)
    | cons c u =>
      refine Ev.yes rfl ?_
      have hd := digits_is (s := c :: u) (by omega) 10
      unfold digitsR at hd
      cases hF : digF 10 (c :: u) with
      | none =>
        simp only [hF] at hd ⊢
        exact evCall hd (Ev.yes rfl (Ev.yes rfl (Ev.ret rfl)))
      | some l =>
        simp only [hF] at hd ⊢
        obtain ⟨hll, hd10⟩ := digF_len hF
        refine evCall hd (Ev.yes rfl (Ev.no rfl (evCall (small_is (m := 129) (lt17 (by decide) hd10) (by omega) (by decide)) (Ev.yes rfl ?_))))
        exact tail_is (w := min (decV l) 129) (by omega) (by omega) rfl
end Go.Proofs.YtkjocbdjenmegaaDoor
