/- AstAsks, plain: depth and names are those of the reference. -/
import Derived.Test.YtmklmhdgnokcmaaAstNames
import Derived.Test.YtmklmhdgnokcmaaTexts
namespace Go.Proofs.Ytmklmhdgnokcmaa
open Go.AE
set_option linter.unusedVariables false
theorem sort_ev (l : List (List UInt8)) (hl : l.length ≤ maxLst) : Ev (fun n => slices_Sort_string n (.lst 1 (l.map D.str))) fun r => r = (true, [.lst 1 ((sortS l).map D.str)]) := by
  refine Ev.eq (u := fun _ => some (true, [D.lst 1 ((sortS l).map D.str)])) (fun n => slices_Sort_string_orc n _ _ ?_) (Ev.ret rfl)
  show (match strsOf (l.map D.str) with | some l => bif Nat.ble l.length maxLst then some [D.lst 1 ((sortS l).map D.str)] else none | none => none) = _
  rw [strsOf_map]
  simp only [Nat.ble_eq_true_of_le hl, cond_true]
theorem compact_ev (l : List (List UInt8)) : Ev (fun n => slices_Compact_string n (.lst 1 (l.map D.str))) fun r => r = (true, [.lst 1 ((compS l).map D.str)]) := by
  refine Ev.eq (u := fun _ => some (true, [D.lst 1 ((compS l).map D.str)])) (fun n => slices_Compact_string_orc n _ _ ?_) (Ev.ret rfl)
  show (match strsOf (l.map D.str) with | some l => some [D.lst 1 ((compS l).map D.str)] | none => none) = _
  rw [strsOf_map]
theorem pow_bound {d : Nat} (h : d ≤ 10) : 4 ^ d ≤ 1048576 := Nat.pow_le_pow_right (n := 4) (by decide) h
theorem names_ev {d : Nat} {x : D} (h : wfE d x) (hd : d ≤ 10) : Ev (fun n => ast_Names n x) fun r => r = (true, [.lst 1 ((compS (sortS (nmE d x))).map D.str)]) := by
  have hp := pow_bound hd
  cases d with
  | zero => exact h.elim
  | succ d =>
    have h0 := h
    obtain ⟨k, t, xs, rfl, hs, ha⟩ := h
    refine Ev.eq (fun n => ast_Names_eq n k 0 0 0 t xs) ?_
    refine Ev.bindC (walk_ev (d + 1) (E k t xs) [] h0 (by simp [maxLst]; omega)) ?_
    intro b ds h; cases h; refine ⟨rfl, Ev.yes rfl ?_⟩
    refine Ev.bindC (sort_ev (nmE (d + 1) (E k t xs)) (by have := nmE_le _ _ h0; simp only [maxLst]; omega)) ?_
    intro b ds h; cases h; refine ⟨rfl, Ev.yes rfl ?_⟩
    refine Ev.bindC (compact_ev _) ?_
    intro b ds h; cases h; exact ⟨rfl, Ev.yes rfl (Ev.ret rfl)⟩

/-! The reference's names. -/
theorem shapeE_text {k : Int} {t : List UInt8} {m : Nat} (h : shapeE k t m) (hk : nk k = true) : ∃ c r, t = c :: r := by
  have hne : t ≠ [] := by
    rintro rfl
    rcases h with ⟨rfl, h, _⟩ | ⟨_, h, _⟩ | ⟨rfl, h, _⟩ | ⟨rfl, h, _⟩ | ⟨rfl, h, _⟩ | ⟨rfl, h, _⟩ | ⟨rfl, h, _⟩ | ⟨_, h, _⟩ | ⟨_, h, _⟩ | ⟨_, h, _⟩ <;> first | (revert h; decide) | (revert hk; decide)
  cases t with
  | nil => exact absurd rfl hne
  | cons c r => exact ⟨c, r, rfl⟩
/-- How many stand before a text. -/
def ktw (t : List UInt8) : List (List UInt8) → Nat
  | [] => 0
  | y :: r => if lt y t = true then ktw t r + 1 else 0
theorem ktw_le (t : List UInt8) : ∀ s, ktw t s ≤ s.length
  | [] => Nat.le_refl _
  | y :: r => by have := ktw_le t r; unfold ktw; split <;> simp <;> omega
theorem ktw_before (t : List UInt8) : ∀ (s : List (List UInt8)) (j : Nat), j < ktw t s → ∃ y, s[j]? = some y ∧ lt y t = true
  | [], j, h => by simp [ktw] at h
  | y :: r, j, h => by
    unfold ktw at h
    split at h
    · rename_i hl
      cases j with
      | zero => exact ⟨y, rfl, hl⟩
      | succ j => simpa using ktw_before t r j (by omega)
    · omega
theorem ktw_at (t : List UInt8) : ∀ (s : List (List UInt8)) (y : List UInt8), s[ktw t s]? = some y → lt y t = false
  | [], y, h => by simp at h
  | x :: r, y, h => by
    unfold ktw at h
    split at h
    · exact ktw_at t r y (by simpa using h)
    · rename_i hl; simp at h; subst h; simpa using hl
theorem insU_at (t : List UInt8) : ∀ s : List (List UInt8), insU t s = if s[ktw t s]? = some t then s else s.take (ktw t s) ++ t :: s.drop (ktw t s)
  | [] => by simp [insU, ktw]
  | y :: r => by
    have ih := insU_at t r
    unfold insU ktw
    split
    · rw [ih]
      simp only [List.getElem?_cons_succ, List.take_succ_cons, List.drop_succ_cons, List.cons_append]
      split <;> rfl
    · simp only [List.getElem?_cons_zero, Option.some.injEq, List.take_zero, List.drop_zero, List.nil_append]
theorem namesOf_one {k : Int} {t : List UInt8} {xs : List D} (s : List (List UInt8)) (b : Bool) (hb : s.length + 10 ≤ maxLst) :
    Ev (fun n => ref09_NamesOf_c31 n (.bool b) (.lst 1 (s.map D.str)) (.int .i64 k) (.int .i64 0) (.int .i64 0) (.int .i64 0) (.str t) (.lst 6 xs)) fun r =>
      ∃ b', r = (false, [.bool b', .lst 1 ((if b = true then insU t s else s).map D.str), .int .i64 k, .int .i64 0, .int .i64 0, .int .i64 0, .str t, .lst 6 xs]) := by
  refine Ev.eq (fun n => ref09_NamesOf_c31_eq n b _ k 0 0 0 t xs) ?_
  cases b with
  | false => exact Ev.ret ⟨_, rfl⟩
  | true =>
    refine Ev.yes rfl ?_
    have hk := ktw_le t s
    simp only [maxLst] at hb
    have hlen : (s.map D.str).length = s.length := by simp
    have hget : ∀ j, j < s.length → (s.map D.str)[((j : Nat) : Int).toNat]?.getD D.top = .str (s[j]?.getD []) := by
      intro j hj
      rw [Int.toNat_natCast]
      simp [List.getElem?_map, hj]
    have loop : ∀ (m j : Nat), ktw t s - j = m → j ≤ ktw t s → Ev (fun n => ref09_NamesOf_L0 n (.int .i64 (j : Int)) (.bool true) (.lst 1 (s.map D.str)) (.int .i64 k) (.int .i64 0) (.int .i64 0) (.int .i64 0) (.str t) (.lst 6 xs)) fun r =>
        r = (false, [.int .i64 (ktw t s : Int), .bool true, .lst 1 (s.map D.str), .int .i64 k, .int .i64 0, .int .i64 0, .int .i64 0, .str t, .lst 6 xs]) := by
      intro m
      induction m with
      | zero =>
        intro j hm hj
        have : j = ktw t s := by omega
        subst this
        refine Ev.eq (fun n => ref09_NamesOf_L0_eq n _ _ _ _ _ _ _ _ _) ?_
        rw [hlen]
        refine Ev.test (fun h => ?_) (fun h => Ev.ret rfl)
        have h : ktw t s < s.length := by have := of_decide_eq_true h; omega
        refine Ev.yes (in_range h) ?_
        rw [hget _ h]
        refine Ev.yes rfl (Ev.no ?_ (Ev.ret rfl))
        obtain ⟨y, hy⟩ : ∃ y, s[ktw t s]? = some y := ⟨_, List.getElem?_eq_getElem h⟩
        have := ktw_at t s y hy
        rw [hy]; exact this
      | succ m ihm =>
        intro j hm hj
        refine Ev.eq (fun n => ref09_NamesOf_L0_eq n _ _ _ _ _ _ _ _ _) ?_
        rw [hlen]
        have h : j < s.length := by omega
        refine Ev.yes (decide_eq_true (by omega)) (Ev.yes (in_range h) ?_)
        rw [hget _ h]
        obtain ⟨y, hy, hl⟩ := ktw_before t s j (by omega)
        refine Ev.yes rfl (Ev.yes (by rw [hy]; exact hl) ?_)
        rw [wrap_succ (by omega)]
        exact ihm (j + 1) (by omega) (by omega)
    refine Ev.bindL (loop (ktw t s) 0 rfl (Nat.zero_le _)) (fun ds h => by cases h) fun ds h => ?_
    cases h
    refine Ev.yes rfl ?_
    have c59 : ∀ b : Bool, (b = true → s[ktw t s]? ≠ some t) → (b = false → s[ktw t s]? = some t) → Ev (fun n => ref09_NamesOf_c59 n (.int .i64 (ktw t s : Int)) (.bool b) (.bool true) (.lst 1 (s.map D.str)) (.int .i64 k) (.int .i64 0) (.int .i64 0) (.int .i64 0) (.str t) (.lst 6 xs)) fun r =>
        r = (false, [.int .i64 (ktw t s : Int), .bool b, .bool true, .lst 1 ((insU t s).map D.str), .int .i64 k, .int .i64 0, .int .i64 0, .int .i64 0, .str t, .lst 6 xs]) := by
      intro b h1 h2
      refine Ev.eq (fun n => ref09_NamesOf_c59_eq n _ _ _ _ _ _ _ _ _ _) ?_
      cases b with
      | false =>
        refine Ev.no rfl (Ev.ret ?_)
        rw [insU_at, if_pos (h2 rfl)]
      | true =>
        refine Ev.yes rfl ?_
        rw [hlen]
        refine Ev.yes (by simp; omega) (Ev.yes (Nat.ble_eq_true_of_le (by simp [maxLst]; omega)) (Ev.yes (Nat.ble_eq_true_of_le (by simp [maxLst]; omega)) (Ev.yes (by simp; omega) (Ev.yes (Nat.ble_eq_true_of_le (by simp [maxLst]; omega)) (Ev.ret ?_)))))
        rw [insU_at, if_neg (h1 rfl)]
        have e1 : (s.drop (ktw t s)).length ≤ s.length - ktw t s := by simp
        have e2 : ((s.map D.str).drop (ktw t s)).take (s.length - ktw t s) = (s.map D.str).drop (ktw t s) := List.take_of_length_le (by simp)
        simp only [List.drop_zero, Nat.sub_zero, List.nil_append, Int.toNat_natCast, e2, List.map_append, List.map_cons, List.map_take, List.map_drop, List.append_assoc, List.singleton_append]
    have fin : ∀ b : Bool, (b = true → s[ktw t s]? ≠ some t) → (b = false → s[ktw t s]? = some t) → Ev (fun n => AE.bindL (ref09_NamesOf_c59 n (.int .i64 (ktw t s : Int)) (.bool b) (.bool true) (.lst 1 (s.map D.str)) (.int .i64 k) (.int .i64 0) (.int .i64 0) (.int .i64 0) (.str t) (.lst 6 xs)) fun r2 => bif chk ref09_NamesOf_c59.sk r2 then
        (some (false, [(.bool (nth r2 2).b), (.lst 1 (nth r2 3).l), (.int .i64 (nth r2 4).i), (.int .i64 (nth r2 5).i), (.int .i64 (nth r2 6).i), (.int .i64 (nth r2 7).i), (.str (nth r2 8).s), (.lst 6 (nth r2 9).l)])) else none)
        fun r => ∃ b', r = (false, [.bool b', .lst 1 ((if true = true then insU t s else s).map D.str), .int .i64 k, .int .i64 0, .int .i64 0, .int .i64 0, .str t, .lst 6 xs]) := by
      intro b h1 h2
      refine Ev.bindL (c59 b h1 h2) (fun ds h => by cases h) fun ds h => ?_
      cases h
      exact Ev.yes rfl (Ev.ret ⟨true, rfl⟩)
    refine Ev.test (fun h => fin true (fun _ => ?_) (fun h => by cases h)) (fun h => ?_)
    · have h : ktw t s = s.length := by simp [nth, D.i, D.l] at h; omega
      rw [h]; simp
    · have h : ktw t s < s.length := by simp [nth, D.i, D.l] at h; omega
      obtain ⟨y, hy⟩ : ∃ y, s[ktw t s]? = some y := ⟨_, List.getElem?_eq_getElem h⟩
      refine Ev.yes (by have := in_range h; simpa [nth, D.i, D.l] using this) ?_
      have e := hget _ h
      rw [hy] at e
      have e : (nth [D.int .i64 (ktw t s : Int), .bool true, .lst 1 (s.map D.str), .int .i64 k, .int .i64 0, .int .i64 0, .int .i64 0, .str t, .lst 6 xs] 2).l[(nth [D.int .i64 (ktw t s : Int), .bool true, .lst 1 (s.map D.str), .int .i64 k, .int .i64 0, .int .i64 0, .int .i64 0, .str t, .lst 6 xs] 0).i.toNat]?.getD D.top = .str y := e
      rw [e]
      refine Ev.yes rfl (fin _ (fun h => ?_) (fun h => ?_))
      · rw [hy]
        rintro ⟨⟩
        simp [nth, D.s] at h
      · rw [hy]
        simp [nth, D.s] at h
        rw [h]
theorem namesOf_ev : ∀ (d : Nat) (x : D) (s : List (List UInt8)), wfE d x → s.length + 4 ^ d + 10 ≤ maxLst → Ev (fun n => ref09_NamesOf n x (.lst 1 (s.map D.str))) fun r => r = (true, [.lst 1 (((nmE d x).foldl (fun o t => insU t o) s).map D.str)]) := by
  intro d
  induction d with
  | zero => intro x s h; exact h.elim
  | succ d ih =>
    rintro x s ⟨k, t, xs, rfl, hs, ha⟩ hb
    have hl := shapeE_le hs
    have hp : 4 ^ (d + 1) = 4 * 4 ^ d := by rw [Nat.pow_succ]; omega
    have h1 : 1 ≤ 4 ^ d := Nat.one_le_pow _ _ (by decide)
    have loop : ∀ (m j : Nat) (s : List (List UInt8)), xs.length - j = m → j ≤ xs.length → s.length + (xs.length - j) * 4 ^ d + 10 ≤ maxLst → Ev (fun n => ref09_NamesOf_L2 n (.int .i64 (j : Int)) (.lst 1 (s.map D.str)) (.int .i64 k) (.int .i64 0) (.int .i64 0) (.int .i64 0) (.str t) (.lst 6 xs)) fun r =>
        r = (false, [.int .i64 (xs.length : Int), .lst 1 ((((xs.drop j).flatMap (nmE d)).foldl (fun o t => insU t o) s).map D.str), .int .i64 k, .int .i64 0, .int .i64 0, .int .i64 0, .str t, .lst 6 xs]) := by
      intro m
      induction m with
      | zero =>
        intro j s hm hj hb
        have : j = xs.length := by omega
        subst this
        refine Ev.eq (fun n => ref09_NamesOf_L2_eq n _ _ _ _ _ _ _ _) (Ev.no (decide_eq_false (by omega)) (Ev.ret ?_))
        simp
      | succ m ihm =>
        intro j s hm hj hb
        have hlt : j < xs.length := by omega
        refine Ev.eq (fun n => ref09_NamesOf_L2_eq n _ _ _ _ _ _ _ _) (Ev.yes (decide_eq_true (by omega)) (Ev.yes (in_range hlt) ?_))
        have hw := ha xs[j] (List.getElem_mem hlt)
        obtain ⟨e1, e2⟩ := wfE_exp hw
        rw [get_nat hlt, e1, e2]
        refine Ev.yes rfl ?_
        have hm1 : xs.length - j = (xs.length - (j + 1)) + 1 := by omega
        rw [hm1, Nat.succ_mul] at hb
        refine Ev.bindC (ih xs[j] s hw (by omega)) ?_
        intro b ds h; cases h; refine ⟨rfl, Ev.yes rfl ?_⟩
        rw [wrap_succ (by omega)]
        have hn := nmE_le d _ hw
        have hf := len_foldU (l := nmE d xs[j]) (s := s)
        refine (ihm (j + 1) ((nmE d xs[j]).foldl (fun o t => insU t o) s) (by omega) (by omega) (by omega)).mono fun r hr => ?_
        rw [hr, drop_cons hlt, List.flatMap_cons, List.foldl_append]
    have rest : ∀ b : Bool, b = (nk k && !dollar t) → Ev (fun n => AE.bindL (ref09_NamesOf_c31 n (.bool b) (.lst 1 (s.map D.str)) (.int .i64 k) (.int .i64 0) (.int .i64 0) (.int .i64 0) (.str t) (.lst 6 xs)) fun r1 => bif chk ref09_NamesOf_c31.sk r1 then
        (AE.bindL (ref09_NamesOf_L2 n (.int .i64 0) (.lst 1 (nth r1 1).l) (.int .i64 (nth r1 2).i) (.int .i64 (nth r1 3).i) (.int .i64 (nth r1 4).i) (.int .i64 (nth r1 5).i) (.str (nth r1 6).s) (.lst 6 (nth r1 7).l)) fun r2 => bif chk ref09_NamesOf_L2.sk r2 then (some (true, [(.lst 1 (nth r2 1).l)])) else none) else none)
        fun r => r = (true, [.lst 1 (((nmE (d + 1) (E k t xs)).foldl (fun o t => insU t o) s).map D.str)]) := by
      intro b hbb
      refine Ev.bindL (namesOf_one s b (by omega)) (fun ds h => by obtain ⟨_, h⟩ := h; cases h) fun ds h => ?_
      obtain ⟨b', h⟩ := h
      cases h
      refine Ev.yes rfl ?_
      have h2 : (if b = true then insU t s else s).length ≤ s.length + 1 := by split; exact len_insU; omega
      have h3 : xs.length * 4 ^ d ≤ 3 * 4 ^ d := Nat.mul_le_mul_right _ hl
      refine Ev.bindL (loop xs.length 0 (if b = true then insU t s else s) rfl (Nat.zero_le _) (by simp only [Nat.sub_zero]; omega)) (fun ds h => by cases h) fun ds h => ?_
      cases h
      refine Ev.yes rfl (Ev.ret ?_)
      rw [nmE_E, ← hbb, List.foldl_append]
      cases b <;> rfl
    have text : nk k = true → Ev (fun n => bif (true && decide ((0 : Int) < (t.length : Int))) then (AE.bindL (ref09_NamesOf_c31 n (.bool (((t[0]?.getD 0).toNat : Int) != (36 : Int))) (.lst 1 (s.map D.str)) (.int .i64 k) (.int .i64 0) (.int .i64 0) (.int .i64 0) (.str t) (.lst 6 xs)) fun r1 => bif chk ref09_NamesOf_c31.sk r1 then
        (AE.bindL (ref09_NamesOf_L2 n (.int .i64 0) (.lst 1 (nth r1 1).l) (.int .i64 (nth r1 2).i) (.int .i64 (nth r1 3).i) (.int .i64 (nth r1 4).i) (.int .i64 (nth r1 5).i) (.str (nth r1 6).s) (.lst 6 (nth r1 7).l)) fun r2 => bif chk ref09_NamesOf_L2.sk r2 then (some (true, [(.lst 1 (nth r2 1).l)])) else none) else none) else none)
        fun r => r = (true, [.lst 1 (((nmE (d + 1) (E k t xs)).foldl (fun o t => insU t o) s).map D.str)]) := by
      intro hk
      obtain ⟨c, tr, rfl⟩ := shapeE_text hs hk
      refine Ev.yes (by simp) (rest _ ?_)
      rw [hk, Bool.true_and]
      show (((c.toNat : Int)) != 36) = !(c == 36)
      by_cases e : c = 36
      · subst e; rfl
      · have : (c == 36) = false := by simpa using e
        rw [this]
        have : c.toNat ≠ 36 := fun h => e (UInt8.toNat_inj.1 h)
        simp; omega
    refine Ev.eq (fun n => ref09_NamesOf_eq n k 0 0 0 t xs _) ?_
    refine Ev.test (fun h => text (by simp [nk, h])) fun h2 => ?_
    refine Ev.test (fun h => text (by simp [nk, h])) fun h8 => ?_
    refine Ev.test (fun h => text (by simp [nk, h])) fun h9 => ?_
    refine Ev.test (fun h => text (by simp [nk, h])) fun h10 => ?_
    refine rest false ?_
    simp only [nk, h2, h8, h9, h10]; rfl

/-! The law. -/
theorem awake_run (n : Nat) : law09_awake (n + 24) = some (true, [.bool true]) := by kernel_rfl
theorem awake09 : Ev (fun n => law09_awake n) fun r => r = (true, [.bool true]) := by
  refine ⟨_, rfl, 24, fun n hn => ?_⟩
  obtain ⟨k, rfl⟩ : ∃ k, n = k + 24 := ⟨n - 24, by omega⟩
  exact awake_run k
theorem short_ev {b : List D} (hb : Bytes b) : Ev (fun n => law09_Short n (.lst 1 b)) fun r => ∃ b', r = (true, [.lst 1 b']) ∧ Bytes b' ∧ b'.length ≤ 300 := by
  refine Ev.eq (fun n => law09_Short_eq n b) ?_
  refine Ev.test (fun h => ?_) fun h => ?_
  · have h := of_decide_eq_true h
    refine Ev.yes (by simp; omega) (Ev.ret ⟨_, rfl, fun y hy => hb y (by simpa using List.mem_of_mem_take hy), by simp; omega⟩)
  · have h := of_decide_eq_false h
    exact Ev.ret ⟨b, rfl, hb, by omega⟩
theorem astAsks_plain {b : List D} (hb : Bytes b) : Ev (fun n => law09_AstAsks n (.lst 1 b)) fun r => r = (true, [.bool true]) := by
  refine Ev.eq (fun n => law09_AstAsks_eq n b) ?_
  refine Ev.bindC awake09 ?_
  intro _ ds h; cases h; refine ⟨rfl, Ev.yes rfl (Ev.no rfl ?_)⟩
  refine Ev.bindC (short_ev hb) ?_
  rintro _ _ ⟨b', h, hb', hl⟩; cases h; refine ⟨rfl, Ev.yes rfl ?_⟩
  refine Ev.bindC (makeExpr_ev 4 5 (by decide) (by decide) (by decide) b' 0 ⟨hb', hl, Int.le_refl _, by omega⟩) ?_
  rintro _ _ ⟨x, a, h, hw, hm⟩; cases h; refine ⟨rfl, ?_⟩
  obtain ⟨e1, e2⟩ := wfE_exp hw
  refine Ev.yes (show chk ref09_MakeExpr.osk [x, .lst 1 b', .int .i64 a] = true by
    show ((okTy ty_iiiisl6 x && true) && true) = true
    rw [e2]; rfl) ?_
  have e3 : nth [x, D.lst 1 b', D.int .i64 a] 0 = x := rfl
  rw [e3, e1]
  refine Ev.bindC (own_ev _ x hw) ?_
  intro _ ds h; cases h; refine ⟨rfl, ?_⟩
  refine Ev.yes (show chk law09_OwnExpr.osk [x] = true by
    show ((okTy ty_iiiisl6 x && true) && true) = true
    rw [e2]; rfl) ?_
  have e4 : nth [x] 0 = x := rfl
  rw [e4, e1]
  refine Ev.bindC (names_ev hw (by decide)) ?_
  intro _ ds h; cases h; refine ⟨rfl, Ev.yes rfl ?_⟩
  refine Ev.bindC (namesOf_ev _ x [] hw (by simp [maxLst])) ?_
  intro _ ds h; cases h; refine ⟨rfl, Ev.yes rfl ?_⟩
  refine Ev.bindC (depth_ev _ x hw (by decide)) ?_
  intro _ ds h; cases h; refine ⟨rfl, Ev.yes rfl ?_⟩
  refine Ev.bindC (rdepth_ev _ x hw (by decide)) ?_
  intro _ ds h; cases h; refine ⟨rfl, Ev.yes rfl ?_⟩
  refine Ev.no (by simp [nth, D.i]) ?_
  rw [comp_sort]
  refine Ev.no (by simp [nth, D.l]) ?_
  have hlen := len_foldU (l := nmE (4 + 1) x) (s := [])
  have hn := nmE_le _ x hw
  generalize (nmE (4 + 1) x).foldl (fun o t => insU t o) [] = l at *
  have hp : (4 : Nat) ^ (4 + 1) = 1024 := rfl
  have hll : l.length ≤ 1024 := by have h0 : ([] : List (List UInt8)).length = 0 := rfl; omega
  have loop : ∀ (m j : Nat), l.length - j = m → j ≤ l.length → Ev (fun n => law09_AstAsks_L0 n (.int .i64 ((l.map D.str).length : Int)) (.int .i64 (j : Int)) (.lst 1 (l.map D.str)) (.lst 1 (l.map D.str))) fun r => ∃ ds, r = (false, [.int .i64 ((l.map D.str).length : Int), .int .i64 ds, .lst 1 (l.map D.str), .lst 1 (l.map D.str)]) := by
    intro m
    induction m with
    | zero =>
      intro j hm hj
      refine Ev.eq (fun n => law09_AstAsks_L0_eq n _ _ _ _) (Ev.no (decide_eq_false (by simp; omega)) (Ev.ret ⟨_, rfl⟩))
    | succ m ih =>
      intro j hm hj
      have hlt : j < (l.map D.str).length := by simp; omega
      refine Ev.eq (fun n => law09_AstAsks_L0_eq n _ _ _ _) (Ev.yes (decide_eq_true (by omega)) (Ev.yes (in_range hlt) ?_))
      rw [get_nat hlt]
      simp only [List.getElem_map]
      refine Ev.yes rfl (Ev.yes (in_range hlt) (Ev.yes rfl (Ev.no (by simp) ?_)))
      rw [wrap_succ (by simp at hlt; omega)]
      exact ih (j + 1) (by omega) (by omega)
  refine Ev.bindL (loop l.length 0 rfl (Nat.zero_le _)) (fun ds h => by obtain ⟨_, h⟩ := h; cases h) fun ds h => ?_
  obtain ⟨_, h⟩ := h
  cases h
  exact Ev.yes rfl (Ev.ret rfl)
end Go.Proofs.Ytmklmhdgnokcmaa
