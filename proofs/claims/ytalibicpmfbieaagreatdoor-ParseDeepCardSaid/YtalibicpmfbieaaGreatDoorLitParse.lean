/- Numbers as they are written: Parse returns. -/
import Derived.Test.YtalibicpmfbieaaGreatDoorLitTotal
import Derived.Test.YtalibicpmfbieaaGreatDoorEng
namespace Go.Proofs.YtalibicpmfbieaaGreatDoor
open Go.AE
set_option linter.unusedVariables false
set_option linter.unusedSimpArgs false
theorem idxByte_lim (c : UInt8) : ∀ (s : List UInt8) (j : Nat), idxByte c s j = -1 ∨ ((j : Int) ≤ idxByte c s j ∧ idxByte c s j < (j : Int) + s.length)
  | [], _ => .inl rfl
  | x :: s, j => by
    unfold idxByte
    cases x == c with
    | true => exact .inr ⟨Int.le_refl _, by simp; omega⟩
    | false =>
      rcases idxByte_lim c s (j + 1) with h | ⟨h1, h2⟩
      · exact .inl h
      · refine .inr ⟨?_, ?_⟩ <;> simp only [cond_false, List.length_cons] <;> omega
theorem indexByte_ev (s : List UInt8) (x : Int) : Ev (fun n => strings_IndexByte n (.str s) (.int .u8 x)) fun r => r = (true, [.int .i64 (idxByte x.toNat.toUInt8 s 0)]) := by
  refine Ev.eq (fun n => strings_IndexByte_eq n s x) ?_
  refine Ev.bindC (Q := fun r => r = (true, [.int .i64 (idxByte x.toNat.toUInt8 s 0)])) (Ev.eq (fun n => internal_stringslite_IndexByte_eq n s x) (Ev.ret rfl)) ?_
  intro b ds h; cases h; exact ⟨rfl, Ev.yes rfl (Ev.ret rfl)⟩
theorem idx16 (c : UInt8) : idxByte c [48, 49, 50, 51, 52, 53, 54, 55, 56, 57, 97, 98, 99, 100, 101, 102] 0 ≤ 16 := by
  rcases idxByte_lim c [48, 49, 50, 51, 52, 53, 54, 55, 56, 57, 97, 98, 99, 100, 101, 102] 0 with h | ⟨_, h⟩
  · omega
  · simp only [List.length_cons, List.length_nil] at h; omega
theorem value_ev (x : Int) : Ev (fun n => lit_value n (.int .u8 x)) fun r => ∃ v, r = (true, [.int .i64 v]) ∧ 0 ≤ v ∧ v ≤ 16 := by
  refine Ev.eq (fun n => lit_value_eq n x) (Ev.test (fun _ => Ev.test (fun _ => ?_) (fun _ => ?_)) (fun _ => ?_))
  all_goals
    refine Ev.bindC (indexByte_ev _ _) ?_
    rintro b ds h; cases h
    refine ⟨rfl, Ev.yes rfl (Ev.test (fun h => Ev.ret ⟨_, rfl, of_decide_eq_true h, ?_⟩) (fun _ => Ev.ret ⟨16, rfl, by omega, by omega⟩))⟩
    exact idx16 _
def Digs (ds : List D) : Prop := ∀ y ∈ ds, ∃ i : Int, y = .int .i64 i ∧ 0 ≤ i ∧ i ≤ 16
theorem Digs.snoc {ds : List D} (h : Digs ds) {v : Int} (h0 : 0 ≤ v) (h1 : v ≤ 16) : Digs (ds ++ [.int .i64 v]) := fun y hy => by
  rcases List.mem_append.1 hy with hy | hy
  · exact h y hy
  · exact ⟨v, List.mem_singleton.1 hy, h0, h1⟩
theorem digits_ev {s : List UInt8} (hs : s.length ≤ 1048576) (b : Int) : Ev (fun n => lit_digits n (.str s) (.int .i64 b)) fun r => ∃ e ds, r = (true, [.int .i64 e, .lst 1 ds]) ∧ Digs ds ∧ ds.length ≤ s.length := by
  refine Ev.eq (fun n => lit_digits_eq n s b) (Ev.test (fun _ => Ev.ret ⟨6, [], rfl, fun y hy => by simp at hy, by simp⟩) fun _ => ?_)
  have loop : ∀ (m j : Nat) (acc : List D), s.length - j = m → j ≤ s.length → acc.length ≤ j → Digs acc →
      Ev (fun n => lit_digits_L0 n (.str s) (.int .i64 b) (.int .i64 (s.length : Int)) (.int .i64 (j : Int)) (.lst 1 acc)) fun r =>
        r = (true, [.int .i64 5, .lst 1 []]) ∨ ∃ j' acc', r = (false, [.str s, .int .i64 b, .int .i64 (s.length : Int), .int .i64 j', .lst 1 acc']) ∧ Digs acc' ∧ acc'.length ≤ s.length := by
    intro m
    induction m with
    | zero =>
      intro j acc hm hj hl ha
      exact Ev.eq (fun n => lit_digits_L0_eq n _ _ _ _ _) (Ev.no (decide_eq_false (by omega)) (Ev.ret (.inr ⟨_, acc, rfl, ha, by omega⟩)))
    | succ m ih =>
      intro j acc hm hj hl ha
      have hj2 : j < s.length := by omega
      have hw : IntKind.i64.wrap ((j : Int) + 1) = ((j + 1 : Nat) : Int) := wrap_succ (by omega)
      refine Ev.eq (fun n => lit_digits_L0_eq n _ _ _ _ _) (Ev.yes (decide_eq_true (by omega)) (Ev.yes (in_range hj2) ?_))
      refine Ev.bindC (value_ev _) ?_
      rintro _ _ ⟨v, h, h0, h1⟩; cases h; refine ⟨rfl, Ev.yes rfl (Ev.yes (in_range hj2) ?_)⟩
      simp only [nth, D.i, hw]
      have tail := ih (j + 1) (acc ++ [.int .i64 v]) (by omega) (by omega) (by simp; omega) (ha.snoc h0 h1)
      have hb : Nat.ble (acc.length + 1) maxLst = true := Nat.ble_eq_true_of_le (by simp only [maxLst]; omega)
      refine Ev.test (fun _ => Ev.test (fun _ => ?_) fun _ => ?_) fun _ => ?_
      · exact ih (j + 1) acc (by omega) (by omega) (by omega) ha
      · exact Ev.test (fun _ => Ev.yes hb tail) fun _ => Ev.ret (.inl rfl)
      · exact Ev.test (fun _ => Ev.yes hb tail) fun _ => Ev.ret (.inl rfl)
  refine Ev.bindL (loop s.length 0 [] rfl (Nat.zero_le _) (Nat.le_refl _) (fun y hy => by simp at hy)) (fun ds h => ?_) fun ds h => ?_
  · rcases h with h | ⟨_, _, h, _⟩
    · cases h; exact ⟨5, [], rfl, fun y hy => by simp at hy, by simp⟩
    · cases h
  · rcases h with h | ⟨j', acc', h, h1, h2⟩
    · cases h
    · cases h; exact Ev.yes rfl (Ev.ret ⟨0, acc', rfl, h1, h2⟩)
theorem small_ev {ds : List D} (hd : Digs ds) (hl : ds.length ≤ 1048576) {lim : Int} (h0 : 0 ≤ lim) (h1 : lim ≤ 2147483648) : Ev (fun n => lit_small n (.lst 1 ds) (.int .i64 lim)) fun r => ∃ v, r = (true, [.int .i64 v]) ∧ 0 ≤ v ∧ v ≤ lim := by
  refine Ev.eq (fun n => lit_small_eq n ds lim) ?_
  have loop : ∀ (m j : Nat) (v : Int), ds.length - j = m → j ≤ ds.length → 0 ≤ v → v ≤ lim →
      Ev (fun n => lit_small_L0 n (.int .i64 lim) (.int .i64 v) (.lst 1 ds) (.int .i64 (ds.length : Int)) (.int .i64 (j : Int))) fun r =>
        ∃ v' j', r = (false, [.int .i64 lim, .int .i64 v', .lst 1 ds, .int .i64 (ds.length : Int), .int .i64 j']) ∧ 0 ≤ v' ∧ v' ≤ lim := by
    intro m
    induction m with
    | zero =>
      intro j v hm hj hv0 hv1
      exact Ev.eq (fun n => lit_small_L0_eq n _ _ _ _ _) (Ev.no (decide_eq_false (by omega)) (Ev.ret ⟨v, _, rfl, hv0, hv1⟩))
    | succ m ih =>
      intro j v hm hj hv0 hv1
      have hj2 : j < ds.length := by omega
      have hw : IntKind.i64.wrap ((j : Int) + 1) = ((j + 1 : Nat) : Int) := wrap_succ (by omega)
      refine Ev.eq (fun n => lit_small_L0_eq n _ _ _ _ _) (Ev.yes (decide_eq_true (by omega)) (Ev.yes (in_range hj2) ?_))
      obtain ⟨x, hx, hx0, hx1⟩ := hd ds[j] (List.getElem_mem hj2)
      rw [get_nat hj2, hx, hw]
      refine Ev.yes rfl ?_
      simp only [D.i]
      rw [wrap_id (x := 10 * v) (by omega) (by omega), wrap_id (x := 10 * v + x) (by omega) (by omega)]
      exact ih (j + 1) (min (10 * v + x) lim) (by omega) (by omega) (by omega) (by omega)
  refine Ev.bindL (loop ds.length 0 0 rfl (Nat.zero_le _) (Int.le_refl _) h0) (fun ds h => by obtain ⟨_, _, h, _⟩ := h; cases h) fun ds h => ?_
  obtain ⟨v', j', h, p0, p1⟩ := h
  cases h
  exact Ev.yes rfl (Ev.ret ⟨v', rfl, p0, p1⟩)
def Lit (r : Bool × List D) : Prop := ∃ w ws b1 b2 e, r = (true, [.agg [.int .i64 w, .lst 1 ws, .bool b1, .bool b2], .int .i64 e]) ∧ (e = 0 → Vec w ws)
theorem u64s_one (x : Int) : U64s [.int .u64 (IntKind.u64.wrap x)] := fun y hy => ⟨_, List.mem_singleton.1 hy, u64_nonneg _, u64_lt _⟩
theorem of_ev (v : Int) : Ev (fun n => lit_Of n (.int .i64 v)) Lit := by
  refine Ev.eq (fun n => lit_Of_eq n v) (Ev.test (fun _ => Ev.ret ⟨0, [], false, false, 3, rfl, fun h => by cases h⟩) fun _ => Ev.test (fun _ => Ev.ret ⟨0, [], false, false, 3, rfl, fun h => by cases h⟩) fun _ => ?_)
  refine Ev.bindC (new_ev (w := 32) (by omega) (by omega) (u64s_one v) (Nat.le_refl _)) ?_
  rintro _ _ ⟨ws, h, hv⟩; cases h
  exact ⟨rfl, Ev.yes rfl (Ev.ret ⟨_, ws, true, false, 0, rfl, fun _ => hv⟩)⟩
theorem plain_ev {s : List UInt8} (hs : s.length ≤ 1048576) : Ev (fun n => lit_plain n (.str s)) Lit := by
  refine Ev.eq (fun n => lit_plain_eq n s) ?_
  refine Ev.bindC (digits_ev hs 10) ?_
  rintro _ _ ⟨e, ds, h, hd, hl⟩; cases h; refine ⟨rfl, Ev.yes rfl (Ev.test (fun he => Ev.ret ⟨0, [], false, false, e, rfl, fun h => ?_⟩) fun _ => ?_)⟩
  · subst h; cases he
  refine Ev.bindC (small_ev hd (by omega) (by omega) (Int.le_refl _)) ?_
  rintro _ _ ⟨v, h, _, _⟩; cases h; refine ⟨rfl, Ev.yes rfl ?_⟩
  refine Ev.bindC (of_ev _) ?_
  rintro _ _ ⟨w, ws, b1, b2, e, h, hv⟩; cases h
  exact ⟨rfl, Ev.yes rfl (Ev.ret ⟨w, ws, b1, b2, e, rfl, hv⟩)⟩
theorem base_ev (x : Int) : Ev (fun n => lit_base n (.int .u8 x)) fun r => ∃ v, r = (true, [.int .i64 v]) ∧ 0 ≤ v ∧ v ≤ 16 := by
  refine Ev.eq (fun n => lit_base_eq n x) ?_
  refine Ev.test (fun _ => Ev.ret ⟨2, rfl, by omega, by omega⟩) fun _ => Ev.test (fun _ => Ev.ret ⟨8, rfl, by omega, by omega⟩) fun _ => Ev.test (fun _ => Ev.ret ⟨10, rfl, by omega, by omega⟩) fun _ => Ev.test (fun _ => Ev.ret ⟨16, rfl, by omega, by omega⟩) fun _ => Ev.ret ⟨0, rfl, by omega, by omega⟩
theorem ne_nil_len {s : List UInt8} (h : (s == []) = false) : 0 < s.length := by
  cases s with
  | nil => cases h
  | cons x s => simp
def Based (s : List UInt8) (r : Bool × List D) : Prop := ∃ s' b g e, r = (true, [.str s', .int .i64 b, .bool g, .int .i64 e]) ∧ s'.length ≤ s.length ∧ 0 ≤ b ∧ b ≤ 16
theorem cut_one {s : List UInt8} : ((s.drop 1).take ((s.length : Int).toNat - 1)).length ≤ s.length := by simp
theorem slice_ok {s : List UInt8} (h : 0 < s.length) : (true && decide ((1 : Int) ≤ (s.length : Int)) && decide ((s.length : Int) ≤ (s.length : Int))) = true := and_tt (and_tt rfl (decide_eq_true (by omega))) (decide_eq_true (Int.le_refl _))
theorem based_ev (s : List UInt8) : Ev (fun n => lit_based n (.str s)) (Based s) := by
  refine Ev.eq (fun n => lit_based_eq n s) ?_
  have tail : ∀ (t : List UInt8) (g : Bool), t.length ≤ s.length → Ev (fun n => bif (t == ([] : List UInt8)) then (some (true, [(.str ([] : List UInt8)), (.int .i64 (0 : Int)), (.bool false), (.int .i64 (6 : Int))])) else (bif (true && decide ((0 : Int) < (t.length : Int))) then (AE.bindC (lit_base n (.int .u8 ((t[0]?.getD 0).toNat : Int))) fun r1 => bif chk lit_base.osk r1 then (bif ((nth r1 0).i == (0 : Int)) then (some (true, [(.str ([] : List UInt8)), (.int .i64 (0 : Int)), (.bool false), (.int .i64 (5 : Int))])) else (bif (true && decide ((1 : Int) ≤ (t.length : Int)) && decide ((t.length : Int) ≤ (t.length : Int))) then (some (true, [(.str ((t.drop 1).take ((t.length : Int).toNat - 1))), (.int .i64 (nth r1 0).i), (.bool g), (.int .i64 (0 : Int))])) else none)) else none) else none)) (Based s) := by
    intro t g ht
    refine Ev.test (fun _ => Ev.ret ⟨[], 0, false, 6, rfl, by simp, by omega, by omega⟩) fun h => ?_
    have := ne_nil_len h
    refine Ev.yes (and_tt rfl (decide_eq_true (by omega))) (Ev.bindC (base_ev _) ?_)
    rintro _ _ ⟨v, h, h0, h1⟩; cases h; refine ⟨rfl, Ev.yes rfl (Ev.test (fun _ => Ev.ret ⟨[], 0, false, 5, rfl, by simp, by omega, by omega⟩) fun _ => ?_)⟩
    exact Ev.yes (slice_ok this) (Ev.ret ⟨_, v, g, 0, rfl, Nat.le_trans cut_one ht, h0, h1⟩)
  refine Ev.test (fun h => ?_) fun _ => tail s false (Nat.le_refl _)
  have hl : 0 < s.length := ne_nil_len (by simpa using h)
  refine Ev.yes (and_tt rfl (decide_eq_true (by omega))) (Ev.test (fun _ => Ev.yes (slice_ok hl) (tail _ _ cut_one)) fun _ => tail s _ (Nat.le_refl _))
theorem cutStr_len (s t : List UInt8) : (cutStr s t).1.length ≤ s.length ∧ (cutStr s t).2.1.length ≤ s.length := by
  unfold cutStr
  split <;> simp <;> omega
theorem strCut_ev {s : List UInt8} (hs : s.length ≤ 1048576) (t : List UInt8) : Ev (fun n => strings_Cut n (.str s) (.str t)) fun r => r = (true, [.str (cutStr s t).1, .str (cutStr s t).2.1, .bool (cutStr s t).2.2]) := by
  refine Ev.eq (u := fun _ => some (true, [D.str (cutStr s t).1, .str (cutStr s t).2.1, .bool (cutStr s t).2.2])) (fun n => strings_Cut_orc n _ _ _ ?_) (Ev.ret rfl)
  show (bif Nat.ble s.length 4294967280 then some [D.str (cutStr s t).1, .str (cutStr s t).2.1, .bool (cutStr s t).2.2] else none) = _
  rw [Nat.ble_eq_true_of_le (by omega)]; rfl
theorem bits_ev {ds : List D} (hd : Digs ds) (hl : ds.length ≤ 1048576) (b : Int) {w : Int} (h1 : 1 ≤ w) (h2 : w ≤ 128) : Ev (fun n => lit_bits n (.lst 1 ds) (.int .i64 b) (.int .i64 w)) fun r => ∃ ws, r = (true, [.agg [.int .i64 w, .lst 1 ws]]) ∧ Vec w ws := by
  refine Ev.eq (fun n => lit_bits_eq n ds b w) ?_
  refine Ev.bindC (new_ev h1 h2 (us := []) (fun y hy => by simp at hy) (by simp)) ?_
  rintro _ _ ⟨vs, h, hv⟩; cases h; refine ⟨rfl, Ev.yes rfl ?_⟩
  refine Ev.bindC (new_ev h1 h2 (u64s_one b) (Nat.le_refl _)) ?_
  rintro _ _ ⟨bs, h, hb⟩; cases h; refine ⟨rfl, Ev.yes rfl ?_⟩
  have loop : ∀ (m j : Nat) (x : Int) (ws : List D), ds.length - j = m → j ≤ ds.length → Vec w ws →
      Ev (fun n => lit_bits_L0 n (.int .i64 w) (.lst 1 ds) (.int .i64 (ds.length : Int)) (.int .i64 (j : Int)) (.int .i64 x) (.int .i64 w) (.lst 1 ws) (.int .i64 w) (.lst 1 bs) (.lst 1 [])) fun r =>
        ∃ j' ws', r = (false, [.int .i64 w, .lst 1 ds, .int .i64 (ds.length : Int), .int .i64 j', .int .i64 x, .int .i64 w, .lst 1 ws', .int .i64 w, .lst 1 bs, .lst 1 []]) ∧ Vec w ws' := by
    intro m
    induction m with
    | zero =>
      intro j x ws hm hj hv
      exact Ev.eq (fun n => lit_bits_L0_eq n _ _ _ _ _ _ _ _ _ _) (Ev.no (decide_eq_false (by omega)) (Ev.ret ⟨_, ws, rfl, hv⟩))
    | succ m ih =>
      intro j x ws hm hj hv
      have hj2 : j < ds.length := by omega
      have hw : IntKind.i64.wrap ((j : Int) + 1) = ((j + 1 : Nat) : Int) := wrap_succ (by omega)
      refine Ev.eq (fun n => lit_bits_L0_eq n _ _ _ _ _ _ _ _ _ _) (Ev.yes (decide_eq_true (by omega)) (Ev.yes (in_range hj2) ?_))
      obtain ⟨y, hy, hy0, hy1⟩ := hd ds[j] (List.getElem_mem hj2)
      rw [get_nat hj2, hy, hw]
      refine Ev.yes rfl ?_
      refine Ev.bindC (bin_ev (.inr rfl) hv hb) ?_
      rintro _ _ ⟨v1, h, hv1⟩; cases h; refine ⟨rfl, Ev.yes rfl ?_⟩
      refine Ev.bindC (new_ev h1 h2 (u64s_one _) (Nat.le_refl _)) ?_
      rintro _ _ ⟨v2, h, hv2⟩; cases h; refine ⟨rfl, Ev.yes rfl ?_⟩
      refine Ev.bindC (bin_ev (.inl rfl) hv1 hv2) ?_
      rintro _ _ ⟨v3, h, hv3⟩; cases h; refine ⟨rfl, Ev.yes rfl ?_⟩
      exact ih (j + 1) x v3 (by omega) (by omega) hv3
  refine Ev.bindL (loop ds.length 0 0 vs rfl (Nat.zero_le _) hv) (fun ds h => by obtain ⟨_, _, h, _⟩ := h; cases h) fun ds h => ?_
  obtain ⟨j', ws', h, hv'⟩ := h
  cases h
  exact Ev.yes rfl (Ev.ret ⟨ws', rfl, hv'⟩)
theorem parse_ev {s : List UInt8} (hs : s.length ≤ 1048576) : Ev (fun n => lit_Parse n (.str s)) Lit := by
  refine Ev.eq (fun n => lit_Parse_eq n s) ?_
  refine Ev.bindC (strCut_ev hs _) ?_
  obtain ⟨c1, c2⟩ := cutStr_len s [39]
  intro _ _ h; cases h; refine ⟨rfl, Ev.yes rfl ?_⟩
  simp only [nth, D.s, D.b, List.getD_cons_zero, List.getD_cons_succ]
  refine Ev.test (fun _ => ?_) fun _ => Ev.test (fun _ => ?_) fun _ => ?_
  · refine Ev.bindC (plain_ev hs) ?_
    rintro _ _ ⟨w, ws, b1, b2, e, h, hv⟩; cases h
    exact ⟨rfl, Ev.yes rfl (Ev.ret ⟨w, ws, b1, b2, e, rfl, hv⟩)⟩
  · refine Ev.bindC (digits_ev (Nat.le_trans c1 hs) 10) ?_
    rintro _ _ ⟨e, ds, h, hd, hl⟩; cases h; refine ⟨rfl, Ev.yes rfl (Ev.test (fun he => Ev.ret ⟨0, [], false, false, e, rfl, fun h => ?_⟩) fun _ => ?_)⟩
    · subst h; cases he
    refine Ev.bindC (small_ev hd (by omega) (lim := 129) (by omega) (by omega)) ?_
    rintro _ _ ⟨v, h, v0, v1⟩; cases h; refine ⟨rfl, Ev.yes rfl ?_⟩
    refine Ev.bindC (based_ev _) ?_
    rintro _ _ ⟨t, b, g, e, h, ht, b0, b1⟩; cases h; refine ⟨rfl, Ev.yes rfl (Ev.test (fun he => Ev.ret ⟨0, [], false, false, e, rfl, fun h => ?_⟩) fun _ => ?_)⟩
    · subst h; cases he
    refine Ev.bindC (digits_ev (s := t) (by omega) b) ?_
    rintro _ _ ⟨e, us, h, hd, hl⟩; cases h; refine ⟨rfl, Ev.yes rfl (Ev.test (fun he => Ev.ret ⟨0, [], false, false, e, rfl, fun h => ?_⟩) fun _ => ?_)⟩
    · subst h; cases he
    refine Ev.test (fun _ => Ev.ret ⟨0, [], false, false, 2, rfl, fun h => by cases h⟩) fun w0 => Ev.test (fun _ => Ev.ret ⟨0, [], false, false, 2, rfl, fun h => by cases h⟩) fun w1 => ?_
    have w0 := of_decide_eq_false w0
    have w1 := of_decide_eq_false w1
    simp only [nth, D.i, List.getD_cons_zero, List.getD_cons_succ] at w0 w1
    refine Ev.bindC (bits_ev hd (by omega) b (w := v) (by omega) (by omega)) ?_
    rintro _ _ ⟨ws, h, hv⟩; cases h
    exact ⟨rfl, Ev.yes rfl (Ev.ret ⟨v, ws, _, _, 0, rfl, fun _ => hv⟩)⟩
  · refine Ev.bindC (based_ev _) ?_
    rintro _ _ ⟨t, b, g, e, h, ht, b0, b1⟩; cases h; refine ⟨rfl, Ev.yes rfl (Ev.test (fun he => Ev.ret ⟨0, [], false, false, e, rfl, fun h => ?_⟩) fun _ => ?_)⟩
    · subst h; cases he
    refine Ev.bindC (digits_ev (s := t) (by omega) b) ?_
    rintro _ _ ⟨e, us, h, hd, hl⟩; cases h; refine ⟨rfl, Ev.yes rfl (Ev.test (fun he => Ev.ret ⟨0, [], false, false, e, rfl, fun h => ?_⟩) fun _ => ?_)⟩
    · subst h; cases he
    refine Ev.bindC (bits_ev hd (by omega) b (w := 32) (by omega) (by omega)) ?_
    rintro _ _ ⟨ws, h, hv⟩; cases h
    exact ⟨rfl, Ev.yes rfl (Ev.ret ⟨32, ws, _, _, 0, rfl, fun _ => hv⟩)⟩
end Go.Proofs.YtalibicpmfbieaaGreatDoor
