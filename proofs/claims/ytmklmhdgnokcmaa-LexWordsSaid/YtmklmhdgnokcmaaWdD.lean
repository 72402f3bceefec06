/- Words: the reference over a piece, both over pieces, the law. -/
import Derived.Test.YtmklmhdgnokcmaaWdC
namespace Go.Proofs.Ytmklmhdgnokcmaa
open Go.AE
set_option linter.unusedVariables false
def refOut (p : PR) (ys : List D) (i : Int) (out : List D) (r : Bool × List D) : Prop := match p.1 with
  | none => ∃ u0 u1 u2 : Int, r = (false, [.lst 5 ys, .int .i64 i, .str [], .int .i64 0, .int .i64 0, .int .i64 0, .lst 5 (out ++ p.2), .int .i64 u0, .int .i64 u1, .int .i64 u2])
  | some (a, b, c, e) => r = (true, [.agg [.int .i64 a, .int .i64 b, .int .i64 c], .int .i64 e, .lst 5 []])
theorem rmove_is {ys : List D} {i : Nat} (hi : i < ys.length) {t0 : List UInt8} {p0 p1 p2 : Int} {fx : Bool} (hy : ys[i] = pieceD t0 p0 p1 p2 fx) {s : List UInt8} (hs : s.length ≤ 1048576) {k : Nat} (hk : k ≤ s.length) (out : List D) : ∀ (m j : Nat) (q : Pos), k - j = m → j ≤ k →
    Ev (fun n => ref08_Lex_L4 n (.lst 5 ys) (.int .i64 (i : Int)) (.str s) (.int .i64 (k : Int)) (.int .i64 (j : Int)) (.int .i64 0) (.int .i64 0) (.int .i64 0) (.lst 5 out) (.int .i64 q.1) (.int .i64 q.2.1) (.int .i64 q.2.2)) fun r => ∃ j' : Int, r = (false, [.lst 5 ys, .int .i64 (i : Int), .str s, .int .i64 (k : Int), .int .i64 j', .int .i64 0, .int .i64 0, .int .i64 0, .lst 5 out, .int .i64 (mvs fx q ((s.take k).drop j)).1, .int .i64 (mvs fx q ((s.take k).drop j)).2.1, .int .i64 (mvs fx q ((s.take k).drop j)).2.2]) := by
  have hkl : (s.take k).length = k := by rw [List.length_take]; omega
  intro m
  induction m with
  | zero =>
    intro j q hm hj
    rw [List.drop_eq_nil_of_le (by omega), mvs_nil]
    exact Ev.eq (fun n => ref08_Lex_L4_eq n _ _ _ _ _ _ _ _ _ _ _ _) (Ev.no (decide_eq_false (by omega)) (evDfn (fun n => ref08_Lex_L4_j1_def n _ _ _ _ _ _ _ _ _ _ _ _ _) (Ev.no rfl (Ev.ret ⟨_, rfl⟩))))
  | succ m ih =>
    intro j q hm hj
    have hj2 : j < s.length := by omega
    have hj3 : j < (s.take k).length := by omega
    have hw : IntKind.i64.wrap ((j : Int) + 1) = ((j + 1 : Nat) : Int) := wrap_succ (by omega)
    refine Ev.eq (fun n => ref08_Lex_L4_eq n _ _ _ _ _ _ _ _ _ _ _ _) (Ev.yes (decide_eq_true (by omega)) (Ev.yes (in_range hi) ?_))
    rw [get_nat hi, hy]
    refine Ev.yes rfl (Ev.yes rfl (evDfn (fun n => ref08_Lex_L4_j1_def n _ _ _ _ _ _ _ _ _ _ _ _ _) ?_))
    cases fx with
    | true => exact Ev.no rfl (Ev.ret ⟨_, rfl⟩)
    | false =>
      refine Ev.yes rfl (Ev.yes (in_range hj2) ?_)
      rw [get_str hj2, hw]
      have hn := ih (j + 1) (mvB q s[j]) (by omega) (by omega)
      have ed : mvs false q ((s.take k).drop j) = mvs false (mvB q s[j]) ((s.take k).drop (j + 1)) := by
        rw [drop_cons hj3, List.getElem_take]; rfl
      rw [ed]
      cases hb : ((s[j].toNat : Int) == 10) with
      | true =>
        have e : mvB q s[j] = (q.1, IntKind.i64.wrap (q.2.1 + 1), 1) := by unfold mvB; rw [hb]; rfl
        rw [e] at hn ⊢
        exact Ev.yes rfl hn
      | false =>
        have e : mvB q s[j] = (q.1, q.2.1, IntKind.i64.wrap (q.2.2 + 1)) := by unfold mvB; rw [hb]; rfl
        rw [e] at hn ⊢
        exact Ev.no rfl hn
theorem blank_split : ∀ k : Fin 256, blankB (UInt8.ofFin k) = !(((UInt8.ofFin k).toNat : Int) != 32 && (((UInt8.ofFin k).toNat : Int) != 9 && (((UInt8.ofFin k).toNat : Int) != 13 && ((UInt8.ofFin k).toNat : Int) != 10))) := by decide +kernel
theorem blank_is4 (c : UInt8) : blankB c = !(((c.toNat : Int) != 32) && (((c.toNat : Int) != 9) && (((c.toNat : Int) != 13) && ((c.toNat : Int) != 10)))) := byByte (P := fun c => blankB c = !(((c.toNat : Int) != 32) && (((c.toNat : Int) != 9) && (((c.toNat : Int) != 13) && ((c.toNat : Int) != 10))))) blank_split c
theorem rpiece_is {ys : List D} {i : Nat} (hi : i < ys.length) {t0 : List UInt8} {p0 p1 p2 : Int} {fx : Bool} (hy : ys[i] = pieceD t0 p0 p1 p2 fx) : ∀ (m : Nat) (s : List UInt8) (q : Pos) (p : PR) (out : List D), s.length ≤ m → LP fx s q p → out.length + s.length ≤ 12000 →
    Ev (fun n => ref08_Lex_L2 n (.lst 5 ys) (.int .i64 (i : Int)) (.str s) (.int .i64 0) (.int .i64 0) (.int .i64 0) (.lst 5 out) (.int .i64 q.1) (.int .i64 q.2.1) (.int .i64 q.2.2)) fun r => refOut p ys i out r := by
  intro m
  induction m with
  | zero =>
    intro s q p out hm hlp ho
    have : s = [] := List.eq_nil_of_length_eq_zero (by omega)
    subst this
    have hp := lp_nil hlp
    subst hp
    exact Ev.eq (fun n => ref08_Lex_L2_eq n _ _ _ _ _ _ _ _ _ _) (Ev.no rfl (Ev.ret ⟨q.1, q.2.1, q.2.2, by simp⟩))
  | succ m ih =>
    intro s q p out hm hlp ho
    cases s with
    | nil =>
      have hp := lp_nil hlp
      subst hp
      exact Ev.eq (fun n => ref08_Lex_L2_eq n _ _ _ _ _ _ _ _ _ _) (Ev.no rfl (Ev.ret ⟨q.1, q.2.1, q.2.2, by simp⟩))
    | cons c t =>
      rw [List.length_cons] at hm
      have ho2 : out.length + (c :: t).length ≤ 12000 := ho
      rw [List.length_cons] at ho
      have hc0 := cons_ok c t
      have go : Ev (fun n => ref08_Lex_L2_j1 n (!blankB c) (c :: t) out q.1 q.2.1 q.2.2 ys (i : Int) 0 0 0) fun r => refOut p ys i out r := by
        cases hlp with
        | @blank _ _ _ p hb h2 =>
          rw [hb]
          have mv := rmove_is hi hy (s := c :: t) (by rw [List.length_cons]; omega) (k := 1) (by rw [List.length_cons]; omega) out 1 0 q rfl (Nat.zero_le _)
          refine evDfn (fun n => ref08_Lex_L2_j1_def n _ _ _ _ _ _ _ _ _ _ _) (Ev.no rfl (evDfn (fun n => ref08_Lex_L2_j2_def n _ _ _ _ _ _ _ _ _ _ _) (Ev.bindL mv (fun ds h => by obtain ⟨_, h⟩ := h; cases h) fun ds h => ?_)))
          obtain ⟨j', h⟩ := h
          cases h
          refine Ev.yes rfl (Ev.yes (slice1 c t) ?_)
          have nx := ih t (mvs fx q [c]) p out (by omega) h2 (by omega)
          have e : ((c :: t).drop ((1 : Nat) : Int).toNat).take (((c :: t).length : Int).toNat - ((1 : Nat) : Int).toNat) = t := drop1 c t
          show Ev (fun n => ref08_Lex_L2 n (.lst 5 ys) (.int .i64 (i : Int)) (.str (((c :: t).drop ((1 : Nat) : Int).toNat).take (((c :: t).length : Int).toNat - ((1 : Nat) : Int).toNat))) _ _ _ _ _ _ _) _
          rw [e]
          exact nx
        | bad hb he =>
          rw [hb]
          obtain ⟨e1, e2⟩ := ne_0 he
          refine evDfn (fun n => ref08_Lex_L2_j1_def n _ _ _ _ _ _ _ _ _ _ _) (Ev.yes rfl (evCall (rword_is (by rw [List.length_cons]; omega)) (Ev.yes rfl (Ev.no e2 (Ev.yes e1 (Ev.ret rfl))))))
        | @tok _ _ _ p hb he h2 =>
          rw [hb]
          obtain ⟨w1, w2⟩ := wordF_len he
          have hdl2 : ((c :: t).drop (wordF c t).2.1).length + 1 ≤ (c :: t).length := by rw [List.length_drop]; omega
          rw [List.length_cons] at hdl2
          have nx := ih ((c :: t).drop (wordF c t).2.1) _ p (out ++ [tokD (wordF c t).1 ((c :: t).take (wordF c t).2.1) q]) (by omega) h2 (by simp only [List.length_append, List.length_singleton]; omega)
          have e1 : ((wordF c t).2.2 == 0) = true := by rw [he]; rfl
          have e2 : ((wordF c t).2.2 != 0) = false := by rw [he]; rfl
          have e3 : decide ((out.length : Int) ≥ 12000) = false := decide_eq_false (by omega)
          have mv := rmove_is hi hy (s := c :: t) (by rw [List.length_cons]; omega) w2 (out ++ [tokD (wordF c t).1 ((c :: t).take (wordF c t).2.1) q]) (wordF c t).2.1 0 q rfl (Nat.zero_le _)
          refine evDfn (fun n => ref08_Lex_L2_j1_def n _ _ _ _ _ _ _ _ _ _ _) (Ev.yes rfl (evCall (rword_is (by rw [List.length_cons]; omega)) (Ev.yes rfl (Ev.yes e1 (Ev.no e3 (Ev.no e2 (Ev.yes (and_tt (and_tt rfl (decide_eq_true ?_)) (decide_eq_true ?_)) (Ev.yes (Nat.ble_eq_true_of_le (by simp only [maxLst]; omega)) (evDfn (fun n => ref08_Lex_L2_j2_def n _ _ _ _ _ _ _ _ _ _ _) (Ev.bindL mv (fun ds h => by obtain ⟨_, h⟩ := h; cases h) fun ds h => ?_))))))))))
          · show (0 : Int) ≤ ((wordF c t).2.1 : Int); omega
          · show ((wordF c t).2.1 : Int) ≤ ((c :: t).length : Int); omega
          obtain ⟨j', h⟩ := h
          cases h
          refine Ev.yes rfl (Ev.yes (and_tt (and_tt (decide_eq_true ?_) (decide_eq_true ?_)) (decide_eq_true (Int.le_refl _))) ?_)
          · show (0 : Int) ≤ ((wordF c t).2.1 : Int); omega
          · show ((wordF c t).2.1 : Int) ≤ ((c :: t).length : Int); omega
          have e : ((c :: t).drop (((wordF c t).2.1 : Nat) : Int).toNat).take (((c :: t).length : Int).toNat - (((wordF c t).2.1 : Nat) : Int).toNat) = (c :: t).drop (wordF c t).2.1 := by
            rw [Int.toNat_natCast, Int.toNat_natCast]; exact drop_all _ _
          show Ev (fun n => ref08_Lex_L2 n (.lst 5 ys) (.int .i64 (i : Int)) (.str (((c :: t).drop (((wordF c t).2.1 : Nat) : Int).toNat).take (((c :: t).length : Int).toNat - (((wordF c t).2.1 : Nat) : Int).toNat))) _ _ _ _ _ _ _) _
          rw [e]
          refine nx.mono fun r hr => ?_
          obtain ⟨R, ts⟩ := p
          cases R with
          | none =>
            obtain ⟨u0, u1, u2, hr⟩ := hr
            exact ⟨u0, u1, u2, by rw [hr]; simp⟩
          | some x => exact hr
      rw [blank_is4 c, Bool.not_not] at go
      refine Ev.eq (fun n => ref08_Lex_L2_eq n _ _ _ _ _ _ _ _ _ _) (Ev.yes rfl (Ev.yes hc0 ?_))
      simp only [List.getElem?_cons_zero, Option.getD_some]
      cases h1 : ((c.toNat : Int) != 32) with
      | false => rw [h1] at go; exact Ev.no rfl go
      | true =>
        refine Ev.yes rfl (Ev.yes hc0 ?_)
        cases h2 : ((c.toNat : Int) != 9) with
        | false => rw [h1, h2] at go; exact Ev.no rfl go
        | true =>
          refine Ev.yes rfl (Ev.yes hc0 ?_)
          cases h3 : ((c.toNat : Int) != 13) with
          | false => rw [h1, h2, h3] at go; exact Ev.no rfl go
          | true =>
            refine Ev.yes rfl (Ev.yes hc0 ?_)
            rw [h1, h2, h3] at go
            exact go
theorem few_ev {ps : List D} (hp : ∀ y ∈ ps, ∃ L, IsP L y) : Ev (fun n => law08_few n (.lst 5 ps)) fun r => ∃ ys, r = (true, [.lst 5 ys, .lst 5 ys]) ∧ (∀ y ∈ ys, IsP 300 y) ∧ ys.length ≤ 6 := by
  refine Ev.eq (fun n => law08_few_eq n ps) ?_
  have stop : ∀ (j : Nat) (ys : List D), (∀ y ∈ ys, IsP 300 y) → ys.length ≤ 6 → Ev (fun n => law08_few_L0_j1 n false (j : Int) ps ys ys) fun r => ∃ (j' : Int) (ys' : List D), r = (false, [.lst 5 ps, .int .i64 j', .lst 5 ys', .lst 5 ys']) ∧ (∀ y ∈ ys', IsP 300 y) ∧ ys'.length ≤ 6 :=
    fun j ys hy hl => evDfn (fun n => law08_few_L0_j1_def n _ _ _ _ _) (Ev.no rfl (Ev.ret ⟨_, ys, rfl, hy, hl⟩))
  have loop : ∀ (m j : Nat) (ys : List D), 6 - j = m → j ≤ 6 → ys.length = j → (∀ y ∈ ys, IsP 300 y) →
      Ev (fun n => law08_few_L0 n (.lst 5 ps) (.int .i64 (j : Int)) (.lst 5 ys) (.lst 5 ys)) fun r => ∃ (j' : Int) (ys' : List D), r = (false, [.lst 5 ps, .int .i64 j', .lst 5 ys', .lst 5 ys']) ∧ (∀ y ∈ ys', IsP 300 y) ∧ ys'.length ≤ 6 := by
    intro m
    induction m with
    | zero =>
      intro j ys hm hj hl hy
      have e : decide ((j : Int) < 6) = false := decide_eq_false (by omega)
      refine Ev.eq (fun n => law08_few_L0_eq n _ _ _ _) (Ev.test (fun _ => ?_) fun _ => stop j ys hy (by omega))
      rw [e]
      exact stop j ys hy (by omega)
    | succ m ih =>
      intro j ys hm hj hl hy
      have e : decide ((j : Int) < 6) = true := decide_eq_true (by omega)
      refine Ev.eq (fun n => law08_few_L0_eq n _ _ _ _) (Ev.test (fun hjl => ?_) fun _ => stop j ys hy (by omega))
      have hj2 : j < ps.length := by have := of_decide_eq_true hjl; omega
      have hw : IntKind.i64.wrap ((j : Int) + 1) = ((j + 1 : Nat) : Int) := wrap_succ (by omega)
      rw [e]
      refine evDfn (fun n => law08_few_L0_j1_def n _ _ _ _ _) (Ev.yes rfl (Ev.yes (in_range hj2) ?_))
      obtain ⟨L, t, p0, p1, p2, fx, hx, _⟩ := hp ps[j] (List.getElem_mem hj2)
      have hb : Nat.ble (ys.length + 1) maxLst = true := Nat.ble_eq_true_of_le (by simp only [maxLst]; omega)
      rw [get_nat hj2, hx, hw]
      refine Ev.yes rfl (Ev.test (fun h => ?_) fun h => ?_)
      · have h := of_decide_eq_true h
        refine Ev.yes (and_tt rfl (decide_eq_true (by omega))) (Ev.yes hb (Ev.yes hb ?_))
        refine ih (j + 1) (ys ++ [pieceD ((t.drop 0).take 300) p0 p1 p2 fx]) (by omega) (by omega) (by simp [hl]) fun y hy' => ?_
        rcases List.mem_append.1 hy' with hy' | hy'
        · exact hy y hy'
        · exact ⟨_, p0, p1, p2, fx, List.mem_singleton.1 hy', by simp; omega⟩
      · have h := of_decide_eq_false h
        have h : ¬ ((t.length : Int) > 300) := h
        refine Ev.yes hb (Ev.yes hb ?_)
        refine ih (j + 1) (ys ++ [pieceD t p0 p1 p2 fx]) (by omega) (by omega) (by simp [hl]) fun y hy' => ?_
        rcases List.mem_append.1 hy' with hy' | hy'
        · exact hy y hy'
        · exact ⟨_, p0, p1, p2, fx, List.mem_singleton.1 hy', by omega⟩
  refine Ev.bindL (loop 6 0 [] rfl (Nat.zero_le _) rfl (fun y hy => by simp at hy)) (fun ds h => by obtain ⟨_, _, h, _⟩ := h; cases h) fun ds h => ?_
  obtain ⟨j', ys', h, h1, h2⟩ := h
  cases h
  exact Ev.yes rfl (Ev.ret ⟨ys', rfl, h1, h2⟩)
def PieceIs (y : D) (p : PR) : Prop := ∃ (t : List UInt8) (q : Pos) (fx : Bool), y = pieceD t q.1 q.2.1 q.2.2 fx ∧ t.length ≤ 300 ∧ LP fx t q p ∧ Toks p.2 ∧ p.2.length ≤ 300 ∧ (∀ a b c e, p.1 = some (a, b, c, e) → e ≠ 0)
theorem pieceIs {y : D} (h : IsP 300 y) : ∃ p, PieceIs y p := by
  obtain ⟨t, p0, p1, p2, fx, rfl, ht⟩ := h
  obtain ⟨p, h1, h2, h3, h4⟩ := lp_of fx t.length t (p0, p1, p2) (Nat.le_refl _)
  exact ⟨p, t, (p0, p1, p2), fx, rfl, ht, h1, h2, by omega, h4⟩
inductive All2 : List D → List PR → Prop
  | nil : All2 [] []
  | cons {y p ys ps} : PieceIs y p → All2 ys ps → All2 (y :: ys) (p :: ps)
theorem all2_of : ∀ {ys : List D}, (∀ y ∈ ys, IsP 300 y) → ∃ ps, All2 ys ps
  | [], _ => ⟨[], .nil⟩
  | y :: ys, h => by
    obtain ⟨p, hp⟩ := pieceIs (h y (List.mem_cons_self ..))
    obtain ⟨ps, hps⟩ := all2_of (ys := ys) fun z hz => h z (List.mem_cons_of_mem _ hz)
    exact ⟨p :: ps, .cons hp hps⟩
def lexOut : List PR → List D → Bool × List D
  | [], out => pieceOut none out []
  | (none, ts) :: ps, out => lexOut ps (out ++ ts)
  | (some q, _) :: _, out => pieceOut (some q) out []
theorem all2_len {ys ps} (h : All2 ys ps) : ys.length = ps.length := by
  induction h with
  | nil => rfl
  | cons _ _ ih => simp [ih]
theorem all2_get {ys ps} (h : All2 ys ps) {j : Nat} (hj : j < ys.length) : ∃ p, ps.drop j = p :: ps.drop (j + 1) ∧ PieceIs ys[j] p := by
  induction h generalizing j with
  | nil => simp at hj
  | @cons y p ys ps h1 h2 ih =>
    cases j with
    | zero => exact ⟨p, rfl, h1⟩
    | succ j => exact ih (by simpa using hj)
theorem lex_ev {ys ps} (h : All2 ys ps) (hl : ys.length ≤ 30) : Ev (fun n => lex_Lex n (.lst 5 ys)) fun r => r = lexOut ps [] := by
  refine Ev.eq (fun n => lex_Lex_eq n ys) ?_
  have loop : ∀ (m j : Nat) (out : List D), ys.length - j = m → j ≤ ys.length → out.length ≤ 300 * j →
      Ev (fun n => lex_Lex_L0 n (.lst 5 ys) (.int .i64 (ys.length : Int)) (.int .i64 (j : Int)) (.int .i64 0) (.int .i64 0) (.int .i64 0) (.lst 5 out)) fun r =>
        r = lexOut (ps.drop j) out ∧ r.1 = true ∨ ∃ (j' : Int) (out' : List D), r = (false, [.lst 5 ys, .int .i64 (ys.length : Int), .int .i64 j', .int .i64 0, .int .i64 0, .int .i64 0, .lst 5 out']) ∧ lexOut (ps.drop j) out = pieceOut none out' [] := by
    intro m
    induction m with
    | zero =>
      intro j out hm hj ho
      refine Ev.eq (fun n => lex_Lex_L0_eq n _ _ _ _ _ _ _) (Ev.no (decide_eq_false (by omega)) (Ev.ret (.inr ⟨_, out, rfl, ?_⟩)))
      rw [List.drop_eq_nil_of_le (by rw [← all2_len h]; omega)]; rfl
    | succ m ih =>
      intro j out hm hj ho
      have hj2 : j < ys.length := by omega
      have hw : IntKind.i64.wrap ((j : Int) + 1) = ((j + 1 : Nat) : Int) := wrap_succ (by omega)
      obtain ⟨⟨R, ts⟩, hd, t, q, fx, hx, htl, hlp, _, htl2, hR⟩ := all2_get h hj2
      have hpc : Ev (fun n => lex_piece n (pieceD t q.1 q.2.1 q.2.2 fx) (.lst 5 out)) fun r => r = pieceOut R out ts := by
        refine Ev.eq (fun n => lex_piece_eq n _ _ _ _ _ _) (Ev.bindL (opiece_is fx t q.1 q.2.1 q.2.2 t.length t q (R, ts) out (Nat.le_refl _) hlp (by omega)) (fun ds h => h) fun ds h => ?_)
        cases R <;> cases h
      refine Ev.eq (fun n => lex_Lex_L0_eq n _ _ _ _ _ _ _) (Ev.yes (decide_eq_true (by omega)) (Ev.yes (in_range hj2) ?_))
      rw [get_nat hj2, hw, hd, hx]
      refine Ev.yes rfl (Ev.bindC hpc ?_)
      cases R with
      | none =>
        intro _ _ h; cases h; refine ⟨rfl, Ev.yes rfl (Ev.no rfl ?_)⟩
        have htl2 : ts.length ≤ 300 := htl2
        exact ih (j + 1) (out ++ ts) (by omega) hj2 (by simp only [List.length_append] at *; omega)
      | some q =>
        obtain ⟨a, b, c, e⟩ := q
        have he := hR a b c e rfl
        intro _ _ h; cases h; exact ⟨rfl, Ev.yes rfl (Ev.yes (by simpa [nth, D.i] using he) (Ev.ret (.inl ⟨rfl, rfl⟩)))⟩
  refine Ev.bindL (loop ys.length 0 [] rfl (Nat.zero_le _) (Nat.zero_le _)) (fun ds h => ?_) fun ds h => ?_
  · rcases h with ⟨h, _⟩ | ⟨_, _, h, _⟩
    · exact h
    · cases h
  · rcases h with ⟨_, h⟩ | ⟨j', out', h, h2⟩
    · cases h
    · cases h
      refine Ev.yes rfl (Ev.ret ?_)
      rw [List.drop_zero] at h2
      rw [h2]; simp [pieceOut, nth, D.l]
theorem rlex_ev {ys ps} (h : All2 ys ps) (hl : ys.length ≤ 30) : Ev (fun n => ref08_Lex n (.lst 5 ys)) fun r => r = lexOut ps [] := by
  refine Ev.eq (fun n => ref08_Lex_eq n ys) ?_
  have loop : ∀ (m j : Nat) (out : List D), ys.length - j = m → j ≤ ys.length → out.length ≤ 300 * j →
      Ev (fun n => ref08_Lex_L0 n (.lst 5 ys) (.int .i64 (j : Int)) (.int .i64 0) (.int .i64 0) (.int .i64 0) (.lst 5 out)) fun r =>
        r = lexOut (ps.drop j) out ∧ r.1 = true ∨ ∃ (j' : Int) (out' : List D), r = (false, [.lst 5 ys, .int .i64 j', .int .i64 0, .int .i64 0, .int .i64 0, .lst 5 out']) ∧ lexOut (ps.drop j) out = pieceOut none out' [] := by
    intro m
    induction m with
    | zero =>
      intro j out hm hj ho
      refine Ev.eq (fun n => ref08_Lex_L0_eq n _ _ _ _ _ _) (Ev.no (decide_eq_false (by omega)) (Ev.ret (.inr ⟨_, out, rfl, ?_⟩)))
      rw [List.drop_eq_nil_of_le (by rw [← all2_len h]; omega)]; rfl
    | succ m ih =>
      intro j out hm hj ho
      have hj2 : j < ys.length := by omega
      have hw : IntKind.i64.wrap ((j : Int) + 1) = ((j + 1 : Nat) : Int) := wrap_succ (by omega)
      obtain ⟨⟨R, ts⟩, hd, t, q, fx, hx, htl, hlp, _, htl2, hR⟩ := all2_get h hj2
      have hpc := rpiece_is hj2 hx t.length t q (R, ts) out (Nat.le_refl _) hlp (by omega)
      refine Ev.eq (fun n => ref08_Lex_L0_eq n _ _ _ _ _ _) (Ev.yes (decide_eq_true (by omega)) (Ev.yes (in_range hj2) ?_))
      rw [get_nat hj2, hd, hx]
      refine Ev.yes rfl (Ev.yes rfl (Ev.yes (in_range hj2) (Ev.yes rfl (Ev.yes rfl (Ev.bindL hpc (fun ds h => ?_) fun ds h => ?_)))))
      · cases R with
        | none => obtain ⟨_, _, _, h⟩ := h; cases h
        | some q =>
          obtain ⟨a, b, c, e⟩ := q
          exact .inl ⟨h, rfl⟩
      · cases R with
        | none =>
          obtain ⟨_, _, _, h⟩ := h
          cases h
          refine Ev.yes rfl ?_
          have htl2 : ts.length ≤ 300 := htl2
          have nx := ih (j + 1) (out ++ ts) (by omega) hj2 (by simp only [List.length_append] at *; omega)
          rw [← hw] at nx
          exact nx
        | some q =>
          obtain ⟨a, b, c, e⟩ := q
          cases h
  refine Ev.bindL (loop ys.length 0 [] rfl (Nat.zero_le _) (Nat.zero_le _)) (fun ds h => ?_) fun ds h => ?_
  · rcases h with ⟨h, _⟩ | ⟨_, _, h, _⟩
    · exact h
    · cases h
  · rcases h with ⟨_, h⟩ | ⟨j', out', h, h2⟩
    · cases h
    · cases h
      refine Ev.yes rfl (Ev.ret ?_)
      rw [List.drop_zero] at h2
      rw [h2]; simp [pieceOut, nth, D.l]
def whole (a b c e : Int) (all : List D) : Bool × List D := (true, [.agg [.int .i64 a, .int .i64 b, .int .i64 c], .int .i64 e, .lst 5 all])
theorem toks_append {a b : List D} (ha : Toks a) (hb : Toks b) : Toks (a ++ b) := fun y hy => (List.mem_append.1 hy).elim (ha y) (hb y)
theorem toks_nil : Toks [] := fun y hy => by simp at hy
theorem toks_plain {ts : List D} (h : Toks ts) : ts.all plainD = true := List.all_eq_true.2 fun y hy => by
  obtain ⟨k, t, a, b, c, rfl⟩ := h y hy
  rfl
theorem plain3 {sk : Sk} {e : Int} {ts : List D} {xs : List D} (h : Toks ts) : plainDs sk [.agg xs, .int .i64 e, .lst 5 ts] = true := by simp [plainDs, toks_plain h]
theorem lexOut_toks {ys ps} (h : All2 ys ps) : ∀ {out : List D}, Toks out → out.length + 300 * ys.length ≤ 12000 → ∃ a b c e all, lexOut ps out = whole a b c e all ∧ Toks all ∧ all.length ≤ 12000 := by
  induction h with
  | nil =>
    intro out ht hl
    exact ⟨0, 0, 0, 0, out ++ [], rfl, by simpa using ht, by simp; omega⟩
  | @cons y p ys ps hp _ ih =>
    intro out ht hl
    obtain ⟨R, ts⟩ := p
    obtain ⟨t, q, fx, _, _, _, h1, h2, _⟩ := hp
    rw [List.length_cons] at hl
    have h2 : ts.length ≤ 300 := h2
    cases R with
    | none => exact ih (toks_append ht h1) (by rw [List.length_append]; omega)
    | some q =>
      obtain ⟨qa, qb, qc, qe⟩ := q
      exact ⟨qa, qb, qc, qe, [], rfl, toks_nil, by simp⟩
theorem lexWords_plain {xs : List D} (hp : ∀ y ∈ xs, ∃ L, IsP L y) : Ev (fun n => law08_LexWords n (.lst 5 xs)) fun r => r = (true, [.bool true]) := by
  refine Ev.eq (fun n => law08_LexWords_eq n xs) (evCall awake08 (Ev.yes rfl (Ev.no rfl (Ev.bindC (few_ev hp) ?_))))
  rintro _ _ ⟨ys, h, hys, hyl⟩; cases h; refine ⟨rfl, Ev.yes rfl ?_⟩
  obtain ⟨ps, hps⟩ := all2_of hys
  obtain ⟨a, b, c, e, all, hw, hall, hal⟩ := lexOut_toks hps toks_nil (by rw [List.length_nil]; omega)
  have h0 := lex_ev hps (by omega)
  have h1 := rlex_ev hps (by omega)
  rw [hw] at h0 h1
  refine evCall h0 (Ev.yes (and_tt rfl (plain3 hall)) (evCall h1 (Ev.yes (and_tt rfl (plain3 hall)) (Ev.no (by simp [nth, D.i]) (Ev.no ?_ (Ev.no (by simp [nth, D.l]) ?_))))))
  · show (!((a == a) && ((b == b) && ((c == c) && true)))) = false
    simp
  have loop : ∀ (m j : Nat), all.length - j = m → j ≤ all.length →
      Ev (fun n => law08_LexWords_L0 n (.int .i64 (all.length : Int)) (.int .i64 (j : Int)) (.lst 5 all) (.lst 5 all)) fun r => ∃ j' : Int, r = (false, [.int .i64 (all.length : Int), .int .i64 j', .lst 5 all, .lst 5 all]) := by
    intro m
    induction m with
    | zero => intro j hm hj; exact Ev.eq (fun n => law08_LexWords_L0_eq n _ _ _ _) (Ev.no (decide_eq_false (by omega)) (Ev.ret ⟨_, rfl⟩))
    | succ m ih =>
      intro j hm hj
      have hj2 : j < all.length := by omega
      have hw : IntKind.i64.wrap ((j : Int) + 1) = ((j + 1 : Nat) : Int) := wrap_succ (by omega)
      obtain ⟨k, t, x, y, z, hx⟩ := hall all[j] (List.getElem_mem hj2)
      refine Ev.eq (fun n => law08_LexWords_L0_eq n _ _ _ _) (Ev.yes (decide_eq_true (by omega)) (Ev.yes (in_range hj2) ?_))
      rw [get_nat hj2, hx, hw]
      refine Ev.yes rfl (Ev.yes (in_range hj2) (Ev.yes rfl (Ev.yes rfl (Ev.yes (in_range hj2) (Ev.yes rfl (Ev.yes rfl (Ev.yes (in_range hj2) (Ev.yes rfl (Ev.yes rfl (Ev.no ?_ ?_))))))))))
      · show (!((k == k) && ((t == t) && ((x == x) && ((y == y) && ((z == z) && true)))))) = false
        simp
      · exact ih (j + 1) (by omega) hj2
  refine Ev.bindL (loop all.length 0 rfl (Nat.zero_le _)) (fun ds h => by obtain ⟨_, h⟩ := h; cases h) fun ds h => ?_
  obtain ⟨j', h⟩ := h
  cases h
  exact Ev.yes rfl (Ev.ret rfl)
end Go.Proofs.Ytmklmhdgnokcmaa
