/- Modules are written as their words; the whole text. -/
import Derived.Test.YtalibicpmfbieaaGreatDoorXpH
namespace Go.Proofs.YtalibicpmfbieaaGreatDoor
open Go.AE
set_option linter.unusedVariables false
set_option linter.unusedSimpArgs false
theorem paramQ {m : Nat} {x y : D} (h : xP x) (h' : OI m x y) : Pr (fun n => ast_printer_param n (expTy ty_iiiissbl6l6l8l14l14l5l5 y)) (paW x) := by
  rw [oi_exp h']
  obtain ⟨nm, e, rfl, hn, he⟩ := h
  obtain ⟨m', k', nm', ty', sg', es', fs', bs, its, els, ps, qs, bs', its', els', ps', qs', _, e, rfl, _⟩ := oi_form h'
  cases e
  exact paramP (tab_short (T := nameT) rfl hn) (ty := parT) (by decide) he 2 false [] bs' its' els' ps' qs'
theorem paramsP {xs ys pp qq ii : List D} {nm : List UInt8} {i k l : Int} {m : Nat} (hn : xs.length ≤ 10) (h : ∀ x ∈ xs, xP x) (hR : Rl (OI m) xs ys) (f : Bool) (s : List UInt8) (hb : s.length + 14 * (lW paW xs).length ≤ 68000000000) :
    Ev (fun n => ast_printer_module_L0 n (.lst 14 ys) (.int .i64 (ys.length : Int)) (.int .i64 0) (.bool f) (.str nm) (.int .i64 i) (.int .i64 k) (.int .i64 l) (.lst 14 pp) (.lst 14 qq) (.lst 14 ii) (.lst 1 (byteD s))) fun r => ∃ st : Bool × List UInt8, r = (false, [.lst 14 ys, .int .i64 (ys.length : Int), .int .i64 (ys.length : Int), .bool st.1, .str nm, .int .i64 i, .int .i64 k, .int .i64 l, .lst 14 pp, .lst 14 qq, .lst 14 ii, .lst 1 (byteD st.2)]) ∧ Wr (f, s) st (lW paW xs) := by
  have el := hR.1
  · refine prComma (xs := xs) (w := paW) (T := fun j f s n => ast_printer_module_L0 n (.lst 14 ys) (.int .i64 (ys.length : Int)) (.int .i64 j) (.bool f) (.str nm) (.int .i64 i) (.int .i64 k) (.int .i64 l) (.lst 14 pp) (.lst 14 qq) (.lst 14 ii) (.lst 1 (byteD s))) (by omega) (by show s.length + _ ≤ _; omega) (fun j f s hj hb K => ?_) fun f2 s2 W => ?_
    · have hj' : j < ys.length := by omega
      have r := hR.2 j hj hj'
      have p1 := paramQ (h _ (List.getElem_mem hj)) r
      refine Ev.eq (fun n => ast_printer_module_L0_eq n _ _ _ _ _ _ _ _ _ _ _ _) (Ev.yes (decide_eq_true (by omega)) (Ev.yes (in_range hj') ?_))
      rw [get_nat hj']
      refine Ev.yes (oi_ok r) (Ev.test (fun h0 => ?_) fun h0 => ?_)
      · have h0 := of_decide_eq_true h0
        rw [show (j == 0) = false from beq_eq_false_iff_ne.2 (by omega)] at hb K
        simp only [cond_false, List.length_append, List.length_cons, List.length_nil] at hb
        (refine Ev.bindC ((word_pr (ws := [(3, [44])]) (shortW_of rfl) (by decide) f s (by simp only [List.length_cons, List.length_nil]; omega))) ?_; rintro _ _ ⟨⟨f1, s1⟩, h, w1⟩; cases h; have lw1 := Wr.len w1; (try simp only [List.length_append, List.length_cons, List.length_nil] at lw1); refine ⟨rfl, Ev.yes (and_tt rfl (plainB _ _ _)) ?_⟩)
        (refine Ev.bindC (p1 f1 s1 (by omega)) ?_; rintro _ _ ⟨⟨f2, s2⟩, h, w2⟩; cases h; have lw2 := Wr.len w2; (try simp only [List.length_append, List.length_cons, List.length_nil] at lw2); refine ⟨rfl, Ev.yes rfl ?_⟩)
        exact K f2 s2 (w1.app w2)
      · have h0 := of_decide_eq_false h0
        have : j = 0 := by omega
        subst this
        (refine Ev.bindC (p1 f s hb) ?_; rintro _ _ ⟨⟨f2, s2⟩, h, w2⟩; cases h; have lw2 := Wr.len w2; (try simp only [List.length_append, List.length_cons, List.length_nil] at lw2); refine ⟨rfl, Ev.yes rfl ?_⟩)
        exact K f2 s2 w2
    · exact Ev.eq (fun n => ast_printer_module_L0_eq n _ _ _ _ _ _ _ _ _ _ _ _) (Ev.no (decide_eq_false (by omega)) (Ev.ret ⟨(f2, s2), by rw [el], W⟩))
theorem portsP {xs ys pp qq ii : List D} {nm : List UInt8} {i k l : Int} {m : Nat} (hn : xs.length ≤ 10) (h : ∀ x ∈ xs, xN portN x) (hR : Rl (OI m) xs ys) (f : Bool) (s : List UInt8) (hb : s.length + 14 * (lW poW xs).length ≤ 68000000000) :
    Ev (fun n => ast_printer_module_L2 n (.lst 14 ys) (.int .i64 (ys.length : Int)) (.int .i64 0) (.bool f) (.str nm) (.int .i64 i) (.int .i64 k) (.int .i64 l) (.lst 14 pp) (.lst 14 qq) (.lst 14 ii) (.lst 1 (byteD s))) fun r => ∃ st : Bool × List UInt8, r = (false, [.lst 14 ys, .int .i64 (ys.length : Int), .int .i64 (ys.length : Int), .bool st.1, .str nm, .int .i64 i, .int .i64 k, .int .i64 l, .lst 14 pp, .lst 14 qq, .lst 14 ii, .lst 1 (byteD st.2)]) ∧ Wr (f, s) st (lW poW xs) := by
  have el := hR.1
  · refine prComma (xs := xs) (w := poW) (T := fun j f s n => ast_printer_module_L2 n (.lst 14 ys) (.int .i64 (ys.length : Int)) (.int .i64 j) (.bool f) (.str nm) (.int .i64 i) (.int .i64 k) (.int .i64 l) (.lst 14 pp) (.lst 14 qq) (.lst 14 ii) (.lst 1 (byteD s))) (by omega) (by show s.length + _ ≤ _; omega) (fun j f s hj hb K => ?_) fun f2 s2 W => ?_
    · have hj' : j < ys.length := by omega
      have r := hR.2 j hj hj'
      have p1 := netP (T := portN) (by decide) (h _ (List.getElem_mem hj)) r
      refine Ev.eq (fun n => ast_printer_module_L2_eq n _ _ _ _ _ _ _ _ _ _ _ _) (Ev.yes (decide_eq_true (by omega)) (Ev.yes (in_range hj') ?_))
      rw [get_nat hj']
      refine Ev.yes (oi_ok r) (Ev.test (fun h0 => ?_) fun h0 => ?_)
      · have h0 := of_decide_eq_true h0
        rw [show (j == 0) = false from beq_eq_false_iff_ne.2 (by omega)] at hb K
        simp only [cond_false, List.length_append, List.length_cons, List.length_nil] at hb
        (refine Ev.bindC ((word_pr (ws := [(3, [44])]) (shortW_of rfl) (by decide) f s (by simp only [List.length_cons, List.length_nil]; omega))) ?_; rintro _ _ ⟨⟨f1, s1⟩, h, w1⟩; cases h; have lw1 := Wr.len w1; (try simp only [List.length_append, List.length_cons, List.length_nil] at lw1); refine ⟨rfl, Ev.yes (and_tt rfl (plainB _ _ _)) ?_⟩)
        (refine Ev.bindC (p1 f1 s1 (by omega)) ?_; rintro _ _ ⟨⟨f2, s2⟩, h, w2⟩; cases h; have lw2 := Wr.len w2; (try simp only [List.length_append, List.length_cons, List.length_nil] at lw2); refine ⟨rfl, Ev.yes rfl ?_⟩)
        exact K f2 s2 (w1.app w2)
      · have h0 := of_decide_eq_false h0
        have : j = 0 := by omega
        subst this
        (refine Ev.bindC (p1 f s hb) ?_; rintro _ _ ⟨⟨f2, s2⟩, h, w2⟩; cases h; have lw2 := Wr.len w2; (try simp only [List.length_append, List.length_cons, List.length_nil] at lw2); refine ⟨rfl, Ev.yes rfl ?_⟩)
        exact K f2 s2 w2
    · exact Ev.eq (fun n => ast_printer_module_L2_eq n _ _ _ _ _ _ _ _ _ _ _ _) (Ev.no (decide_eq_false (by omega)) (Ev.ret ⟨(f2, s2), by rw [el], W⟩))
theorem name_gw : ∀ k : Nat, k ≤ 8 → gw [109, 48 + UInt8.ofNat k] := by decide +kernel
/-- A module: its words; the last is the end of a line. -/
theorem moduleP {k : Nat} (hk : k ≤ 8) {x y : D} (h : xM k x) (h' : OM x y) (f : Bool) (s : List UInt8) (hb : s.length + 14 * (wM x).length ≤ 68000000000) :
    Ev (fun n => ast_printer_module n (expTy ty_siiil14l14l14 y) (.bool f) (.lst 1 (byteD s))) fun r => ∃ st : Bool × List UInt8, r = (true, [.bool st.1, .lst 1 (byteD st.2)]) ∧ Wr (f, s) st (wM x) ∧ ∃ s', st.2 = s' ++ [10] := by
  obtain ⟨ps, qs, its, rfl, l1, l2, l3, h1, h2, h3⟩ := h
  obtain ⟨nm, i, kk, l, ps2, qs2, its2, ps', qs', its', e, rfl, _, _, _, _, hP, hQ, hI⟩ := h'
  have hg := name_gw k hk
  generalize [109, 48 + UInt8.ofNat k] = nm0 at e hb hg ⊢
  cases e
  have p3 : Pr (fun n => ast_printer_items n (.lst 14 its')) (its.flatMap (wI 4)) := itemsG hI.1 (by omega) fun j hj hj' => ⟨itemP 4 _ _ 8 (h3 _ (List.getElem_mem hj)) (hI.2 j hj hj'), oi_ok (hI.2 j hj hj')⟩
  rw [wM_M] at hb ⊢
  unfold mW at hb ⊢
  have J : ∀ (f1 : Bool) (s1 : List UInt8) (u : List Tk), Wr (f, s) (f1, s1) u → s1.length + 14 * ([(3, [40])] ++ (lW poW qs ++ ([(3, [41]), (3, [59])] ++ (its.flatMap (wI 4) ++ [(1, emodT)]))) : List Tk).length ≤ 68000000000 →
      Ev (fun n => ast_printer_module_j1 n f1 nm i kk l ps' qs' its' (byteD s1)) fun r => ∃ st : Bool × List UInt8, r = (true, [.bool st.1, .lst 1 (byteD st.2)]) ∧ Wr (f, s) st (u ++ ([(3, [40])] ++ (lW poW qs ++ ([(3, [41]), (3, [59])] ++ (its.flatMap (wI 4) ++ [(1, emodT)]))))) ∧ ∃ s', st.2 = s' ++ [10] := by
    intro f1 s1 u hu hb
    simp only [List.length_append, List.length_cons, List.length_nil] at hb
    refine evDf (fun n => ast_printer_module_j1_def n _ _ _ _ _ _ _ _ _) ?_
    (refine Ev.bindC ((word_pr (ws := [(3, [40])]) (shortW_of rfl) (by decide) f1 s1 (by simp only [List.length_cons, List.length_nil]; omega))) ?_; rintro _ _ ⟨⟨f2, s2⟩, h, w2⟩; cases h; have lw2 := Wr.len w2; (try simp only [List.length_append, List.length_cons, List.length_nil] at lw2); refine ⟨rfl, Ev.yes (and_tt rfl (plainB _ _ _)) ?_⟩)
    refine Ev.bindL (portsP (xs := qs) (ys := qs') (pp := ps') (qq := qs') (ii := its') (nm := nm) (i := i) (k := kk) (l := l) (by omega) h2 hQ f2 s2 (by omega)) (fun ds h => by obtain ⟨_, h, _⟩ := h; cases h) fun ds h => ?_
    obtain ⟨⟨f3, s3⟩, h, w3⟩ := h
    cases h
    have l3 := w3.len
    refine Ev.yes rfl ?_
    (refine Ev.bindC ((lineP (ws := [(3, [41]), (3, [59])]) (shortW_of rfl) (by decide) (by decide) f3 s3 (by simp only [List.length_cons, List.length_nil]; omega))) ?_; rintro _ _ ⟨⟨f4, s4⟩, h, w4⟩; cases h; have lw4 := Wr.len w4; (try simp only [List.length_append, List.length_cons, List.length_nil] at lw4); refine ⟨rfl, Ev.yes (and_tt rfl (plainB _ _ _)) ?_⟩)
    (refine Ev.bindC (p3 f4 s4 (by omega)) ?_; rintro _ _ ⟨⟨f5, s5⟩, h, w5⟩; cases h; have lw5 := Wr.len w5; (try simp only [List.length_append, List.length_cons, List.length_nil] at lw5); refine ⟨rfl, Ev.yes rfl ?_⟩)
    refine Ev.bindC (lineX (ws := [(1, emodT)]) (shortW_of rfl) (by decide) (by decide) f5 s5 (by simp only [List.length_cons, List.length_nil]; omega)) ?_
    rintro _ _ ⟨⟨f6, s6⟩, h, w6, hs6⟩; cases h
    exact ⟨rfl, Ev.yes (and_tt rfl (plainB _ _ _)) (Ev.ret ⟨(f6, s6), rfl, hu.app (w2.app (w3.app (w4.app (w5.app w6)))), hs6⟩)⟩
  show Ev (fun n => ast_printer_module n (AM nm i kk l ps' qs' its') (.bool f) (.lst 1 (byteD s))) _
  refine Ev.eq (fun n => ast_printer_module_eq n nm i kk l ps' qs' its' f (byteD s)) ?_
  generalize ([(3, [40])] ++ (lW poW qs ++ ([(3, [41]), (3, [59])] ++ (its.flatMap (wI 4) ++ [(1, emodT)]))) : List Tk) = R at hb J ⊢
  have hb2 : s.length + 14 * (2 + ((bif ps.isEmpty then [] else [(3, [35]), (3, [40])] ++ (lW paW ps ++ [(3, [41])]) : List Tk).length + R.length)) ≤ 68000000000 := by
    rw [List.length_append, List.length_append] at hb; simpa only [List.length_cons, List.length_nil, Nat.zero_add] using hb
  clear hb
  (refine Ev.bindC ((word_pr (ws := [(1, modT'), (1, nm)]) (shortW_cons (by decide) (shortW_cons hg (shortW_of rfl))) (by simp) f s (by simp only [List.length_cons, List.length_nil]; omega))) ?_; rintro _ _ ⟨⟨f1, s1⟩, h, w1⟩; cases h; have lw1 := Wr.len w1; (try simp only [List.length_append, List.length_cons, List.length_nil] at lw1); refine ⟨rfl, Ev.yes (and_tt rfl (plainB _ _ _)) ?_⟩)
  have el := hP.1
  refine Ev.test (fun h0 => ?_) fun h0 => ?_
  · have h0 := of_decide_eq_true h0
    have : ps.isEmpty = false := by
      cases ps with
      | nil => simp at el; omega
      | cons => rfl
    rw [this] at hb2 ⊢
    simp only [cond_false, List.length_append, List.length_cons, List.length_nil] at hb2
    (refine Ev.bindC ((word_pr (ws := [(3, [35]), (3, [40])]) (shortW_of rfl) (by decide) f1 s1 (by simp only [List.length_cons, List.length_nil]; omega))) ?_; rintro _ _ ⟨⟨f2, s2⟩, h, w2⟩; cases h; have lw2 := Wr.len w2; (try simp only [List.length_append, List.length_cons, List.length_nil] at lw2); refine ⟨rfl, Ev.yes (and_tt rfl (plainB _ _ _)) ?_⟩)
    refine Ev.bindL (paramsP (xs := ps) (ys := ps') (pp := ps') (qq := qs') (ii := its') (nm := nm) (i := i) (k := kk) (l := l) (by omega) h1 hP f2 s2 (by omega)) (fun ds h => by obtain ⟨_, h, _⟩ := h; cases h) fun ds h => ?_
    obtain ⟨⟨f3, s3⟩, h, w3⟩ := h
    cases h
    have l3 := w3.len
    refine Ev.yes rfl ?_
    (refine Ev.bindC ((word_pr (ws := [(3, [41])]) (shortW_of rfl) (by decide) f3 s3 (by simp only [List.length_cons, List.length_nil]; omega))) ?_; rintro _ _ ⟨⟨f4, s4⟩, h, w4⟩; cases h; have lw4 := Wr.len w4; (try simp only [List.length_append, List.length_cons, List.length_nil] at lw4); refine ⟨rfl, Ev.yes (and_tt rfl (plainB _ _ _)) ?_⟩)
    refine (J f4 s4 _ (w1.app (w2.app (w3.app w4))) (by omega)).mono fun r ⟨st, h1, h2, h3⟩ => ⟨st, h1, ?_, h3⟩
    simpa using h2
  · have h0 := of_decide_eq_false h0
    have : ps = [] := List.length_eq_zero_iff.1 (by omega)
    subst this
    exact J f1 s1 _ w1 (by omega)
theorem okB_byteD (s : List UInt8) : okBytes (byteD s) = true := by
  induction s with
  | nil => rfl
  | cons c s ih =>
    show (decide (0 ≤ (c.toNat : Int)) && decide ((c.toNat : Int) < 256) && okBytes (byteD s)) = true
    have := c.toNat_lt
    rw [ih, decide_eq_true (by omega), decide_eq_true (by omega)]; rfl
theorem toB_byteD (s : List UInt8) : (byteD s).map toByte = s := by
  induction s with
  | nil => rfl
  | cons c s ih =>
    show UInt8.ofNat (c.toNat : Int).toNat :: (byteD s).map toByte = c :: s
    rw [ih, Int.toNat_natCast, UInt8.ofNat_toNat]
/-- The whole text: its words. -/
theorem text_ev {ms ys : List D} (hn : ms.length ≤ 3) (h : xMs ms) (hR : Rl OM ms ys) : Ev (fun n => ast_Text n (.lst 7 ys)) fun r => ∃ st, r = (true, [.str st.2]) ∧ Wr (true, []) st (ms.flatMap wM) ∧ (ms ≠ [] → ∃ s', st.2 = s' ++ [10]) := by
  have hL : ∀ x ∈ ms, (wM x).length ≤ 230000000 := fun x hx => by obtain ⟨k, hk⟩ := xM_of h hx; exact wM_len hk
  have hm := flat_len (w := wM) hL
  have hm2 : ms.length * 230000000 ≤ 3 * 230000000 := Nat.mul_le_mul_right _ hn
  have el := hR.1
  refine Ev.eq (fun n => ast_Text_eq n ys) (Ev.bindL (Q := fun r => ∃ st : Bool × List UInt8, r = (false, [.lst 7 ys, .int .i64 (ys.length : Int), .int .i64 (ys.length : Int), .bool st.1, .lst 1 (byteD st.2)]) ∧ Wr (true, []) st (ms.flatMap wM) ∧ (ms ≠ [] → ∃ s', st.2 = s' ++ [10])) ?_ (fun ds h => by obtain ⟨_, h, _⟩ := h; cases h) fun ds h => ?_)
  · have aux : ∀ (m j : Nat) (f1 : Bool) (s1 : List UInt8), ms.length - j = m → j ≤ ms.length → Wr (true, []) (f1, s1) ((ms.take j).flatMap wM) → (0 < j → ∃ s', s1 = s' ++ [10]) → s1.length + 14 * ((ms.drop j).flatMap wM).length ≤ 68000000000 →
        Ev (fun n => ast_Text_L0 n (.lst 7 ys) (.int .i64 (ys.length : Int)) (.int .i64 (j : Int)) (.bool f1) (.lst 1 (byteD s1))) fun r => ∃ st : Bool × List UInt8, r = (false, [.lst 7 ys, .int .i64 (ys.length : Int), .int .i64 (ys.length : Int), .bool st.1, .lst 1 (byteD st.2)]) ∧ Wr (true, []) st (ms.flatMap wM) ∧ (ms ≠ [] → ∃ s', st.2 = s' ++ [10]) := by
      intro m
      induction m with
      | zero =>
        intro j f1 s1 hm hj hw h0 _
        have : j = ms.length := by omega
        subst this
        rw [List.take_length] at hw
        exact Ev.eq (fun n => ast_Text_L0_eq n _ _ _ _ _) (Ev.no (decide_eq_false (by omega)) (Ev.ret ⟨(f1, s1), by rw [el], hw, fun hne => h0 (List.length_pos_iff.2 hne)⟩))
      | succ m ih =>
        intro j f1 s1 hm hj hw h0 hb
        have hlt : j < ms.length := by omega
        have hlt' : j < ys.length := by omega
        rw [drop_cons hlt, List.flatMap_cons, List.length_append] at hb
        have r := hR.2 j hlt hlt'
        refine Ev.eq (fun n => ast_Text_L0_eq n _ _ _ _ _) (Ev.yes (decide_eq_true (by omega)) (Ev.yes (in_range hlt') ?_))
        rw [get_nat hlt']
        refine Ev.yes (by obtain ⟨_, _, _, _, _, _, _, _, _, _, _, e, _⟩ := r; rw [e]; rfl) (Ev.bindC (moduleP (by omega) (h j hlt) r f1 s1 (by omega)) ?_)
        rintro _ _ ⟨⟨f2, s2⟩, h, w2, h10⟩; cases h
        have l2 := w2.len
        refine ⟨rfl, Ev.yes rfl ?_⟩
        rw [wrap_succ (by omega)]
        refine ih (j + 1) f2 s2 (by omega) (by omega) ?_ (fun _ => h10) (by omega)
        have W := hw.app w2
        have e : (ms.take (j + 1)).flatMap wM = (ms.take j).flatMap wM ++ wM ms[j] := by
          rw [List.take_add_one, List.getElem?_eq_getElem hlt, Option.toList_some, List.flatMap_append]; simp
        rw [e]; exact W
    exact aux ms.length 0 true [] rfl (Nat.zero_le _) (Wr.nil _) (fun h => absurd h (by decide)) (by simp only [List.drop_zero, List.length_nil]; omega)
  · obtain ⟨⟨f2, s2⟩, h, w2, h10⟩ := h
    cases h
    refine Ev.yes rfl (Ev.yes (by show (okBytes (byteD s2) && true && true) = true; rw [okB_byteD]; rfl) (Ev.ret ⟨(f2, s2), ?_, w2, h10⟩))
    show (true, [D.str ((byteD s2).map toByte)]) = _
    rw [toB_byteD]
end Go.Proofs.YtalibicpmfbieaaGreatDoor
