/- An expression is written as its words. -/
import Derived.Test.YtalibicpmfbieaaGreatDoorXpA
namespace Go.Proofs.YtalibicpmfbieaaGreatDoor
open Go.AE
set_option linter.unusedVariables false
set_option linter.unusedSimpArgs false
theorem shortW_of {ws : List Tk} (h : (ws.all fun p => gwB p.2) = true) : shortW ws := fun p hp => List.all_eq_true.1 h p hp
theorem shortW_cons {p : Tk} {ws : List Tk} (h : gw p.2) (h' : shortW ws) : shortW (p :: ws) := fun q hq => by
  rcases List.mem_cons.1 hq with rfl | hq
  · exact h
  · exact h' q hq
theorem tab_short {T : List (List UInt8)} (h : T.all gwB = true) {t : List UInt8} (ht : t ∈ T) : gw t := List.all_eq_true.1 h t ht
def boG (w : D → List Tk) (es : List D) : List Tk := match es with
  | [] => []
  | [x] => [(3, [91])] ++ (w x ++ [(3, [93])])
  | x :: y :: _ => [(3, [91])] ++ (w x ++ ([(3, [58])] ++ (w y ++ [(3, [93])])))
theorem boG_4 (es : List D) : boG (wE 4) es = boW es := by
  match es with
  | [] => rfl
  | [x] => rfl
  | x :: y :: _ => rfl
section
variable {d : Nat} (hE : ∀ x, wfE d x → Pr (fun n => ast_printer_expr n x) (wE d x))
include hE
theorem exprP' {x : D} (hx : wfE d x) : Pr (fun n => ast_printer_expr n (expTy ty_iiiisl6 x)) (wE d x) := by rw [(wfx hx).1]; exact hE x hx
theorem argP {x : D} (hx : wfE d x) : Pr (fun n => ast_printer_arg n (expTy ty_iiiisl6 x)) (aW (wE d) x) := by
  rw [(wfx hx).1]
  have hp := hE x hx
  cases d with
  | zero => exact hx.elim
  | succ d =>
    obtain ⟨k, t, xs, rfl, _⟩ := hx
    intro f s hb
    have J : ∀ g, opE (E k t xs) = g → Ev (fun n => ast_printer_arg_j1 n g f (byteD s) k 0 0 0 t xs) fun r => ∃ st : Bool × List UInt8, r = (true, [.bool st.1, .lst 1 (byteD st.2)]) ∧ Wr (f, s) st (aW (wE (d + 1)) (E k t xs)) := by
      intro g hg
      refine evDf (fun n => ast_printer_arg_j1_def n _ _ _ _ _ _ _ _ _) ?_
      unfold aW at hb ⊢
      rw [hg] at hb ⊢
      cases g with
      | true =>
        simp only [cond_true, List.length_append, List.length_cons, List.length_nil] at hb
        refine Ev.yes rfl ?_
        (refine Ev.bindC ((word_pr (ws := [(3, [40])]) (shortW_of rfl) (by decide) f s (by simp only [List.length_cons, List.length_nil]; omega))) ?_; rintro _ _ ⟨⟨f1, s1⟩, h, w1⟩; cases h; have lw1 := Wr.len w1; (try simp only [List.length_append, List.length_cons, List.length_nil] at lw1); refine ⟨rfl, Ev.yes (and_tt rfl (plainB _ _ _)) ?_⟩)
        (refine Ev.bindC (hp f1 s1 (by omega)) ?_; rintro _ _ ⟨⟨f2, s2⟩, h, w2⟩; cases h; have lw2 := Wr.len w2; (try simp only [List.length_append, List.length_cons, List.length_nil] at lw2); refine ⟨rfl, Ev.yes rfl ?_⟩)
        (refine Ev.bindC ((word_pr (ws := [(3, [41])]) (shortW_of rfl) (by decide) f2 s2 (by simp only [List.length_cons, List.length_nil]; omega))) ?_; rintro _ _ ⟨⟨f3, s3⟩, h, w3⟩; cases h; have lw3 := Wr.len w3; (try simp only [List.length_append, List.length_cons, List.length_nil] at lw3); refine ⟨rfl, Ev.yes (and_tt rfl (plainB _ _ _)) ?_⟩)
        exact Ev.ret ⟨(f3, s3), rfl, w1.app (w2.app w3)⟩
      | false =>
        simp only [cond_false] at hb
        refine Ev.no rfl ?_
        (refine Ev.bindC (hp f s hb) ?_; rintro _ _ ⟨⟨f2, s2⟩, h, w2⟩; cases h; have lw2 := Wr.len w2; (try simp only [List.length_append, List.length_cons, List.length_nil] at lw2); refine ⟨rfl, Ev.yes rfl ?_⟩)
        exact Ev.ret ⟨(f2, s2), rfl, w2⟩
    refine Ev.eq (fun n => ast_printer_arg_eq n k 0 0 0 t xs f (byteD s)) ?_
    have e : opE (E k t xs) = (k == 3 || (k == 4 || k == 5)) := rfl
    refine Ev.test (fun h => J true (by rw [e, show (k == 3) = true from h]; rfl)) fun h => Ev.test (fun h' => J true (by rw [e, show (k == 3) = false from h, show (k == 4) = true from h']; rfl)) fun h' => J (k == 5) (by rw [e, show (k == 3) = false from h, show (k == 4) = false from h']; rfl)
theorem listLoopP {xs : List D} (hn : xs.length ≤ 100) (hx : ∀ x ∈ xs, wfE d x) : ∀ (m j : Nat) (f : Bool) (s : List UInt8), xs.length - j = m → j ≤ xs.length →
    s.length + 14 * ((bif j == 0 || j == xs.length then [] else [(3, [44])]) ++ lW (wE d) (xs.drop j) : List Tk).length ≤ 68000000000 →
    Ev (fun n => ast_printer_list_L0 n (.lst 6 xs) (.int .i64 (xs.length : Int)) (.int .i64 (j : Int)) (.bool f) (.lst 1 (byteD s))) fun r =>
      ∃ st : Bool × List UInt8, r = (false, [.lst 6 xs, .int .i64 (xs.length : Int), .int .i64 (xs.length : Int), .bool st.1, .lst 1 (byteD st.2)]) ∧ Wr (f, s) st ((bif j == 0 || j == xs.length then [] else [(3, [44])]) ++ lW (wE d) (xs.drop j)) := by
  intro m
  induction m with
  | zero =>
    intro j f s hm hj hb
    have : j = xs.length := by omega
    subst this
    refine Ev.eq (fun n => ast_printer_list_L0_eq n _ _ _ _ _) (Ev.no (decide_eq_false (by omega)) (Ev.ret ⟨(f, s), rfl, ?_⟩))
    rw [beq_self_eq_true, Bool.or_true, List.drop_length]
    exact Wr.nil _
  | succ m ih =>
    intro j f s hm hj hb
    have hlt : j < xs.length := by omega
    have hw := hx xs[j] (List.getElem_mem hlt)
    have hp := exprP' hE hw
    have hnl : (j == xs.length) = false := beq_eq_false_iff_ne.2 (by omega)
    have hnz : (j + 1 == 0) = false := beq_eq_false_iff_ne.2 (by omega)
    have sp : lW (wE d) (xs.drop j) = wE d xs[j] ++ ((bif j + 1 == 0 || j + 1 == xs.length then [] else [(3, [44])]) ++ lW (wE d) (xs.drop (j + 1))) := by
      rw [drop_cons hlt, hnz, Bool.false_or]
      cases hd : xs.drop (j + 1) with
      | nil =>
        have : j + 1 = xs.length := by have := congrArg List.length hd; simp at this; omega
        rw [this, beq_self_eq_true]
        show wE d xs[j] = wE d xs[j] ++ ([] ++ [])
        simp
      | cons y r =>
        have : (j + 1 == xs.length) = false := by
          have := congrArg List.length hd
          simp only [List.length_drop, List.length_cons] at this
          exact beq_eq_false_iff_ne.2 (by omega)
        rw [this]; rfl
    rw [sp, hnl, Bool.or_false] at hb ⊢
    have fin : ∀ (f1 : Bool) (s1 : List UInt8) (u : List Tk), Wr (f, s) (f1, s1) u → s1.length + 14 * ((bif j + 1 == 0 || j + 1 == xs.length then [] else [(3, [44])]) ++ lW (wE d) (xs.drop (j + 1)) : List Tk).length ≤ 68000000000 →
        Ev (fun n => ast_printer_list_L0 n (.lst 6 xs) (.int .i64 (xs.length : Int)) (.int .i64 (IntKind.i64.wrap ((j : Int) + 1))) (.bool f1) (.lst 1 (byteD s1))) fun r =>
          ∃ st : Bool × List UInt8, r = (false, [.lst 6 xs, .int .i64 (xs.length : Int), .int .i64 (xs.length : Int), .bool st.1, .lst 1 (byteD st.2)]) ∧ Wr (f, s) st (u ++ ((bif j + 1 == 0 || j + 1 == xs.length then [] else [(3, [44])]) ++ lW (wE d) (xs.drop (j + 1)))) := by
      intro f1 s1 u hu hb
      rw [wrap_succ (by omega)]
      exact (ih (j + 1) f1 s1 (by omega) hlt hb).mono fun r ⟨st, h1, h2⟩ => ⟨st, h1, hu.app h2⟩
    generalize ((bif j + 1 == 0 || j + 1 == xs.length then [] else [(3, [44])]) ++ lW (wE d) (xs.drop (j + 1)) : List Tk) = rest at hb fin ⊢
    refine Ev.eq (fun n => ast_printer_list_L0_eq n _ _ _ _ _) (Ev.yes (decide_eq_true (by omega)) (Ev.yes (in_range hlt) ?_))
    rw [get_nat hlt]
    refine Ev.yes (okX hw) (Ev.test (fun h0 => ?_) fun h0 => ?_)
    · have h0 := of_decide_eq_true h0
      rw [show (j == 0) = false from beq_eq_false_iff_ne.2 (by omega)] at hb ⊢
      simp only [cond_false, List.length_append, List.length_cons, List.length_nil] at hb
      (refine Ev.bindC ((word_pr (ws := [(3, [44])]) (shortW_of rfl) (by decide) f s (by simp only [List.length_cons, List.length_nil]; omega))) ?_; rintro _ _ ⟨⟨f1, s1⟩, h, w1⟩; cases h; have lw1 := Wr.len w1; (try simp only [List.length_append, List.length_cons, List.length_nil] at lw1); refine ⟨rfl, Ev.yes (and_tt rfl (plainB _ _ _)) ?_⟩)
      (refine Ev.bindC (hp f1 s1 (by omega)) ?_; rintro _ _ ⟨⟨f2, s2⟩, h, w2⟩; cases h; have lw2 := Wr.len w2; (try simp only [List.length_append, List.length_cons, List.length_nil] at lw2); refine ⟨rfl, Ev.yes rfl ?_⟩)
      refine (fin f2 s2 _ (w1.app w2) (by omega)).mono fun r ⟨st, h1, h2⟩ => ⟨st, h1, ?_⟩
      rw [List.append_assoc] at h2
      exact h2
    · have h0 := of_decide_eq_false h0
      have : j = 0 := by omega
      subst this
      simp only [beq_self_eq_true, cond_true, List.nil_append, List.length_append] at hb
      (refine Ev.bindC (hp f s (by omega)) ?_; rintro _ _ ⟨⟨f2, s2⟩, h, w2⟩; cases h; have lw2 := Wr.len w2; (try simp only [List.length_append, List.length_cons, List.length_nil] at lw2); refine ⟨rfl, Ev.yes rfl ?_⟩)
      exact fin f2 s2 _ w2 (by omega)
theorem listP {xs : List D} (hn : xs.length ≤ 100) (hx : ∀ x ∈ xs, wfE d x) : Pr (fun n => ast_printer_list n (.lst 6 xs)) (lW (wE d) xs) := by
  intro f s hb
  refine Ev.eq (fun n => ast_printer_list_eq n _ _ _) (Ev.bindL (listLoopP hE hn hx xs.length 0 f s rfl (Nat.zero_le _) (by simpa using hb)) (fun ds h => by obtain ⟨_, h, _⟩ := h; cases h) fun ds h => ?_)
  obtain ⟨st, h, hw⟩ := h
  cases h
  exact Ev.yes rfl (Ev.ret ⟨st, rfl, by simpa using hw⟩)
theorem boundsP {es : List D} (hl : es.length ≤ 2) (hx : ∀ x ∈ es, wfE d x) : Pr (fun n => ast_printer_bounds n (.lst 6 es)) (boG (wE d) es) := by
  intro f s hb
  refine Ev.eq (fun n => ast_printer_bounds_eq n _ _ _) ?_
  match es, hl, hx, hb with
  | [], _, _, _ => exact Ev.yes rfl (Ev.ret ⟨(f, s), rfl, Wr.nil _⟩)
  | [x], _, hx, hb =>
    have h1 := hx x (by simp)
    have p1 := exprP' hE h1
    simp only [boG, List.length_append, List.length_cons, List.length_nil] at hb
    refine Ev.no rfl ?_
    (refine Ev.bindC ((word_pr (ws := [(3, [91])]) (shortW_of rfl) (by decide) f s (by simp only [List.length_cons, List.length_nil]; omega))) ?_; rintro _ _ ⟨⟨f1, s1⟩, h, w1⟩; cases h; have lw1 := Wr.len w1; (try simp only [List.length_append, List.length_cons, List.length_nil] at lw1); refine ⟨rfl, Ev.yes (and_tt rfl (plainB _ _ _)) ?_⟩)
    refine Ev.bindL (Q := fun r => ∃ st : Bool × List UInt8, r = (false, [.lst 6 [x], .int .i64 1, .int .i64 1, .bool st.1, .lst 1 (byteD st.2)]) ∧ Wr (f1, s1) st (wE d x)) ?_ (fun ds h => by obtain ⟨_, h, _⟩ := h; cases h) fun ds h => ?_
    · refine Ev.eq (fun n => ast_printer_bounds_L0_eq n _ _ _ _ _) (Ev.yes rfl (Ev.yes rfl (Ev.yes (okX h1) (Ev.no rfl ?_))))
      (refine Ev.bindC (p1 f1 s1 (by omega)) ?_; rintro _ _ ⟨⟨f2, s2⟩, h, w2⟩; cases h; have lw2 := Wr.len w2; (try simp only [List.length_append, List.length_cons, List.length_nil] at lw2); refine ⟨rfl, Ev.yes rfl ?_⟩)
      exact Ev.eq (fun n => ast_printer_bounds_L0_eq n _ _ _ _ _) (Ev.no rfl (Ev.ret ⟨(f2, s2), rfl, w2⟩))
    · obtain ⟨⟨f2, s2⟩, h, w2⟩ := h
      cases h
      have l2 := w2.len
      refine Ev.yes rfl ?_
      (refine Ev.bindC ((word_pr (ws := [(3, [93])]) (shortW_of rfl) (by decide) f2 s2 (by simp only [List.length_cons, List.length_nil]; omega))) ?_; rintro _ _ ⟨⟨f3, s3⟩, h, w3⟩; cases h; have lw3 := Wr.len w3; (try simp only [List.length_append, List.length_cons, List.length_nil] at lw3); refine ⟨rfl, Ev.yes (and_tt rfl (plainB _ _ _)) ?_⟩)
      exact Ev.ret ⟨(f3, s3), rfl, w1.app (w2.app w3)⟩
  | [x, y], _, hx, hb =>
    have h1 := hx x (by simp)
    have h2 := hx y (by simp)
    have p1 := exprP' hE h1
    have p2 := exprP' hE h2
    simp only [boG, List.length_append, List.length_cons, List.length_nil] at hb
    refine Ev.no rfl ?_
    (refine Ev.bindC ((word_pr (ws := [(3, [91])]) (shortW_of rfl) (by decide) f s (by simp only [List.length_cons, List.length_nil]; omega))) ?_; rintro _ _ ⟨⟨f1, s1⟩, h, w1⟩; cases h; have lw1 := Wr.len w1; (try simp only [List.length_append, List.length_cons, List.length_nil] at lw1); refine ⟨rfl, Ev.yes (and_tt rfl (plainB _ _ _)) ?_⟩)
    refine Ev.bindL (Q := fun r => ∃ st : Bool × List UInt8, r = (false, [.lst 6 [x, y], .int .i64 2, .int .i64 2, .bool st.1, .lst 1 (byteD st.2)]) ∧ Wr (f1, s1) st (wE d x ++ ([(3, [58])] ++ wE d y))) ?_ (fun ds h => by obtain ⟨_, h, _⟩ := h; cases h) fun ds h => ?_
    · refine Ev.eq (fun n => ast_printer_bounds_L0_eq n _ _ _ _ _) (Ev.yes rfl (Ev.yes rfl (Ev.yes (okX h1) (Ev.no rfl ?_))))
      (refine Ev.bindC (p1 f1 s1 (by omega)) ?_; rintro _ _ ⟨⟨f2, s2⟩, h, w2⟩; cases h; have lw2 := Wr.len w2; (try simp only [List.length_append, List.length_cons, List.length_nil] at lw2); refine ⟨rfl, Ev.yes rfl ?_⟩)
      refine Ev.eq (fun n => ast_printer_bounds_L0_eq n _ _ _ _ _) (Ev.yes rfl (Ev.yes rfl (Ev.yes (okX h2) (Ev.yes rfl ?_))))
      (refine Ev.bindC ((word_pr (ws := [(3, [58])]) (shortW_of rfl) (by decide) f2 s2 (by simp only [List.length_cons, List.length_nil]; omega))) ?_; rintro _ _ ⟨⟨f3, s3⟩, h, w3⟩; cases h; have lw3 := Wr.len w3; (try simp only [List.length_append, List.length_cons, List.length_nil] at lw3); refine ⟨rfl, Ev.yes (and_tt rfl (plainB _ _ _)) ?_⟩)
      (refine Ev.bindC (p2 f3 s3 (by omega)) ?_; rintro _ _ ⟨⟨f4, s4⟩, h, w4⟩; cases h; have lw4 := Wr.len w4; (try simp only [List.length_append, List.length_cons, List.length_nil] at lw4); refine ⟨rfl, Ev.yes rfl ?_⟩)
      exact Ev.eq (fun n => ast_printer_bounds_L0_eq n _ _ _ _ _) (Ev.no rfl (Ev.ret ⟨(f4, s4), rfl, w2.app (w3.app w4)⟩))
    · obtain ⟨⟨f2, s2⟩, h, w2⟩ := h
      cases h
      have l2 := w2.len
      simp only [List.length_append, List.length_cons, List.length_nil] at l2
      refine Ev.yes rfl ?_
      (refine Ev.bindC ((word_pr (ws := [(3, [93])]) (shortW_of rfl) (by decide) f2 s2 (by simp only [List.length_cons, List.length_nil]; omega))) ?_; rintro _ _ ⟨⟨f3, s3⟩, h, w3⟩; cases h; have lw3 := Wr.len w3; (try simp only [List.length_append, List.length_cons, List.length_nil] at lw3); refine ⟨rfl, Ev.yes (and_tt rfl (plainB _ _ _)) ?_⟩)
      have W := w1.app (w2.app w3)
      refine Ev.ret ⟨(f3, s3), rfl, ?_⟩
      simpa [boG] using W
theorem between1 {x : D} (h1 : wfE d x) : Pr (fun n => ast_printer_between n (.lst 6 [x]) (.lst 1 [])) (aW (wE d) x) := by
  intro f s hb
  have p1 := argP hE h1
  refine Ev.eq (fun n => ast_printer_between_eq n _ _ _ _) (Ev.bindL (Q := fun r => ∃ st : Bool × List UInt8, r = (false, [.lst 1 [], .lst 6 [x], .int .i64 1, .int .i64 1, .bool st.1, .lst 1 (byteD st.2)]) ∧ Wr (f, s) st (aW (wE d) x)) ?_ (fun ds h => by obtain ⟨_, h, _⟩ := h; cases h) fun ds h => ?_)
  · refine Ev.eq (fun n => ast_printer_between_L0_eq n _ _ _ _ _ _) (Ev.yes rfl (Ev.yes rfl (Ev.yes (okX h1) (Ev.no rfl (evDf (fun n => ast_printer_between_L0_j1_def n _ _ _ _ _ _ _) (Ev.no rfl ?_))))))
    (refine Ev.bindC (p1 f s hb) ?_; rintro _ _ ⟨⟨f2, s2⟩, h, w2⟩; cases h; have lw2 := Wr.len w2; (try simp only [List.length_append, List.length_cons, List.length_nil] at lw2); refine ⟨rfl, Ev.yes rfl ?_⟩)
    exact Ev.eq (fun n => ast_printer_between_L0_eq n _ _ _ _ _ _) (Ev.no rfl (Ev.ret ⟨(f2, s2), rfl, w2⟩))
  · obtain ⟨st, h, hw⟩ := h
    cases h
    exact Ev.yes rfl (Ev.ret ⟨st, rfl, hw⟩)
theorem between2 {x y : D} {o : List UInt8} (ho : gw o) (h1 : wfE d x) (h2 : wfE d y) : Pr (fun n => ast_printer_between n (.lst 6 [x, y]) (.lst 1 [.str o])) (aW (wE d) x ++ ([(3, o)] ++ aW (wE d) y)) := by
  intro f s hb
  have p1 := argP hE h1
  have p2 := argP hE h2
  simp only [List.length_append, List.length_cons, List.length_nil] at hb
  refine Ev.eq (fun n => ast_printer_between_eq n _ _ _ _) (Ev.bindL (Q := fun r => ∃ st : Bool × List UInt8, r = (false, [.lst 1 [.str o], .lst 6 [x, y], .int .i64 2, .int .i64 2, .bool st.1, .lst 1 (byteD st.2)]) ∧ Wr (f, s) st (aW (wE d) x ++ ([(3, o)] ++ aW (wE d) y))) ?_ (fun ds h => by obtain ⟨_, h, _⟩ := h; cases h) fun ds h => ?_)
  · refine Ev.eq (fun n => ast_printer_between_L0_eq n _ _ _ _ _ _) (Ev.yes rfl (Ev.yes rfl (Ev.yes (okX h1) (Ev.no rfl (evDf (fun n => ast_printer_between_L0_j1_def n _ _ _ _ _ _ _) (Ev.no rfl ?_))))))
    (refine Ev.bindC (p1 f s (by omega)) ?_; rintro _ _ ⟨⟨f2, s2⟩, h, w2⟩; cases h; have lw2 := Wr.len w2; (try simp only [List.length_append, List.length_cons, List.length_nil] at lw2); refine ⟨rfl, Ev.yes rfl ?_⟩)
    refine Ev.eq (fun n => ast_printer_between_L0_eq n _ _ _ _ _ _) (Ev.yes rfl (Ev.yes rfl (Ev.yes (okX h2) (Ev.yes rfl (evDf (fun n => ast_printer_between_L0_j1_def n _ _ _ _ _ _ _) (Ev.yes rfl (Ev.yes rfl (Ev.yes rfl ?_))))))))
    (refine Ev.bindC ((word_pr (ws := [(3, o)]) (shortW_cons ho (shortW_of rfl)) (by simp) f2 s2 (by simp only [List.length_cons, List.length_nil]; omega))) ?_; rintro _ _ ⟨⟨f3, s3⟩, h, w3⟩; cases h; have lw3 := Wr.len w3; (try simp only [List.length_append, List.length_cons, List.length_nil] at lw3); refine ⟨rfl, Ev.yes (and_tt rfl (plainB _ _ _)) ?_⟩)
    (refine Ev.bindC (p2 f3 s3 (by omega)) ?_; rintro _ _ ⟨⟨f4, s4⟩, h, w4⟩; cases h; have lw4 := Wr.len w4; (try simp only [List.length_append, List.length_cons, List.length_nil] at lw4); refine ⟨rfl, Ev.yes rfl ?_⟩)
    exact Ev.eq (fun n => ast_printer_between_L0_eq n _ _ _ _ _ _) (Ev.no rfl (Ev.ret ⟨(f4, s4), rfl, w2.app (w3.app w4)⟩))
  · obtain ⟨st, h, hw⟩ := h
    cases h
    exact Ev.yes rfl (Ev.ret ⟨st, rfl, hw⟩)
theorem between3 {x y z : D} (h1 : wfE d x) (h2 : wfE d y) (h3 : wfE d z) : Pr (fun n => ast_printer_between n (.lst 6 [x, y, z]) (.lst 1 [.str [63], .str [58]])) (aW (wE d) x ++ ([(3, [63])] ++ (aW (wE d) y ++ ([(3, [58])] ++ aW (wE d) z)))) := by
  intro f s hb
  have p1 := argP hE h1
  have p2 := argP hE h2
  have p3 := argP hE h3
  simp only [List.length_append, List.length_cons, List.length_nil] at hb
  refine Ev.eq (fun n => ast_printer_between_eq n _ _ _ _) (Ev.bindL (Q := fun r => ∃ st : Bool × List UInt8, r = (false, [.lst 1 [.str [63], .str [58]], .lst 6 [x, y, z], .int .i64 3, .int .i64 3, .bool st.1, .lst 1 (byteD st.2)]) ∧ Wr (f, s) st (aW (wE d) x ++ ([(3, [63])] ++ (aW (wE d) y ++ ([(3, [58])] ++ aW (wE d) z))))) ?_ (fun ds h => by obtain ⟨_, h, _⟩ := h; cases h) fun ds h => ?_)
  · refine Ev.eq (fun n => ast_printer_between_L0_eq n _ _ _ _ _ _) (Ev.yes rfl (Ev.yes rfl (Ev.yes (okX h1) (Ev.no rfl (evDf (fun n => ast_printer_between_L0_j1_def n _ _ _ _ _ _ _) (Ev.no rfl ?_))))))
    (refine Ev.bindC (p1 f s (by omega)) ?_; rintro _ _ ⟨⟨f2, s2⟩, h, w2⟩; cases h; have lw2 := Wr.len w2; (try simp only [List.length_append, List.length_cons, List.length_nil] at lw2); refine ⟨rfl, Ev.yes rfl ?_⟩)
    refine Ev.eq (fun n => ast_printer_between_L0_eq n _ _ _ _ _ _) (Ev.yes rfl (Ev.yes rfl (Ev.yes (okX h2) (Ev.yes rfl (evDf (fun n => ast_printer_between_L0_j1_def n _ _ _ _ _ _ _) (Ev.yes rfl (Ev.yes rfl (Ev.yes rfl ?_))))))))
    (refine Ev.bindC ((word_pr (ws := [(3, [63])]) (shortW_of rfl) (by decide) f2 s2 (by simp only [List.length_cons, List.length_nil]; omega))) ?_; rintro _ _ ⟨⟨f3, s3⟩, h, w3⟩; cases h; have lw3 := Wr.len w3; (try simp only [List.length_append, List.length_cons, List.length_nil] at lw3); refine ⟨rfl, Ev.yes (and_tt rfl (plainB _ _ _)) ?_⟩)
    (refine Ev.bindC (p2 f3 s3 (by omega)) ?_; rintro _ _ ⟨⟨f4, s4⟩, h, w4⟩; cases h; have lw4 := Wr.len w4; (try simp only [List.length_append, List.length_cons, List.length_nil] at lw4); refine ⟨rfl, Ev.yes rfl ?_⟩)
    refine Ev.eq (fun n => ast_printer_between_L0_eq n _ _ _ _ _ _) (Ev.yes rfl (Ev.yes rfl (Ev.yes (okX h3) (Ev.yes rfl (evDf (fun n => ast_printer_between_L0_j1_def n _ _ _ _ _ _ _) (Ev.yes rfl (Ev.yes rfl (Ev.yes rfl ?_))))))))
    (refine Ev.bindC ((word_pr (ws := [(3, [58])]) (shortW_of rfl) (by decide) f4 s4 (by simp only [List.length_cons, List.length_nil]; omega))) ?_; rintro _ _ ⟨⟨f5, s5⟩, h, w5⟩; cases h; have lw5 := Wr.len w5; (try simp only [List.length_append, List.length_cons, List.length_nil] at lw5); refine ⟨rfl, Ev.yes (and_tt rfl (plainB _ _ _)) ?_⟩)
    (refine Ev.bindC (p3 f5 s5 (by omega)) ?_; rintro _ _ ⟨⟨f6, s6⟩, h, w6⟩; cases h; have lw6 := Wr.len w6; (try simp only [List.length_append, List.length_cons, List.length_nil] at lw6); refine ⟨rfl, Ev.yes rfl ?_⟩)
    exact Ev.eq (fun n => ast_printer_between_L0_eq n _ _ _ _ _ _) (Ev.no rfl (Ev.ret ⟨(f6, s6), rfl, w2.app (w3.app (w4.app (w5.app w6)))⟩))
  · obtain ⟨st, h, hw⟩ := h
    cases h
    exact Ev.yes rfl (Ev.ret ⟨st, rfl, hw⟩)
end
end Go.Proofs.YtalibicpmfbieaaGreatDoor
