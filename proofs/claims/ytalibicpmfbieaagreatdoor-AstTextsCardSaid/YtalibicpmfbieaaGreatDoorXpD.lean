/- A statement is written as its words. -/
import Derived.Test.YtalibicpmfbieaaGreatDoorXpC
import Derived.Test.YtalibicpmfbieaaGreatDoorTrC
namespace Go.Proofs.YtalibicpmfbieaaGreatDoor
open Go.AE
set_option linter.unusedVariables false
set_option linter.unusedSimpArgs false
theorem PI_app (a b : List Itm) (st : Bool × List UInt8) : PI (a ++ b) st = PI b (PI a st) := by simp [PI, List.foldl_append]
theorem PI_len {ws : List Tk} (hs : shortW ws) : ∀ (st : Bool × List UInt8), (PI (ws.map fun p => some p.2) st).2.length ≤ st.2.length + 13 * ws.length := by
  induction ws with
  | nil => intro st; exact Nat.le_refl _
  | cons p ws ih =>
    intro st
    have h := ih (fun q hq => hs q (List.mem_cons_of_mem _ hq)) (stp st (some p.2))
    have h12 := gw_len (hs p List.mem_cons_self)
    have h1 : (stp st (some p.2)).2.length ≤ st.2.length + 13 := by
      show (st.2 ++ ((bif !st.2.isEmpty && !st.1 then [32] else []) ++ p.2)).length ≤ _
      have : (bif !st.2.isEmpty && !st.1 then [32] else [] : List UInt8).length ≤ 1 := by cases !st.2.isEmpty && !st.1 <;> simp
      simp only [List.length_append]; omega
    show (PI (ws.map fun p => some p.2) (stp st (some p.2))).2.length ≤ _
    simp only [List.length_cons]; omega
theorem nlW (f : Bool) {s : List UInt8} (hb : s.length ≤ 68000100000) : Ev (fun n => strings_Builder_WriteByte n (.int .u8 10) (.bool f) (.lst 1 (byteD s))) fun r => r = (true, [.nili, .bool f, .lst 1 (byteD (s ++ [10]))]) := by
  refine Ev.eq (fun n => strings_Builder_WriteByte_eq n _ _ _) (Ev.yes (Nat.ble_eq_true_of_le (by rw [byteD_len]; simp only [maxLst]; omega)) (Ev.ret ?_))
  rw [← byteD_app]; rfl
theorem wof_some (ws : List Tk) : wof (ws.map fun p => some p.2) = ws.map (·.2) := by
  induction ws with
  | nil => rfl
  | cons p ws ih => simp only [wof, List.map_cons, List.filterMap_cons, id] at ih ⊢; rw [ih]
theorem lineX {ws : List Tk} (hs : shortW ws) (h1 : 1 ≤ ws.length) (hl : ws.length ≤ 1000) (f : Bool) (s : List UInt8) (hb : s.length + 14 * ws.length ≤ 68000000000) :
    Ev (fun n => ast_printer_line n (.lst 1 (txt ws)) (.bool f) (.lst 1 (byteD s))) fun r => ∃ st : Bool × List UInt8, r = (true, [.bool st.1, .lst 1 (byteD st.2)]) ∧ Wr (f, s) st ws ∧ ∃ s', st.2 = s' ++ [10] := by
  refine Ev.eq (fun n => ast_printer_line_eq n _ _ _) (Ev.bindC (word_ex hs hl f s hb) ?_)
  rintro _ _ ⟨⟨f1, s1⟩, h, w, e⟩; cases h
  have l := PI_len hs (f, s)
  rw [← e] at l
  replace l : s1.length ≤ s.length + 13 * ws.length := l
  refine ⟨rfl, Ev.yes rfl (Ev.bindC (nlW f1 (s := s1) (by omega)) ?_)⟩
  intro _ _ h; cases h
  refine ⟨rfl, Ev.yes rfl (Ev.ret ⟨(true, s1 ++ [10]), rfl, ⟨(ws.map fun p => some p.2) ++ [none], ?_, ?_, ?_, hs⟩, s1, rfl⟩)⟩
  · rw [PI_app, ← e]; rfl
  · rw [← wof_some ws]; simp [wof]
  · simp only [List.length_append, List.length_cons, List.length_nil]; omega
theorem lineP {ws : List Tk} (hs : shortW ws) (h1 : 1 ≤ ws.length) (hl : ws.length ≤ 1000) : Pr (fun n => ast_printer_line n (.lst 1 (txt ws))) ws :=
  fun f s hb => (lineX hs h1 hl f s hb).mono fun _ ⟨st, h1, h2, _⟩ => ⟨st, h1, h2⟩
theorem line0 (f : Bool) {s : List UInt8} (hb : s.length ≤ 68000000000) : Ev (fun n => ast_printer_line n (.lst 1 []) (.bool f) (.lst 1 (byteD s))) fun r => r = (true, [.bool true, .lst 1 (byteD (s ++ [10]))]) := by
  refine Ev.eq (fun n => ast_printer_line_eq n _ _ _) (Ev.bindC (word_ex (ws := []) (shortW_of rfl) (by decide) f s (by simp; omega)) ?_)
  rintro _ _ ⟨⟨f1, s1⟩, h, w, e⟩; cases h
  cases e
  refine ⟨rfl, Ev.yes rfl (Ev.bindC (nlW f (s := s) (by omega)) ?_)⟩
  intro _ _ h; cases h
  exact ⟨rfl, Ev.yes rfl (Ev.ret rfl)⟩
theorem Wr.nl {a b c : Bool × List UInt8} {u v : List Tk} (w1 : Wr a b u) (hl : b.2.length + 1 ≤ a.2.length + 14 * u.length) (w2 : Wr b c v) : Wr a (true, c.2 ++ [10]) (u ++ v) := by
  obtain ⟨x, h1, h2, h3, h4⟩ := w1
  obtain ⟨y, k1, k2, k3, k4⟩ := w2
  refine ⟨x ++ y ++ [none], ?_, ?_, ?_, fun p hp => (List.mem_append.1 hp).elim (h4 p) (k4 p)⟩
  · rw [PI_app, PI_app, ← h1, ← k1]; rfl
  · simp [wof, List.filterMap_append] at h2 k2 ⊢; rw [h2, k2]
  · simp only [List.length_append, List.length_cons, List.length_nil]; omega
theorem exprQ {x : D} (hx : wfE 4 x) : Pr (fun n => ast_printer_expr n (expTy ty_iiiisl6 x)) (wE 4 x) := exprP' (exprP 4) hx
theorem parenP {x : D} (hx : wfE 4 x) : Pr (fun n => ast_printer_paren n (expTy ty_iiiisl6 x)) (pW x) := by
  have hp := exprP 4 x hx
  rw [(wfx hx).1]
  obtain ⟨k, t, xs, rfl, _⟩ := hx
  intro f s hb
  (replace hb : s.length + 14 * ([(3, [40])] ++ (wE 4 (E k t xs) ++ [(3, [41])]) : List Tk).length ≤ 68000000000 := hb; simp only [List.length_append, List.length_cons, List.length_nil] at hb)
  refine Ev.eq (fun n => ast_printer_paren_eq n k 0 0 0 t xs f (byteD s)) ?_
  (refine Ev.bindC ((word_pr (ws := [(3, [40])]) (shortW_of rfl) (by decide) f s (by simp only [List.length_cons, List.length_nil]; omega))) ?_; rintro _ _ ⟨⟨f1, s1⟩, h, w1⟩; cases h; have lw1 := Wr.len w1; (try simp only [List.length_append, List.length_cons, List.length_nil] at lw1); refine ⟨rfl, Ev.yes (and_tt rfl (plainB _ _ _)) ?_⟩)
  (refine Ev.bindC (hp f1 s1 (by omega)) ?_; rintro _ _ ⟨⟨f2, s2⟩, h, w2⟩; cases h; have lw2 := Wr.len w2; (try simp only [List.length_append, List.length_cons, List.length_nil] at lw2); refine ⟨rfl, Ev.yes rfl ?_⟩)
  (refine Ev.bindC ((word_pr (ws := [(3, [41])]) (shortW_of rfl) (by decide) f2 s2 (by simp only [List.length_cons, List.length_nil]; omega))) ?_; rintro _ _ ⟨⟨f3, s3⟩, h, w3⟩; cases h; have lw3 := Wr.len w3; (try simp only [List.length_append, List.length_cons, List.length_nil] at lw3); refine ⟨rfl, Ev.yes (and_tt rfl (plainB _ _ _)) ?_⟩)
  exact Ev.ret ⟨(f3, s3), rfl, w1.app (w2.app w3)⟩
theorem loopP {t : List UInt8} (ht : gw t) {a b c : D} (h1 : wfE 4 a) (h2 : wfE 4 b) (h3 : wfE 4 c) : Pr (fun n => ast_printer_loop n (.str t) (.lst 6 [a, b, c])) (loopT t [a, b, c]) := by
  have p1 := exprQ h1
  have p2 := exprQ h2
  have p3 := exprQ h3
  intro f s hb
  (replace hb : s.length + 14 * ([(1, forT), (3, [40]), (1, t), (3, [61])] ++ (wE 4 a ++ ([(3, [59])] ++ (wE 4 b ++ ([(3, [59]), (1, t), (3, [61])] ++ (wE 4 c ++ [(3, [41])]))))) : List Tk).length ≤ 68000000000 := hb; simp only [List.length_append, List.length_cons, List.length_nil] at hb)
  refine Ev.eq (fun n => ast_printer_loop_eq n t _ f (byteD s)) ?_
  (refine Ev.bindC ((word_pr (ws := [(1, forT), (3, [40]), (1, t), (3, [61])]) (shortW_cons (by decide) (shortW_cons (by decide) (shortW_cons ht (shortW_of rfl)))) (by simp) f s (by simp only [List.length_cons, List.length_nil]; omega))) ?_; rintro _ _ ⟨⟨f1, s1⟩, h, w1⟩; cases h; have lw1 := Wr.len w1; (try simp only [List.length_append, List.length_cons, List.length_nil] at lw1); refine ⟨rfl, Ev.yes (and_tt rfl (plainB _ _ _)) ?_⟩)
  refine Ev.yes rfl (Ev.yes (okE4 h1) ?_)
  (refine Ev.bindC (p1 f1 s1 (by omega)) ?_; rintro _ _ ⟨⟨f2, s2⟩, h, w2⟩; cases h; have lw2 := Wr.len w2; (try simp only [List.length_append, List.length_cons, List.length_nil] at lw2); refine ⟨rfl, Ev.yes rfl ?_⟩)
  (refine Ev.bindC ((word_pr (ws := [(3, [59])]) (shortW_of rfl) (by decide) f2 s2 (by simp only [List.length_cons, List.length_nil]; omega))) ?_; rintro _ _ ⟨⟨f3, s3⟩, h, w3⟩; cases h; have lw3 := Wr.len w3; (try simp only [List.length_append, List.length_cons, List.length_nil] at lw3); refine ⟨rfl, Ev.yes (and_tt rfl (plainB _ _ _)) ?_⟩)
  refine Ev.yes rfl (Ev.yes (okE4 h2) ?_)
  (refine Ev.bindC (p2 f3 s3 (by omega)) ?_; rintro _ _ ⟨⟨f4, s4⟩, h, w4⟩; cases h; have lw4 := Wr.len w4; (try simp only [List.length_append, List.length_cons, List.length_nil] at lw4); refine ⟨rfl, Ev.yes rfl ?_⟩)
  (refine Ev.bindC ((word_pr (ws := [(3, [59]), (1, t), (3, [61])]) (shortW_cons (by decide) (shortW_cons ht (shortW_of rfl))) (by simp) f4 s4 (by simp only [List.length_cons, List.length_nil]; omega))) ?_; rintro _ _ ⟨⟨f5, s5⟩, h, w5⟩; cases h; have lw5 := Wr.len w5; (try simp only [List.length_append, List.length_cons, List.length_nil] at lw5); refine ⟨rfl, Ev.yes (and_tt rfl (plainB _ _ _)) ?_⟩)
  refine Ev.yes rfl (Ev.yes (okE4 h3) ?_)
  (refine Ev.bindC (p3 f5 s5 (by omega)) ?_; rintro _ _ ⟨⟨f6, s6⟩, h, w6⟩; cases h; have lw6 := Wr.len w6; (try simp only [List.length_append, List.length_cons, List.length_nil] at lw6); refine ⟨rfl, Ev.yes rfl ?_⟩)
  (refine Ev.bindC ((word_pr (ws := [(3, [41])]) (shortW_of rfl) (by decide) f6 s6 (by simp only [List.length_cons, List.length_nil]; omega))) ?_; rintro _ _ ⟨⟨f7, s7⟩, h, w7⟩; cases h; have lw7 := Wr.len w7; (try simp only [List.length_append, List.length_cons, List.length_nil] at lw7); refine ⟨rfl, Ev.yes (and_tt rfl (plainB _ _ _)) ?_⟩)
  exact Ev.ret ⟨(f7, s7), rfl, w1.app (w2.app (w3.app (w4.app (w5.app (w6.app w7)))))⟩
/-- A loop that writes one thing after another. -/
theorem prLoop {Q : Bool × List D → Prop} {xs : List D} {w : D → List Tk} {T : Int → Bool → List UInt8 → Nat → Out} {f : Bool} {s : List UInt8} (hl : xs.length ≤ 1000) (hb : s.length + 14 * (xs.flatMap w).length ≤ 68000000000)
    (step : ∀ (j : Nat) (f : Bool) (s : List UInt8) (h : j < xs.length), s.length + 14 * (w xs[j]).length ≤ 68000000000 → (∀ f1 s1, Wr (f, s) (f1, s1) (w xs[j]) → Ev (T (IntKind.i64.wrap ((j : Int) + 1)) f1 s1) Q) → Ev (T (j : Int) f s) Q)
    (fin : ∀ f1 s1, Wr (f, s) (f1, s1) (xs.flatMap w) → Ev (T (xs.length : Int) f1 s1) Q) : Ev (T 0 f s) Q := by
  have aux : ∀ (m j : Nat) (f1 : Bool) (s1 : List UInt8), xs.length - j = m → j ≤ xs.length → Wr (f, s) (f1, s1) ((xs.take j).flatMap w) → s1.length + 14 * ((xs.drop j).flatMap w).length ≤ 68000000000 → Ev (T (j : Int) f1 s1) Q := by
    intro m
    induction m with
    | zero =>
      intro j f1 s1 hm hj hw _
      have : j = xs.length := by omega
      subst this
      rw [List.take_length] at hw
      exact fin f1 s1 hw
    | succ m ih =>
      intro j f1 s1 hm hj hw hb
      have hlt : j < xs.length := by omega
      rw [drop_cons hlt, List.flatMap_cons, List.length_append] at hb
      refine step j f1 s1 hlt (by omega) fun f2 s2 h2 => ?_
      have l2 := h2.len
      rw [wrap_succ (by omega)]
      refine ih (j + 1) f2 s2 (by omega) (by omega) ?_ (by omega)
      have W := hw.app h2
      have e : (xs.take (j + 1)).flatMap w = (xs.take j).flatMap w ++ w xs[j] := by
        rw [List.take_add_one, List.getElem?_eq_getElem hlt, Option.toList_some, List.flatMap_append]; simp
      rw [e]; exact W
  exact aux xs.length 0 f s rfl (Nat.zero_le _) (Wr.nil _) (by simpa using hb)
theorem Rl1 {R : D → D → Prop} {a : D} {ys : List D} (h : Rl R [a] ys) : ∃ a', ys = [a'] ∧ R a a' := by
  obtain ⟨hl, hr⟩ := h
  match ys, hl with
  | [a'], _ => exact ⟨a', rfl, hr 0 (by simp) (by simp)⟩
theorem Rl2 {R : D → D → Prop} {a b : D} {ys : List D} (h : Rl R [a, b] ys) : ∃ a' b', ys = [a', b'] ∧ R a a' ∧ R b b' := by
  obtain ⟨hl, hr⟩ := h
  match ys, hl with
  | [a', b'], _ => exact ⟨a', b', rfl, hr 0 (by simp) (by simp), hr 1 (by simp) (by simp)⟩
theorem os_form {n : Nat} {x y : D} (h : OS n x y) : ∃ k t es bs zs bs' zs', x = S k t es bs zs ∧ y = AS k t es bs' zs' := by
  cases n with
  | zero => exact h.elim
  | succ n => obtain ⟨k, t, es, bs, zs, bs', zs', h1, h2, _⟩ := h; exact ⟨k, t, es, bs, zs, bs', zs', h1, h2⟩
theorem os_ok {n : Nat} {x y : D} (h : OS n x y) : (notAny ty_iiiisl6l8l9 && okTy ty_iiiisl6l8l9 y) = true := by
  obtain ⟨k, t, es, bs, zs, bs', zs', _, rfl⟩ := os_form h; rfl
theorem os_exp {n : Nat} {x y : D} (h : OS n x y) : expTy ty_iiiisl6l8l9 y = y := by
  obtain ⟨k, t, es, bs, zs, bs', zs', _, rfl⟩ := os_form h; rfl
theorem open_own : ∀ (n : Nat) (x y : D), wfS n x → OS n x y → Ev (fun m => ast_open m y) fun r => r = (true, [.bool (openS n x)]) := by
  intro n
  induction n with
  | zero => intro x y h; exact h.elim
  | succ n ih =>
    rintro x y ⟨k, t, es, bs, zs, rfl, _, hb, _, hsh⟩ ⟨k2, t2, es2, bs2, zs2, bs', zs', e, rfl, _, _, _, hR, _⟩
    cases e
    refine Ev.eq (fun m => ast_open_eq m k 0 0 0 t es bs' zs') ?_
    rcases hsh with ⟨rfl, _⟩ | ⟨rfl | rfl, _⟩ | ⟨rfl, rfl, h1, ⟨b, c, rfl, _⟩, rfl⟩ | ⟨rfl, _⟩ | ⟨rfl, rfl, h1, h2, rfl⟩ | ⟨rfl, _⟩ | ⟨rfl, _⟩
    · exact Ev.no rfl (Ev.no rfl (Ev.ret rfl))
    · exact Ev.no rfl (Ev.no rfl (Ev.ret rfl))
    · exact Ev.no rfl (Ev.no rfl (Ev.ret rfl))
    · obtain ⟨b', c', rfl, hb', hc'⟩ := Rl2 hR
      have hc := hb c (by simp)
      have ih := ih c c' hc hc'
      cases n with
      | zero => exact hc.elim
      | succ n =>
        obtain ⟨k', t', es', bs3, zs3, bs4, zs4, rfl, rfl⟩ := os_form hc'
        refine Ev.yes rfl (Ev.yes rfl (Ev.yes rfl (Ev.yes rfl (Ev.test (fun h8 => ?_) fun h8 => ?_))))
        · have h8 : (k' == 8) = true := h8
          refine Ev.ret ?_
          show _ = (true, [D.bool (k' == 8 || openS (n + 1) (S k' t' es' bs3 zs3))])
          rw [h8]; rfl
        · have h8 : (k' == 8) = false := h8
          refine Ev.yes rfl (Ev.yes rfl (Ev.bindC ih ?_))
          intro _ ds h; cases h
          refine ⟨rfl, Ev.yes rfl (Ev.ret ?_)⟩
          show _ = (true, [D.bool (k' == 8 || openS (n + 1) (S k' t' es' bs3 zs3))])
          rw [h8]; rfl
    · exact Ev.no rfl (Ev.no rfl (Ev.ret rfl))
    · obtain ⟨b, rfl⟩ : ∃ b, bs = [b] := by
        match bs, h2 with
        | [b], _ => exact ⟨b, rfl⟩
      obtain ⟨b', rfl, hb'⟩ := Rl1 hR
      have ih := ih b b' (hb b (by simp)) hb'
      refine Ev.no rfl (Ev.yes rfl (Ev.yes rfl (Ev.yes (os_ok hb') ?_)))
      rw [show expTy ty_iiiisl6l8l9 ([b'][0]?.getD D.top) = b' from os_exp hb']
      refine Ev.bindC ih ?_
      intro _ ds h; cases h
      exact ⟨rfl, Ev.yes rfl (Ev.ret rfl)⟩
    · exact Ev.no rfl (Ev.no rfl (Ev.ret rfl))
    · exact Ev.no rfl (Ev.no rfl (Ev.ret rfl))
section
variable {d : Nat} (ih : ∀ x y, wfS d x → OS d x y → Pr (fun n => ast_printer_stmt n y) (wS d x))
include ih
theorem stmtQ {x y : D} (h : wfS d x) (h' : OS d x y) : Pr (fun n => ast_printer_stmt n (expTy ty_iiiisl6l8l9 y)) (wS d x) := by rw [os_exp h']; exact ih x y h h'
theorem thenP {x y : D} (h : wfS d x) (h' : OS d x y) (ho : openS d x = false) : Pr (fun n => ast_printer_then n (expTy ty_iiiisl6l8l9 y)) (wS d x) := by
  have ho' := open_own d x y h h'
  have hp := ih x y h h'
  rw [os_exp h']
  obtain ⟨k, t, es, bs, zs, bs', zs', rfl, rfl⟩ := os_form h'
  rw [ho] at ho'
  intro f s hb
  refine Ev.eq (fun n => ast_printer_then_eq n k 0 0 0 t es bs' zs' f (byteD s)) (Ev.bindC ho' ?_)
  intro _ ds h; cases h
  refine ⟨rfl, Ev.yes rfl (Ev.no rfl ?_)⟩
  (refine Ev.bindC (hp f s hb) ?_; rintro _ _ ⟨⟨f2, s2⟩, h, w2⟩; cases h; have lw2 := Wr.len w2; (try simp only [List.length_append, List.length_cons, List.length_nil] at lw2); refine ⟨rfl, Ev.yes rfl ?_⟩)
  exact Ev.ret ⟨(f2, s2), rfl, w2⟩
theorem stmtsP {xs ys : List D} (hl : xs.length ≤ 10) (hx : ∀ x ∈ xs, wfS d x) (hR : Rl (OS d) xs ys) (f : Bool) (s : List UInt8) (hb : s.length + 14 * (xs.flatMap (wS d)).length ≤ 68000000000) :
    Ev (fun n => ast_printer_stmt_L1 n (.lst 8 ys) (.int .i64 (ys.length : Int)) (.int .i64 0) (.bool f) (.lst 1 (byteD s))) fun r => ∃ st : Bool × List UInt8, r = (false, [.lst 8 ys, .int .i64 (ys.length : Int), .int .i64 (ys.length : Int), .bool st.1, .lst 1 (byteD st.2)]) ∧ Wr (f, s) st (xs.flatMap (wS d)) := by
  have el := hR.1
  refine prLoop (xs := xs) (w := wS d) (T := fun j f s n => ast_printer_stmt_L1 n (.lst 8 ys) (.int .i64 (ys.length : Int)) (.int .i64 j) (.bool f) (.lst 1 (byteD s))) (by omega) hb (fun j f s hj hb K => ?_) fun f1 s1 W => ?_
  · have hj' : j < ys.length := by omega
    have r := hR.2 j hj hj'
    have p1 := stmtQ ih (hx _ (List.getElem_mem hj)) r
    refine Ev.eq (fun n => ast_printer_stmt_L1_eq n _ _ _ _ _) (Ev.yes (decide_eq_true (by omega)) (Ev.yes (in_range hj') ?_))
    rw [get_nat hj']
    refine Ev.yes (os_ok r) ?_
    (refine Ev.bindC (p1 f s hb) ?_; rintro _ _ ⟨⟨f2, s2⟩, h, w2⟩; cases h; have lw2 := Wr.len w2; (try simp only [List.length_append, List.length_cons, List.length_nil] at lw2); refine ⟨rfl, Ev.yes rfl ?_⟩)
    exact K f2 s2 w2
  · exact Ev.eq (fun n => ast_printer_stmt_L1_eq n _ _ _ _ _) (Ev.no (decide_eq_false (by omega)) (Ev.ret ⟨(f1, s1), by rw [el], W⟩))
theorem armP {x y : D} (h : wfA d x) (h' : OA (OS d) x y) : Pr (fun n => ast_printer_arm n (expTy ty_l6iiiisl6l8l9 y)) (armT (wS d) x) := by
  obtain ⟨es0, k, t, fs, bs, zs, bs', zs', rfl, rfl, ⟨_, he⟩, hO⟩ := h'
  obtain ⟨es, s0, e, hl, _, hs⟩ := h
  have e1 : s0 = S k t fs bs zs := by
    cases d with
    | zero => exact hs.elim
    | succ d =>
      obtain ⟨k2, t2, es2, bs2, zs2, rfl, _⟩ := hs
      cases e; rfl
  subst e1
  have e2 : es = es0 := by cases e; rfl
  subst e2
  have p2 := ih _ _ hs hO
  have J : ∀ (f : Bool) (s : List UInt8), s.length + 14 * (lW (wE 4) es ++ ([(3, [58])] ++ wS d (S k t fs bs zs)) : List Tk).length ≤ 68000000000 → Ev (fun n => ast_printer_arm_j1 n (byteD s) f es k 0 0 0 t fs bs' zs') fun r => ∃ st : Bool × List UInt8, r = (true, [.bool st.1, .lst 1 (byteD st.2)]) ∧ Wr (f, s) st (lW (wE 4) es ++ ([(3, [58])] ++ wS d (S k t fs bs zs))) := by
    intro f s hb
    simp only [List.length_append, List.length_cons, List.length_nil] at hb
    refine evDf (fun n => ast_printer_arm_j1_def n _ _ _ _ _ _ _ _ _ _ _) ?_
    (refine Ev.bindC (listP (exprP 4) (xs := es) (by omega) he f s (by omega)) ?_; rintro _ _ ⟨⟨f1, s1⟩, h, w1⟩; cases h; have lw1 := Wr.len w1; (try simp only [List.length_append, List.length_cons, List.length_nil] at lw1); refine ⟨rfl, Ev.yes rfl ?_⟩)
    (refine Ev.bindC ((word_pr (ws := [(3, [58])]) (shortW_of rfl) (by decide) f1 s1 (by simp only [List.length_cons, List.length_nil]; omega))) ?_; rintro _ _ ⟨⟨f2, s2⟩, h, w2⟩; cases h; have lw2 := Wr.len w2; (try simp only [List.length_append, List.length_cons, List.length_nil] at lw2); refine ⟨rfl, Ev.yes (and_tt rfl (plainB _ _ _)) ?_⟩)
    (refine Ev.bindC (p2 f2 s2 (by omega)) ?_; rintro _ _ ⟨⟨f3, s3⟩, h, w3⟩; cases h; have lw3 := Wr.len w3; (try simp only [List.length_append, List.length_cons, List.length_nil] at lw3); refine ⟨rfl, Ev.yes rfl ?_⟩)
    exact Ev.ret ⟨(f3, s3), rfl, w1.app (w2.app w3)⟩
  intro f s hb
  have ea : armT (wS d) (arm es (S k t fs bs zs)) = (bif es.isEmpty then [(1, defT)] else []) ++ (lW (wE 4) es ++ ([(3, [58])] ++ wS d (S k t fs bs zs))) := rfl
  rw [ea] at hb ⊢
  refine Ev.eq (fun n => ast_printer_arm_eq n es k 0 0 0 t fs bs' zs' f (byteD s)) (Ev.test (fun h => ?_) fun h => ?_)
  · have h0 : es = [] := by
      have := eq_of_beq h
      cases es with
      | nil => rfl
      | cons => simp only [List.length_cons] at this; omega
    subst h0
    (replace hb : s.length + 14 * ([(1, defT)] ++ (lW (wE 4) [] ++ ([(3, [58])] ++ wS d (S k t fs bs zs))) : List Tk).length ≤ 68000000000 := hb; simp only [List.length_append, List.length_cons, List.length_nil] at hb)
    (refine Ev.bindC ((word_pr (ws := [(1, defT)]) (shortW_of rfl) (by decide) f s (by simp only [List.length_cons, List.length_nil]; omega))) ?_; rintro _ _ ⟨⟨f1, s1⟩, h, w1⟩; cases h; have lw1 := Wr.len w1; (try simp only [List.length_append, List.length_cons, List.length_nil] at lw1); refine ⟨rfl, Ev.yes (and_tt rfl (plainB _ _ _)) ?_⟩)
    refine (J f1 s1 (by simp only [List.length_append, List.length_cons, List.length_nil]; omega)).mono fun r ⟨st, h1, h2⟩ => ⟨st, h1, w1.app h2⟩
  · have h0 : es.isEmpty = false := by
      cases es with
      | nil => exact absurd h (by decide)
      | cons => rfl
    rw [h0] at hb ⊢
    exact J f s hb
theorem armsP {xs ys : List D} (hl : xs.length ≤ 10) (hx : ∀ x ∈ xs, wfA d x) (hR : Rl (OA (OS d)) xs ys) (f : Bool) (s : List UInt8) (hb : s.length + 14 * (xs.flatMap (armT (wS d))).length ≤ 68000000000) :
    Ev (fun n => ast_printer_stmt_L3 n (.lst 9 ys) (.int .i64 (ys.length : Int)) (.int .i64 0) (.bool f) (.lst 1 (byteD s))) fun r => ∃ st : Bool × List UInt8, r = (false, [.lst 9 ys, .int .i64 (ys.length : Int), .int .i64 (ys.length : Int), .bool st.1, .lst 1 (byteD st.2)]) ∧ Wr (f, s) st (xs.flatMap (armT (wS d))) := by
  have el := hR.1
  refine prLoop (xs := xs) (w := armT (wS d)) (T := fun j f s n => ast_printer_stmt_L3 n (.lst 9 ys) (.int .i64 (ys.length : Int)) (.int .i64 j) (.bool f) (.lst 1 (byteD s))) (by omega) hb (fun j f s hj hb K => ?_) fun f1 s1 W => ?_
  · have hj' : j < ys.length := by omega
    have r := hR.2 j hj hj'
    have p1 := armP ih (hx _ (List.getElem_mem hj)) r
    refine Ev.eq (fun n => ast_printer_stmt_L3_eq n _ _ _ _ _) (Ev.yes (decide_eq_true (by omega)) (Ev.yes (in_range hj') ?_))
    rw [get_nat hj']
    refine Ev.yes (by obtain ⟨_, _, _, _, _, _, _, _, _, e, _⟩ := r; rw [e]; rfl) ?_
    (refine Ev.bindC (p1 f s hb) ?_; rintro _ _ ⟨⟨f2, s2⟩, h, w2⟩; cases h; have lw2 := Wr.len w2; (try simp only [List.length_append, List.length_cons, List.length_nil] at lw2); refine ⟨rfl, Ev.yes rfl ?_⟩)
    exact K f2 s2 w2
  · exact Ev.eq (fun n => ast_printer_stmt_L3_eq n _ _ _ _ _) (Ev.no (decide_eq_false (by omega)) (Ev.ret ⟨(f1, s1), by rw [el], W⟩))
end
end Go.Proofs.YtalibicpmfbieaaGreatDoor
