/- Items are written as their words. -/
import Derived.Test.YtalibicpmfbieaaGreatDoorXpF
namespace Go.Proofs.YtalibicpmfbieaaGreatDoor
open Go.AE
set_option linter.unusedVariables false
set_option linter.unusedSimpArgs false
theorem itemsG {w : D → List Tk} {xs ys : List D} (el : xs.length = ys.length) (hn : xs.length ≤ 1000) (h : ∀ (j : Nat) (hj : j < xs.length) (hj' : j < ys.length), Pr (fun n => ast_printer_item n (expTy ty_iiiissbl6l6l8l14l14l5l5 ys[j])) (w xs[j]) ∧ (notAny ty_iiiissbl6l6l8l14l14l5l5 && okTy ty_iiiissbl6l6l8l14l14l5l5 ys[j]) = true) : Pr (fun n => ast_printer_items n (.lst 14 ys)) (xs.flatMap w) := by
  intro f0 s0 hb
  refine Ev.eq (fun n => ast_printer_items_eq n _ _ _) (Ev.bindL (Q := fun r => ∃ st : Bool × List UInt8, r = (false, [.lst 14 ys, .int .i64 (ys.length : Int), .int .i64 (ys.length : Int), .bool st.1, .lst 1 (byteD st.2)]) ∧ Wr (f0, s0) st (xs.flatMap w)) ?_ (fun ds h => by obtain ⟨_, h, _⟩ := h; cases h) fun ds h => ?_)
  · refine prLoop (xs := xs) (w := w) (T := fun j f s n => ast_printer_items_L0 n (.lst 14 ys) (.int .i64 (ys.length : Int)) (.int .i64 j) (.bool f) (.lst 1 (byteD s))) (by omega) (by show s0.length + _ ≤ _; omega) (fun j f s hj hb K => ?_) fun f2 s2 W => ?_
    · have hj' : j < ys.length := by omega
      obtain ⟨p1, ok⟩ := h j hj hj'
      refine Ev.eq (fun n => ast_printer_items_L0_eq n _ _ _ _ _) (Ev.yes (decide_eq_true (by omega)) (Ev.yes (in_range hj') ?_))
      rw [get_nat hj']
      refine Ev.yes ok ?_
      (refine Ev.bindC (p1 f s hb) ?_; rintro _ _ ⟨⟨f2, s2⟩, h, w2⟩; cases h; have lw2 := Wr.len w2; (try simp only [List.length_append, List.length_cons, List.length_nil] at lw2); refine ⟨rfl, Ev.yes rfl ?_⟩)
      exact K f2 s2 w2
    · exact Ev.eq (fun n => ast_printer_items_L0_eq n _ _ _ _ _) (Ev.no (decide_eq_false (by omega)) (Ev.ret ⟨(f2, s2), by rw [el], W⟩))
  · obtain ⟨⟨f2, s2⟩, h, w2⟩ := h
    cases h
    exact Ev.yes rfl (Ev.ret ⟨(f2, s2), rfl, w2⟩)
theorem netItem {T : NT} (hT : ∀ p ∈ T, p.1 ∈ tyT) {m : Nat} {x y : D} (h : xN T x) (h' : OI m x y) : Pr (fun n => ast_printer_item n (expTy ty_iiiissbl6l6l8l14l14l5l5 y)) (poW x ++ [(3, [59])]) := by
  have hp := netP hT h h'
  rw [oi_exp h'] at hp ⊢
  obtain ⟨nm, ty, sg, es, fs, rfl⟩ := xN_form h
  obtain ⟨m', k', nm', ty', sg', es', fs', bs, its, els, ps, qs, bs', its', els', ps', qs', _, e, rfl, _⟩ := oi_form h'
  cases e
  intro f s hb
  rw [List.length_append] at hb
  simp only [List.length_cons, List.length_nil] at hb
  refine Ev.eq (fun n => ast_printer_item_eq n 1 0 0 0 nm ty sg es fs bs' its' els' ps' qs' f (byteD s)) (Ev.yes rfl ?_)
  (refine Ev.bindC (hp f s (by omega)) ?_; rintro _ _ ⟨⟨f1, s1⟩, h, w1⟩; cases h; have lw1 := Wr.len w1; (try simp only [List.length_append, List.length_cons, List.length_nil] at lw1); refine ⟨rfl, Ev.yes rfl ?_⟩)
  (refine Ev.bindC ((lineP (ws := [(3, [59])]) (shortW_of rfl) (by decide) (by decide) f1 s1 (by simp only [List.length_cons, List.length_nil]; omega))) ?_; rintro _ _ ⟨⟨f2, s2⟩, h, w2⟩; cases h; have lw2 := Wr.len w2; (try simp only [List.length_append, List.length_cons, List.length_nil] at lw2); refine ⟨rfl, Ev.yes (and_tt rfl (plainB _ _ _)) ?_⟩)
  exact Ev.ret ⟨(f2, s2), rfl, w1.app w2⟩
theorem paramP {nm ty : List UInt8} {x : D} (hn : gw nm) (ht : gw ty) (hx : wfE 4 x) (k : Int) (sg : Bool) (fs bs its els ps qs : List D) : Pr (fun n => ast_printer_param n (AI k nm ty sg [x] fs bs its els ps qs)) ([(1, ty), (1, nm), (3, [61])] ++ wE 4 x) := by
  intro f s hb
  simp only [List.length_append, List.length_cons, List.length_nil] at hb
  refine Ev.eq (fun n => ast_printer_param_eq n k 0 0 0 nm ty sg [x] fs bs its els ps qs f (byteD s)) ?_
  (refine Ev.bindC ((word_pr (ws := [(1, ty), (1, nm), (3, [61])]) (shortW_cons ht (shortW_cons hn (shortW_of rfl))) (by simp) f s (by simp only [List.length_cons, List.length_nil]; omega))) ?_; rintro _ _ ⟨⟨f1, s1⟩, h, w1⟩; cases h; have lw1 := Wr.len w1; (try simp only [List.length_append, List.length_cons, List.length_nil] at lw1); refine ⟨rfl, Ev.yes (and_tt rfl (plainB _ _ _)) ?_⟩)
  (refine Ev.bindC (listP (exprP 4) (xs := [x]) (by simp) (fun e h => by rw [List.mem_singleton.1 h]; exact hx) f1 s1 (by show s1.length + 14 * (wE 4 x).length ≤ _; omega)) ?_; rintro _ _ ⟨⟨f2, s2⟩, h, w2⟩; cases h; have lw2 := Wr.len w2; (try simp only [List.length_append, List.length_cons, List.length_nil] at lw2); refine ⟨rfl, Ev.yes rfl ?_⟩)
  exact Ev.ret ⟨(f2, s2), rfl, w1.app w2⟩
theorem stmtP4 {x y : D} (h : wfS 4 x) (h' : OS 4 x y) : Pr (fun n => ast_printer_stmt n (expTy ty_iiiisl6l8l9 y)) (wS 4 x) := by rw [os_exp h']; exact stmtP 4 x y h h'
theorem left_op {x : D} (h : isLeft x) : aW (wE 4) x = wE 4 x := by
  obtain ⟨k, t, ar, rfl, _, h, _⟩ := h
  rcases h with ⟨rfl, _⟩ | ⟨rfl, _⟩ | ⟨rfl, _⟩ <;> rfl
section
variable {d : Nat} (ih : ∀ x y m, xI d x → OI m x y → Pr (fun n => ast_printer_item n (expTy ty_iiiissbl6l6l8l14l14l5l5 y)) (wI d x))
include ih
theorem itemsP {its its' : List D} {m : Nat} (hl : its.length ≤ 10) (hi : ∀ i ∈ its, xI d i) (hR : Rl (OI m) its its') : Pr (fun n => ast_printer_items n (.lst 14 its')) (its.flatMap (wI d)) :=
  itemsG hR.1 (by omega) fun j hj hj' => ⟨ih _ _ m (hi _ (List.getElem_mem hj)) (hR.2 j hj hj'), oi_ok (hR.2 j hj hj')⟩
theorem blockP {t : List UInt8} {its ys : List D} {m : Nat} (ht : gw t) (hl : its.length ≤ 2) (hi : ∀ i ∈ its, xI d i) (hR : Rl (OI m) [gB t its] ys) : Pr (fun n => ast_printer_block n (.lst 14 ys)) ([gB t its].flatMap (blW (wI d))) := by
  obtain ⟨y, rfl, hO⟩ := Rl1 hR
  obtain ⟨m', k', nm', ty', sg', es', fs', bs, its2, els, ps, qs, bs', its', els', ps', qs', _, e, rfl, _, hI, _⟩ := oi_form hO
  cases e
  have p1 := itemsP ih (by omega) hi hI
  intro f s hb
  have eW : [gB t its].flatMap (blW (wI d)) = [(1, beginT), (3, [58]), (1, t)] ++ (its.flatMap (wI d) ++ [(1, endS)]) := by
    show ([(1, beginT), (3, [58]), (1, t)] ++ (its.flatMap (wI d) ++ [(1, endS)])) ++ [] = _
    rw [List.append_nil]
  rw [eW] at hb ⊢
  simp only [List.length_append, List.length_cons, List.length_nil] at hb
  refine Ev.eq (fun n => ast_printer_block_eq n _ _ _) (Ev.bindL (Q := fun r => ∃ st : Bool × List UInt8, r = (false, [.lst 14 [AI 11 t [] false [] [] bs' its' els' ps' qs'], .int .i64 1, .int .i64 1, .bool st.1, .lst 1 (byteD st.2)]) ∧ Wr (f, s) st ([(1, beginT), (3, [58]), (1, t)] ++ (its.flatMap (wI d) ++ [(1, endS)]))) ?_ (fun ds h => by obtain ⟨_, h, _⟩ := h; cases h) fun ds h => ?_)
  · refine Ev.eq (fun n => ast_printer_block_L0_eq n _ _ _ _ _) (Ev.yes rfl (Ev.yes rfl (Ev.yes rfl ?_)))
    (refine Ev.bindC ((lineP (ws := [(1, beginT), (3, [58]), (1, t)]) (shortW_cons (by decide) (shortW_cons (by decide) (shortW_cons ht (shortW_of rfl)))) (by simp) (by simp) f s (by simp only [List.length_cons, List.length_nil]; omega))) ?_; rintro _ _ ⟨⟨f1, s1⟩, h, w1⟩; cases h; have lw1 := Wr.len w1; (try simp only [List.length_append, List.length_cons, List.length_nil] at lw1); refine ⟨rfl, Ev.yes (and_tt rfl (plainB _ _ _)) ?_⟩)
    (refine Ev.bindC (p1 f1 s1 (by omega)) ?_; rintro _ _ ⟨⟨f2, s2⟩, h, w2⟩; cases h; have lw2 := Wr.len w2; (try simp only [List.length_append, List.length_cons, List.length_nil] at lw2); refine ⟨rfl, Ev.yes rfl ?_⟩)
    (refine Ev.bindC ((lineP (ws := [(1, endS)]) (shortW_of rfl) (by decide) (by decide) f2 s2 (by simp only [List.length_cons, List.length_nil]; omega))) ?_; rintro _ _ ⟨⟨f3, s3⟩, h, w3⟩; cases h; have lw3 := Wr.len w3; (try simp only [List.length_append, List.length_cons, List.length_nil] at lw3); refine ⟨rfl, Ev.yes (and_tt rfl (plainB _ _ _)) ?_⟩)
    exact Ev.eq (fun n => ast_printer_block_L0_eq n _ _ _ _ _) (Ev.no rfl (Ev.ret ⟨(f3, s3), rfl, w1.app (w2.app w3)⟩))
  · obtain ⟨⟨f2, s2⟩, h, w2⟩ := h
    cases h
    exact Ev.yes rfl (Ev.ret ⟨(f2, s2), rfl, w2⟩)
end
def fnW (sg : Bool) (nm : List UInt8) (es its : List D) (x : D) : List Tk := [(1, funT)] ++ ((bif sg then [(1, sgnT)] else []) ++ (boW es ++ ([(1, nm), (3, [59])] ++ (its.flatMap nIW ++ (wS 4 x ++ [(1, efunT)])))))
theorem functionP {T : NT} (hT : ∀ p ∈ T, p.1 ∈ tyT) {m : Nat} {nm ty : List UInt8} {sg : Bool} {es fs its els ps qs its' els' ps' qs' : List D} {x y : D} (hn : gw nm) (hl : es.length ≤ 2) (he : ∀ e ∈ es, wfE 4 e) (hi : its.length ≤ 10) (hx : ∀ i ∈ its, xN T i) (hs : wfS 4 x) (hO : OS 4 x y) (hI : Rl (OI m) its its') :
    Pr (fun n => ast_printer_function n (AI 7 nm ty sg es fs [y] its' els' ps' qs')) (fnW sg nm es its x) := by
  have p1 := boundsQ hl he
  have p2 : Pr (fun n => ast_printer_items n (.lst 14 its')) (its.flatMap nIW) := itemsG hI.1 (by omega) fun j hj hj' => ⟨netItem hT (hx _ (List.getElem_mem hj)) (hI.2 j hj hj'), oi_ok (hI.2 j hj hj')⟩
  have p3 := stmtP4 hs hO
  intro f s hb
  unfold fnW at hb ⊢
  have J : ∀ (f1 : Bool) (s1 : List UInt8) (u : List Tk), Wr (f, s) (f1, s1) u → s1.length + 14 * (boW es ++ ([(1, nm), (3, [59])] ++ (its.flatMap nIW ++ (wS 4 x ++ [(1, efunT)]))) : List Tk).length ≤ 68000000000 → Ev (fun n => ast_printer_function_j1 n (byteD s1) f1 es nm its' [y]) (fun r => ∃ st : Bool × List UInt8, r = (true, [.bool st.1, .lst 1 (byteD st.2)]) ∧ Wr (f, s) st (u ++ (boW es ++ ([(1, nm), (3, [59])] ++ (its.flatMap nIW ++ (wS 4 x ++ [(1, efunT)])))))) := by
    intro f1 s1 u hu hb
    simp only [List.length_append, List.length_cons, List.length_nil] at hb
    refine evDf (fun n => ast_printer_function_j1_def n _ _ _ _ _ _) ?_
    (refine Ev.bindC (p1 f1 s1 (by omega)) ?_; rintro _ _ ⟨⟨f2, s2⟩, h, w2⟩; cases h; have lw2 := Wr.len w2; (try simp only [List.length_append, List.length_cons, List.length_nil] at lw2); refine ⟨rfl, Ev.yes rfl ?_⟩)
    (refine Ev.bindC ((lineP (ws := [(1, nm), (3, [59])]) (shortW_cons hn (shortW_of rfl)) (by simp) (by simp) f2 s2 (by simp only [List.length_cons, List.length_nil]; omega))) ?_; rintro _ _ ⟨⟨f3, s3⟩, h, w3⟩; cases h; have lw3 := Wr.len w3; (try simp only [List.length_append, List.length_cons, List.length_nil] at lw3); refine ⟨rfl, Ev.yes (and_tt rfl (plainB _ _ _)) ?_⟩)
    (refine Ev.bindC (p2 f3 s3 (by omega)) ?_; rintro _ _ ⟨⟨f4, s4⟩, h, w4⟩; cases h; have lw4 := Wr.len w4; (try simp only [List.length_append, List.length_cons, List.length_nil] at lw4); refine ⟨rfl, Ev.yes rfl ?_⟩)
    refine Ev.yes rfl (Ev.yes (os_ok hO) ?_)
    (refine Ev.bindC (p3 f4 s4 (by omega)) ?_; rintro _ _ ⟨⟨f5, s5⟩, h, w5⟩; cases h; have lw5 := Wr.len w5; (try simp only [List.length_append, List.length_cons, List.length_nil] at lw5); refine ⟨rfl, Ev.yes rfl ?_⟩)
    (refine Ev.bindC ((lineP (ws := [(1, efunT)]) (shortW_of rfl) (by decide) (by decide) f5 s5 (by simp only [List.length_cons, List.length_nil]; omega))) ?_; rintro _ _ ⟨⟨f6, s6⟩, h, w6⟩; cases h; have lw6 := Wr.len w6; (try simp only [List.length_append, List.length_cons, List.length_nil] at lw6); refine ⟨rfl, Ev.yes (and_tt rfl (plainB _ _ _)) ?_⟩)
    exact Ev.ret ⟨(f6, s6), rfl, hu.app (w2.app (w3.app (w4.app (w5.app w6))))⟩
  refine Ev.eq (fun n => ast_printer_function_eq n 7 0 0 0 nm ty sg es fs [y] its' els' ps' qs' f (byteD s)) ?_
  generalize (boW es ++ ([(1, nm), (3, [59])] ++ (its.flatMap nIW ++ (wS 4 x ++ [(1, efunT)]))) : List Tk) = R at hb J ⊢
  cases sg with
  | true =>
    simp only [cond_true, List.length_append, List.length_cons, List.length_nil] at hb
    (refine Ev.bindC ((word_pr (ws := [(1, funT)]) (shortW_of rfl) (by decide) f s (by simp only [List.length_cons, List.length_nil]; omega))) ?_; rintro _ _ ⟨⟨f1, s1⟩, h, w1⟩; cases h; have lw1 := Wr.len w1; (try simp only [List.length_append, List.length_cons, List.length_nil] at lw1); refine ⟨rfl, Ev.yes (and_tt rfl (plainB _ _ _)) ?_⟩)
    refine Ev.yes rfl ?_
    (refine Ev.bindC ((word_pr (ws := [(1, sgnT)]) (shortW_of rfl) (by decide) f1 s1 (by simp only [List.length_cons, List.length_nil]; omega))) ?_; rintro _ _ ⟨⟨f2, s2⟩, h, w2⟩; cases h; have lw2 := Wr.len w2; (try simp only [List.length_append, List.length_cons, List.length_nil] at lw2); refine ⟨rfl, Ev.yes (and_tt rfl (plainB _ _ _)) ?_⟩)
    refine (J f2 s2 _ (w1.app w2) (by omega)).mono fun r ⟨st, h1, h2⟩ => ⟨st, h1, ?_⟩
    rw [List.append_assoc] at h2
    exact h2
  | false =>
    simp only [cond_false, List.length_append, List.length_cons, List.length_nil] at hb
    (refine Ev.bindC ((word_pr (ws := [(1, funT)]) (shortW_of rfl) (by decide) f s (by simp only [List.length_cons, List.length_nil]; omega))) ?_; rintro _ _ ⟨⟨f1, s1⟩, h, w1⟩; cases h; have lw1 := Wr.len w1; (try simp only [List.length_append, List.length_cons, List.length_nil] at lw1); refine ⟨rfl, Ev.yes (and_tt rfl (plainB _ _ _)) ?_⟩)
    exact Ev.no rfl (J f1 s1 _ w1 (by omega))
end Go.Proofs.YtalibicpmfbieaaGreatDoor
