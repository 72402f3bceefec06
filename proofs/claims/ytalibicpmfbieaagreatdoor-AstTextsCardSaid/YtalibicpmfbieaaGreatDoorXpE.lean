/- Statements by their depth. -/
import Derived.Test.YtalibicpmfbieaaGreatDoorXpD
namespace Go.Proofs.YtalibicpmfbieaaGreatDoor
open Go.AE
set_option linter.unusedVariables false
set_option linter.unusedSimpArgs false
theorem stmtP : ∀ (d : Nat) (x y : D), wfS d x → OS d x y → Pr (fun n => ast_printer_stmt n y) (wS d x) := by
  intro d
  induction d with
  | zero => intro x y h; exact h.elim
  | succ d ih =>
    rintro x y ⟨k, t, es, bs, zs, rfl, he, hb0, hz, hsh⟩ ⟨k2, t2, es2, bs2, zs2, bs', zs', e, rfl, _, _, _, hR, hZ⟩ f s hb
    cases e
    rw [wS_S] at hb ⊢
    refine Ev.eq (fun n => ast_printer_stmt_eq n k 0 0 0 t es bs' zs' f (byteD s)) ?_
    rcases hsh with ⟨rfl, rfl, rfl, hl, rfl⟩ | ⟨hk, rfl, ⟨l, e, rfl, _⟩, rfl, rfl⟩ | ⟨rfl, rfl, hl, ⟨b, c, rfl, hop⟩, rfl⟩ | ⟨rfl, rfl, hl, rfl, hz1, hz2⟩ | ⟨rfl, rfl, hl, hl2, rfl⟩ | ⟨rfl, ht, hl, rfl, rfl⟩ | ⟨rfl, rfl, rfl, rfl, rfl⟩
    · (replace hb : s.length + 14 * ([(1, beginT)] ++ (bs.flatMap (wS d) ++ [(1, endS)]) : List Tk).length ≤ 68000000000 := hb; simp only [List.length_append, List.length_cons, List.length_nil] at hb)
      refine Ev.yes rfl ?_
      (refine Ev.bindC ((lineP (ws := [(1, beginT)]) (shortW_of rfl) (by decide) (by decide) f s (by simp only [List.length_cons, List.length_nil]; omega))) ?_; rintro _ _ ⟨⟨f1, s1⟩, h, w1⟩; cases h; have lw1 := Wr.len w1; (try simp only [List.length_append, List.length_cons, List.length_nil] at lw1); refine ⟨rfl, Ev.yes (and_tt rfl (plainB _ _ _)) ?_⟩)
      refine Ev.bindL (stmtsP ih (xs := bs) (ys := bs') (by omega) hb0 hR f1 s1 (by omega)) (fun ds h => by obtain ⟨_, h, _⟩ := h; cases h) fun ds h => ?_
      obtain ⟨⟨f2, s2⟩, h, w2⟩ := h
      cases h
      have l2 := w2.len
      refine Ev.yes rfl ?_
      (refine Ev.bindC ((lineP (ws := [(1, endS)]) (shortW_of rfl) (by decide) (by decide) f2 s2 (by simp only [List.length_cons, List.length_nil]; omega))) ?_; rintro _ _ ⟨⟨f3, s3⟩, h, w3⟩; cases h; have lw3 := Wr.len w3; (try simp only [List.length_append, List.length_cons, List.length_nil] at lw3); refine ⟨rfl, Ev.yes (and_tt rfl (plainB _ _ _)) ?_⟩)
      exact Ev.ret ⟨(f3, s3), rfl, w1.app (w2.app w3)⟩
    · have h1 := he l (by simp)
      have h2 := he e (by simp)
      have p1 := exprQ h1
      have p2 := exprQ h2
      rcases hk with rfl | rfl
      · (replace hb : s.length + 14 * (wE 4 l ++ ([(3, [61])] ++ (wE 4 e ++ [(3, [59])])) : List Tk).length ≤ 68000000000 := hb; simp only [List.length_append, List.length_cons, List.length_nil] at hb)
        refine Ev.no rfl (Ev.yes rfl (evDf (fun n => ast_printer_stmt_j1_def n _ _ _ _ _ _ _ _) (Ev.yes rfl (Ev.yes rfl (Ev.yes (okE4 h1) ?_)))))
        (refine Ev.bindC (p1 f s (by omega)) ?_; rintro _ _ ⟨⟨f1, s1⟩, h, w1⟩; cases h; have lw1 := Wr.len w1; (try simp only [List.length_append, List.length_cons, List.length_nil] at lw1); refine ⟨rfl, Ev.yes rfl ?_⟩)
        refine Ev.yes rfl ?_
        (refine Ev.bindC ((word_pr (ws := [(3, [61])]) (shortW_of rfl) (by decide) f1 s1 (by simp only [List.length_cons, List.length_nil]; omega))) ?_; rintro _ _ ⟨⟨f2, s2⟩, h, w2⟩; cases h; have lw2 := Wr.len w2; (try simp only [List.length_append, List.length_cons, List.length_nil] at lw2); refine ⟨rfl, Ev.yes (and_tt rfl (plainB _ _ _)) ?_⟩)
        refine evDf (fun n => ast_printer_stmt_j2_def n _ _ _) (Ev.yes rfl (Ev.yes (okE4 h2) ?_))
        (refine Ev.bindC (p2 f2 s2 (by omega)) ?_; rintro _ _ ⟨⟨f3, s3⟩, h, w3⟩; cases h; have lw3 := Wr.len w3; (try simp only [List.length_append, List.length_cons, List.length_nil] at lw3); refine ⟨rfl, Ev.yes rfl ?_⟩)
        (refine Ev.bindC ((lineP (ws := [(3, [59])]) (shortW_of rfl) (by decide) (by decide) f3 s3 (by simp only [List.length_cons, List.length_nil]; omega))) ?_; rintro _ _ ⟨⟨f4, s4⟩, h, w4⟩; cases h; have lw4 := Wr.len w4; (try simp only [List.length_append, List.length_cons, List.length_nil] at lw4); refine ⟨rfl, Ev.yes (and_tt rfl (plainB _ _ _)) ?_⟩)
        exact Ev.ret ⟨(f4, s4), rfl, w1.app (w2.app (w3.app w4))⟩
      · (replace hb : s.length + 14 * (wE 4 l ++ ([(3, [60, 61])] ++ (wE 4 e ++ [(3, [59])])) : List Tk).length ≤ 68000000000 := hb; simp only [List.length_append, List.length_cons, List.length_nil] at hb)
        refine Ev.no rfl (Ev.no rfl (evDf (fun n => ast_printer_stmt_j1_def n _ _ _ _ _ _ _ _) (Ev.yes rfl (Ev.yes rfl (Ev.yes (okE4 h1) ?_)))))
        (refine Ev.bindC (p1 f s (by omega)) ?_; rintro _ _ ⟨⟨f1, s1⟩, h, w1⟩; cases h; have lw1 := Wr.len w1; (try simp only [List.length_append, List.length_cons, List.length_nil] at lw1); refine ⟨rfl, Ev.yes rfl ?_⟩)
        refine Ev.no rfl ?_
        (refine Ev.bindC ((word_pr (ws := [(3, [60, 61])]) (shortW_of rfl) (by decide) f1 s1 (by simp only [List.length_cons, List.length_nil]; omega))) ?_; rintro _ _ ⟨⟨f2, s2⟩, h, w2⟩; cases h; have lw2 := Wr.len w2; (try simp only [List.length_append, List.length_cons, List.length_nil] at lw2); refine ⟨rfl, Ev.yes (and_tt rfl (plainB _ _ _)) ?_⟩)
        refine evDf (fun n => ast_printer_stmt_j2_def n _ _ _) (Ev.yes rfl (Ev.yes (okE4 h2) ?_))
        (refine Ev.bindC (p2 f2 s2 (by omega)) ?_; rintro _ _ ⟨⟨f3, s3⟩, h, w3⟩; cases h; have lw3 := Wr.len w3; (try simp only [List.length_append, List.length_cons, List.length_nil] at lw3); refine ⟨rfl, Ev.yes rfl ?_⟩)
        (refine Ev.bindC ((lineP (ws := [(3, [59])]) (shortW_of rfl) (by decide) (by decide) f3 s3 (by simp only [List.length_cons, List.length_nil]; omega))) ?_; rintro _ _ ⟨⟨f4, s4⟩, h, w4⟩; cases h; have lw4 := Wr.len w4; (try simp only [List.length_append, List.length_cons, List.length_nil] at lw4); refine ⟨rfl, Ev.yes (and_tt rfl (plainB _ _ _)) ?_⟩)
        exact Ev.ret ⟨(f4, s4), rfl, w1.app (w2.app (w3.app w4))⟩
    · obtain ⟨b', c', rfl, hb', hc'⟩ := Rl2 hR
      have hb1 := hb0 b (by simp)
      have hc1 := hb0 c (by simp)
      match es, hl, he with
      | [e], _, he =>
        have h1 := he e (by simp)
        have p1 := parenP h1
        have p2 := stmtQ ih hb1 hb'
        have p3 := stmtQ ih hc1 hc'
        have pt := thenP ih hb1 hb'
        obtain ⟨kc, tc, ec, bc, zc, bc', zc', rfl, rfl⟩ := os_form hc'
        refine Ev.no rfl (Ev.no rfl (evDf (fun n => ast_printer_stmt_j1_def n _ _ _ _ _ _ _ _) (Ev.no rfl (Ev.yes rfl ?_))))
        have eW : sW (wS d) 4 [] [e] [b, S kc tc ec bc zc] [] = [(1, ifT)] ++ (pW e ++ (wS d b ++ (bif kc == 8 then [] else [(1, elseT)] ++ wS d (S kc tc ec bc zc)))) := rfl
        rw [eW] at hb ⊢
        have hb2 : s.length + 14 * (1 + ((pW e).length + ((wS d b).length + (bif kc == 8 then [] else [(1, elseT)] ++ wS d (S kc tc ec bc zc) : List Tk).length))) ≤ 68000000000 := by simpa only [List.length_append, List.length_cons, List.length_nil, Nat.zero_add] using hb
        clear hb
        (refine Ev.bindC ((word_pr (ws := [(1, ifT)]) (shortW_of rfl) (by decide) f s (by simp only [List.length_cons, List.length_nil]; omega))) ?_; rintro _ _ ⟨⟨f1, s1⟩, h, w1⟩; cases h; have lw1 := Wr.len w1; (try simp only [List.length_append, List.length_cons, List.length_nil] at lw1); refine ⟨rfl, Ev.yes (and_tt rfl (plainB _ _ _)) ?_⟩)
        refine Ev.yes rfl (Ev.yes (okE4 h1) ?_)
        (refine Ev.bindC (p1 f1 s1 (by omega)) ?_; rintro _ _ ⟨⟨f2, s2⟩, h, w2⟩; cases h; have lw2 := Wr.len w2; (try simp only [List.length_append, List.length_cons, List.length_nil] at lw2); refine ⟨rfl, Ev.yes rfl ?_⟩)
        refine Ev.yes rfl (Ev.yes rfl (Ev.yes rfl (Ev.test (fun h8 => ?_) fun h8 => ?_)))
        · have h8 : (kc == 8) = true := h8
          rw [h8] at hb2 ⊢
          refine Ev.yes rfl (Ev.yes (os_ok hb') ?_)
          (refine Ev.bindC (p2 f2 s2 (by omega)) ?_; rintro _ _ ⟨⟨f3, s3⟩, h, w3⟩; cases h; have lw3 := Wr.len w3; (try simp only [List.length_append, List.length_cons, List.length_nil] at lw3); refine ⟨rfl, Ev.yes rfl ?_⟩)
          refine Ev.ret ⟨(f3, s3), rfl, ?_⟩
          have W := w1.app (w2.app w3)
          simpa using W
        · have h8 : (kc == 8) = false := h8
          rw [h8] at hb2 ⊢
          simp only [cond_false, List.length_append, List.length_cons, List.length_nil] at hb2
          have ho : openS d b = false := by
            rcases hop with h | h
            · exact absurd (congrArg (fun x => (x.at_ 0).i == 8) h) (by show ¬ (kc == 8) = true; rw [h8]; decide)
            · exact h
          refine Ev.yes rfl (Ev.yes (os_ok hb') ?_)
          (refine Ev.bindC (pt ho f2 s2 (by omega)) ?_; rintro _ _ ⟨⟨f3, s3⟩, h, w3⟩; cases h; have lw3 := Wr.len w3; (try simp only [List.length_append, List.length_cons, List.length_nil] at lw3); refine ⟨rfl, Ev.yes rfl ?_⟩)
          (refine Ev.bindC ((word_pr (ws := [(1, elseT)]) (shortW_of rfl) (by decide) f3 s3 (by simp only [List.length_cons, List.length_nil]; omega))) ?_; rintro _ _ ⟨⟨f4, s4⟩, h, w4⟩; cases h; have lw4 := Wr.len w4; (try simp only [List.length_append, List.length_cons, List.length_nil] at lw4); refine ⟨rfl, Ev.yes (and_tt rfl (plainB _ _ _)) ?_⟩)
          refine Ev.yes rfl (Ev.yes (os_ok hc') ?_)
          (refine Ev.bindC (p3 f4 s4 (by omega)) ?_; rintro _ _ ⟨⟨f5, s5⟩, h, w5⟩; cases h; have lw5 := Wr.len w5; (try simp only [List.length_append, List.length_cons, List.length_nil] at lw5); refine ⟨rfl, Ev.yes rfl ?_⟩)
          exact Ev.ret ⟨(f5, s5), rfl, w1.app (w2.app (w3.app (w4.app w5)))⟩
    · match es, hl, he with
      | [e], _, he =>
        have h1 := he e (by simp)
        have p1 := parenP h1
        (replace hb : s.length + 14 * ([(1, caseT)] ++ (pW e ++ (zs.flatMap (armT (wS d)) ++ [(1, ecaseT)])) : List Tk).length ≤ 68000000000 := hb; simp only [List.length_append, List.length_cons, List.length_nil] at hb)
        refine Ev.no rfl (Ev.no rfl (evDf (fun n => ast_printer_stmt_j1_def n _ _ _ _ _ _ _ _) (Ev.no rfl (Ev.no rfl (Ev.yes rfl ?_)))))
        refine Ev.bindC (word_ex (ws := [(1, caseT)]) (shortW_of rfl) (by decide) f s (by simp only [List.length_cons, List.length_nil]; omega)) ?_
        rintro _ _ ⟨⟨f1, s1⟩, h, w1, e1⟩; cases h
        have l1 := PI_len (ws := [(1, caseT)]) (shortW_of rfl) (f, s)
        rw [← e1] at l1
        replace l1 : s1.length ≤ s.length + 13 := l1
        refine ⟨rfl, Ev.yes (and_tt rfl (plainB _ _ _)) (Ev.yes rfl (Ev.yes (okE4 h1) ?_))⟩
        (refine Ev.bindC (p1 f1 s1 (by omega)) ?_; rintro _ _ ⟨⟨f2, s2⟩, h, w2⟩; cases h; have lw2 := Wr.len w2; (try simp only [List.length_append, List.length_cons, List.length_nil] at lw2); refine ⟨rfl, Ev.yes rfl ?_⟩)
        refine Ev.bindC (line0 f2 (s := s2) (by omega)) ?_
        intro _ _ h; cases h
        have W1 : Wr (f, s) (true, s2 ++ [10]) ([(1, caseT)] ++ pW e) := w1.nl (by show s1.length + 1 ≤ s.length + 14 * 1; omega) w2
        have l3 := W1.len
        simp only [List.length_append, List.length_cons, List.length_nil] at l3
        refine ⟨rfl, Ev.yes rfl (Ev.bindL (armsP ih (xs := zs) (ys := zs') (by omega) hz hZ true (s2 ++ [10]) (by simp only [List.length_append, List.length_cons, List.length_nil]; omega)) (fun ds h => by obtain ⟨_, h, _⟩ := h; cases h) fun ds h => ?_)⟩
        obtain ⟨⟨f3, s3⟩, h, w3⟩ := h
        cases h
        have l4 := w3.len
        simp only [List.length_append, List.length_cons, List.length_nil] at l4
        refine Ev.yes rfl ?_
        (refine Ev.bindC ((lineP (ws := [(1, ecaseT)]) (shortW_of rfl) (by decide) (by decide) f3 s3 (by simp only [List.length_cons, List.length_nil]; omega))) ?_; rintro _ _ ⟨⟨f4, s4⟩, h, w4⟩; cases h; have lw4 := Wr.len w4; (try simp only [List.length_append, List.length_cons, List.length_nil] at lw4); refine ⟨rfl, Ev.yes (and_tt rfl (plainB _ _ _)) ?_⟩)
        refine Ev.ret ⟨(f4, s4), rfl, ?_⟩
        have W := W1.app (w3.app w4)
        show Wr (f, s) (f4, s4) ([(1, caseT)] ++ (pW e ++ (zs.flatMap (armT (wS d)) ++ [(1, ecaseT)])))
        rw [List.append_assoc] at W
        exact W
    · obtain ⟨b, rfl⟩ : ∃ b, bs = [b] := by
        match bs, hl2 with
        | [b], _ => exact ⟨b, rfl⟩
      obtain ⟨b', rfl, hb'⟩ := Rl1 hR
      have p2 := stmtQ ih (hb0 b (by simp)) hb'
      match es, hl, he with
      | [x, y, z], _, he =>
        have p1 := loopP (t := [105]) (by decide) (he x (by simp)) (he y (by simp)) (he z (by simp))
        (replace hb : s.length + 14 * (loopT [105] [x, y, z] ++ wS d b : List Tk).length ≤ 68000000000 := hb; simp only [List.length_append, List.length_cons, List.length_nil] at hb)
        refine Ev.no rfl (Ev.no rfl (evDf (fun n => ast_printer_stmt_j1_def n _ _ _ _ _ _ _ _) (Ev.no rfl (Ev.no rfl (Ev.no rfl (Ev.yes rfl ?_))))))
        (refine Ev.bindC (p1 f s (by omega)) ?_; rintro _ _ ⟨⟨f1, s1⟩, h, w1⟩; cases h; have lw1 := Wr.len w1; (try simp only [List.length_append, List.length_cons, List.length_nil] at lw1); refine ⟨rfl, Ev.yes rfl ?_⟩)
        refine Ev.yes rfl (Ev.yes (os_ok hb') ?_)
        (refine Ev.bindC (p2 f1 s1 (by omega)) ?_; rintro _ _ ⟨⟨f2, s2⟩, h, w2⟩; cases h; have lw2 := Wr.len w2; (try simp only [List.length_append, List.length_cons, List.length_nil] at lw2); refine ⟨rfl, Ev.yes rfl ?_⟩)
        exact Ev.ret ⟨(f2, s2), rfl, w1.app w2⟩
    · match es, hl, he with
      | [e], _, he =>
        have h1 := he e (by simp)
        have p1 := parenP h1
        have J : ∀ (f : Bool) (s : List UInt8), s.length + 14 * ([(1, asrT)] ++ (pW e ++ [(3, [59])]) : List Tk).length ≤ 68000000000 → Ev (fun n => ast_printer_stmt_j3 n (byteD s) f [e]) fun r => ∃ st : Bool × List UInt8, r = (true, [.bool st.1, .lst 1 (byteD st.2)]) ∧ Wr (f, s) st ([(1, asrT)] ++ (pW e ++ [(3, [59])])) := by
          intro f s hb
          simp only [List.length_append, List.length_cons, List.length_nil] at hb
          refine evDf (fun n => ast_printer_stmt_j3_def n _ _ _) ?_
          (refine Ev.bindC ((word_pr (ws := [(1, asrT)]) (shortW_of rfl) (by decide) f s (by simp only [List.length_cons, List.length_nil]; omega))) ?_; rintro _ _ ⟨⟨f1, s1⟩, h, w1⟩; cases h; have lw1 := Wr.len w1; (try simp only [List.length_append, List.length_cons, List.length_nil] at lw1); refine ⟨rfl, Ev.yes (and_tt rfl (plainB _ _ _)) ?_⟩)
          refine Ev.yes rfl (Ev.yes (okE4 h1) ?_)
          (refine Ev.bindC (p1 f1 s1 (by omega)) ?_; rintro _ _ ⟨⟨f2, s2⟩, h, w2⟩; cases h; have lw2 := Wr.len w2; (try simp only [List.length_append, List.length_cons, List.length_nil] at lw2); refine ⟨rfl, Ev.yes rfl ?_⟩)
          (refine Ev.bindC ((lineP (ws := [(3, [59])]) (shortW_of rfl) (by decide) (by decide) f2 s2 (by simp only [List.length_cons, List.length_nil]; omega))) ?_; rintro _ _ ⟨⟨f3, s3⟩, h, w3⟩; cases h; have lw3 := Wr.len w3; (try simp only [List.length_append, List.length_cons, List.length_nil] at lw3); refine ⟨rfl, Ev.yes (and_tt rfl (plainB _ _ _)) ?_⟩)
          exact Ev.ret ⟨(f3, s3), rfl, w1.app (w2.app w3)⟩
        refine Ev.no rfl (Ev.no rfl (evDf (fun n => ast_printer_stmt_j1_def n _ _ _ _ _ _ _ _) (Ev.no rfl (Ev.no rfl (Ev.no rfl (Ev.no rfl (Ev.yes rfl ?_)))))))
        rcases ht with rfl | rfl
        · exact Ev.no rfl (J f s hb)
        · (replace hb : s.length + 14 * ([(1, [112, 49]), (3, [58])] ++ ([(1, asrT)] ++ (pW e ++ [(3, [59])])) : List Tk).length ≤ 68000000000 := hb; simp only [List.length_append, List.length_cons, List.length_nil] at hb)
          refine Ev.yes rfl ?_
          (refine Ev.bindC ((word_pr (ws := [(1, [112, 49]), (3, [58])]) (shortW_of rfl) (by decide) f s (by simp only [List.length_cons, List.length_nil]; omega))) ?_; rintro _ _ ⟨⟨f1, s1⟩, h, w1⟩; cases h; have lw1 := Wr.len w1; (try simp only [List.length_append, List.length_cons, List.length_nil] at lw1); refine ⟨rfl, Ev.yes (and_tt rfl (plainB _ _ _)) ?_⟩)
          exact (J f1 s1 (by simp only [List.length_append, List.length_cons, List.length_nil]; omega)).mono fun r ⟨st, h1, h2⟩ => ⟨st, h1, w1.app h2⟩
    · (replace hb : s.length + 14 * ([(3, [59])] : List Tk).length ≤ 68000000000 := hb; simp only [List.length_append, List.length_cons, List.length_nil] at hb)
      refine Ev.no rfl (Ev.no rfl (evDf (fun n => ast_printer_stmt_j1_def n _ _ _ _ _ _ _ _) (Ev.no rfl (Ev.no rfl (Ev.no rfl (Ev.no rfl (Ev.no rfl ?_)))))))
      (refine Ev.bindC ((lineP (ws := [(3, [59])]) (shortW_of rfl) (by decide) (by decide) f s (by simp only [List.length_cons, List.length_nil]; omega))) ?_; rintro _ _ ⟨⟨f1, s1⟩, h, w1⟩; cases h; have lw1 := Wr.len w1; (try simp only [List.length_append, List.length_cons, List.length_nil] at lw1); refine ⟨rfl, Ev.yes (and_tt rfl (plainB _ _ _)) ?_⟩)
      exact Ev.ret ⟨(f1, s1), rfl, w1⟩
end Go.Proofs.YtalibicpmfbieaaGreatDoor
