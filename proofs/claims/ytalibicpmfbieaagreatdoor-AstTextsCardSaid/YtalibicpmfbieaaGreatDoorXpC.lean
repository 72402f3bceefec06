/- An expression is written as its words: by its depth. -/
import Derived.Test.YtalibicpmfbieaaGreatDoorXpB
namespace Go.Proofs.YtalibicpmfbieaaGreatDoor
open Go.AE
set_option linter.unusedVariables false
set_option linter.unusedSimpArgs false
theorem exprP : ∀ (d : Nat) (x : D), wfE d x → Pr (fun n => ast_printer_expr n x) (wE d x) := by
  intro d
  induction d with
  | zero => intro x h; exact h.elim
  | succ d ih =>
    rintro x ⟨k, t, ar, rfl, hs, ha⟩ f s hb
    rw [wE_E] at hb ⊢
    refine Ev.eq (fun n => ast_printer_expr_eq n k 0 0 0 t ar f (byteD s)) ?_
    rcases hs with ⟨rfl, ht, hm⟩ | ⟨rfl, ht, hm⟩ | ⟨rfl, ht, hm⟩ | ⟨rfl, ht, hm⟩ | ⟨rfl, rfl, hm⟩ | ⟨rfl, rfl, hm, hm2⟩ | ⟨rfl, rfl, hm, hm2⟩ | ⟨rfl, ht, hm⟩ | ⟨rfl, ht, hm⟩ | ⟨rfl, ht, hm, hm2⟩
    · have h12 := tab_short (T := numT) rfl ht
      (replace hb : s.length + 14 * ([(2, t)] : List Tk).length ≤ 68000000000 := hb; simp only [List.length_append, List.length_cons, List.length_nil] at hb)
      refine Ev.no rfl (Ev.no rfl (Ev.no rfl (Ev.no rfl (Ev.no rfl (Ev.no rfl (evDf (fun n => ast_printer_expr_j1_def n _ _ _ _ _ _) (Ev.no rfl (Ev.no rfl ?_))))))))
      (refine Ev.bindC ((word_pr (ws := [(2, t)]) (shortW_cons h12 (shortW_of rfl)) (by simp) f s (by simp only [List.length_cons, List.length_nil]; omega))) ?_; rintro _ _ ⟨⟨f1, s1⟩, h, w1⟩; cases h; have lw1 := Wr.len w1; (try simp only [List.length_append, List.length_cons, List.length_nil] at lw1); refine ⟨rfl, Ev.yes (and_tt rfl (plainB _ _ _)) ?_⟩)
      exact Ev.ret ⟨(f1, s1), rfl, w1⟩
    · have h12 := tab_short (T := nameT) rfl ht
      (replace hb : s.length + 14 * ([(1, t)] : List Tk).length ≤ 68000000000 := hb; simp only [List.length_append, List.length_cons, List.length_nil] at hb)
      refine Ev.no rfl (Ev.no rfl (Ev.no rfl (Ev.no rfl (Ev.no rfl (Ev.no rfl (evDf (fun n => ast_printer_expr_j1_def n _ _ _ _ _ _) (Ev.no rfl (Ev.no rfl ?_))))))))
      (refine Ev.bindC ((word_pr (ws := [(1, t)]) (shortW_cons h12 (shortW_of rfl)) (by simp) f s (by simp only [List.length_cons, List.length_nil]; omega))) ?_; rintro _ _ ⟨⟨f1, s1⟩, h, w1⟩; cases h; have lw1 := Wr.len w1; (try simp only [List.length_append, List.length_cons, List.length_nil] at lw1); refine ⟨rfl, Ev.yes (and_tt rfl (plainB _ _ _)) ?_⟩)
      exact Ev.ret ⟨(f1, s1), rfl, w1⟩
    · have h12 := tab_short (T := unT) rfl ht
      match ar, hm, ha with
      | [x], _, ha =>
        have h1 := ha x (by simp)
        (replace hb : s.length + 14 * ([(3, t)] ++ aW (wE d) x : List Tk).length ≤ 68000000000 := hb; simp only [List.length_append, List.length_cons, List.length_nil] at hb)
        refine Ev.yes rfl ?_
        (refine Ev.bindC ((word_pr (ws := [(3, t)]) (shortW_cons h12 (shortW_of rfl)) (by simp) f s (by simp only [List.length_cons, List.length_nil]; omega))) ?_; rintro _ _ ⟨⟨f1, s1⟩, h, w1⟩; cases h; have lw1 := Wr.len w1; (try simp only [List.length_append, List.length_cons, List.length_nil] at lw1); refine ⟨rfl, Ev.yes (and_tt rfl (plainB _ _ _)) ?_⟩)
        (refine Ev.bindC (between1 ih h1 f1 s1 (by omega)) ?_; rintro _ _ ⟨⟨f2, s2⟩, h, w2⟩; cases h; have lw2 := Wr.len w2; (try simp only [List.length_append, List.length_cons, List.length_nil] at lw2); refine ⟨rfl, Ev.yes rfl ?_⟩)
        exact Ev.ret ⟨(f2, s2), rfl, w1.app w2⟩
    · have h12 := tab_short (T := opT) rfl ht
      match ar, hm, ha with
      | [x, y], _, ha =>
        have h1 := ha x (by simp)
        have h2 := ha y (by simp)
        refine Ev.no rfl (Ev.yes rfl ?_)
        (refine Ev.bindC (between2 ih h12 h1 h2 f s hb) ?_; rintro _ _ ⟨⟨f2, s2⟩, h, w2⟩; cases h; have lw2 := Wr.len w2; (try simp only [List.length_append, List.length_cons, List.length_nil] at lw2); refine ⟨rfl, Ev.yes (and_tt rfl (plainB _ _ _)) ?_⟩)
        exact Ev.ret ⟨(f2, s2), rfl, w2⟩
    · match ar, hm, ha with
      | [x, y, z], _, ha =>
        have h1 := ha x (by simp)
        have h2 := ha y (by simp)
        have h3 := ha z (by simp)
        refine Ev.no rfl (Ev.no rfl (Ev.yes rfl ?_))
        (refine Ev.bindC (between3 ih h1 h2 h3 f s hb) ?_; rintro _ _ ⟨⟨f2, s2⟩, h, w2⟩; cases h; have lw2 := Wr.len w2; (try simp only [List.length_append, List.length_cons, List.length_nil] at lw2); refine ⟨rfl, Ev.yes (and_tt rfl (plainB _ _ _)) ?_⟩)
        exact Ev.ret ⟨(f2, s2), rfl, w2⟩
    · (replace hb : s.length + 14 * ([(3, [123])] ++ (lW (wE d) ar ++ [(3, [125])]) : List Tk).length ≤ 68000000000 := hb; simp only [List.length_append, List.length_cons, List.length_nil] at hb)
      refine Ev.no rfl (Ev.no rfl (Ev.no rfl (Ev.yes rfl ?_)))
      (refine Ev.bindC ((word_pr (ws := [(3, [123])]) (shortW_of rfl) (by decide) f s (by simp only [List.length_cons, List.length_nil]; omega))) ?_; rintro _ _ ⟨⟨f1, s1⟩, h, w1⟩; cases h; have lw1 := Wr.len w1; (try simp only [List.length_append, List.length_cons, List.length_nil] at lw1); refine ⟨rfl, Ev.yes (and_tt rfl (plainB _ _ _)) ?_⟩)
      (refine Ev.bindC (listP ih (xs := ar) (by omega) ha f1 s1 (by omega)) ?_; rintro _ _ ⟨⟨f2, s2⟩, h, w2⟩; cases h; have lw2 := Wr.len w2; (try simp only [List.length_append, List.length_cons, List.length_nil] at lw2); refine ⟨rfl, Ev.yes rfl ?_⟩)
      (refine Ev.bindC ((word_pr (ws := [(3, [125])]) (shortW_of rfl) (by decide) f2 s2 (by simp only [List.length_cons, List.length_nil]; omega))) ?_; rintro _ _ ⟨⟨f3, s3⟩, h, w3⟩; cases h; have lw3 := Wr.len w3; (try simp only [List.length_append, List.length_cons, List.length_nil] at lw3); refine ⟨rfl, Ev.yes (and_tt rfl (plainB _ _ _)) ?_⟩)
      exact Ev.ret ⟨(f3, s3), rfl, w1.app (w2.app w3)⟩
    · match ar, hm, hm2, ha with
      | x :: rest, _, hm2, ha =>
        have h1 := ha x (by simp)
        have p1 := exprP' ih h1
        have hr : ∀ y ∈ rest, wfE d y := fun y hy => ha y (List.mem_cons_of_mem _ hy)
        have lr : rest.length ≤ 100 := by simp only [List.length_cons] at hm2; omega
        have p2 := listP ih lr hr
        (replace hb : s.length + 14 * ([(3, [123])] ++ (wE d x ++ ([(3, [123])] ++ (lW (wE d) rest ++ [(3, [125]), (3, [125])]))) : List Tk).length ≤ 68000000000 := hb; simp only [List.length_append, List.length_cons, List.length_nil] at hb)
        refine Ev.no rfl (Ev.no rfl (Ev.no rfl (Ev.no rfl (Ev.yes rfl ?_))))
        (refine Ev.bindC ((word_pr (ws := [(3, [123])]) (shortW_of rfl) (by decide) f s (by simp only [List.length_cons, List.length_nil]; omega))) ?_; rintro _ _ ⟨⟨f1, s1⟩, h, w1⟩; cases h; have lw1 := Wr.len w1; (try simp only [List.length_append, List.length_cons, List.length_nil] at lw1); refine ⟨rfl, Ev.yes (and_tt rfl (plainB _ _ _)) ?_⟩)
        refine Ev.yes (by simp) (Ev.yes (okX h1) ?_)
        (refine Ev.bindC (p1 f1 s1 (by omega)) ?_; rintro _ _ ⟨⟨f2, s2⟩, h, w2⟩; cases h; have lw2 := Wr.len w2; (try simp only [List.length_append, List.length_cons, List.length_nil] at lw2); refine ⟨rfl, Ev.yes rfl ?_⟩)
        (refine Ev.bindC ((word_pr (ws := [(3, [123])]) (shortW_of rfl) (by decide) f2 s2 (by simp only [List.length_cons, List.length_nil]; omega))) ?_; rintro _ _ ⟨⟨f3, s3⟩, h, w3⟩; cases h; have lw3 := Wr.len w3; (try simp only [List.length_append, List.length_cons, List.length_nil] at lw3); refine ⟨rfl, Ev.yes (and_tt rfl (plainB _ _ _)) ?_⟩)
        refine Ev.yes (by simp; omega) ?_
        have e : ((x :: rest).drop 1).take (((x :: rest).length : Int).toNat - 1) = rest := by
          show rest.take (rest.length + 1 - 1) = rest
          rw [Nat.add_sub_cancel, List.take_length]
        rw [e]
        (refine Ev.bindC (p2 f3 s3 (by omega)) ?_; rintro _ _ ⟨⟨f4, s4⟩, h, w4⟩; cases h; have lw4 := Wr.len w4; (try simp only [List.length_append, List.length_cons, List.length_nil] at lw4); refine ⟨rfl, Ev.yes rfl ?_⟩)
        (refine Ev.bindC ((word_pr (ws := [(3, [125]), (3, [125])]) (shortW_of rfl) (by decide) f4 s4 (by simp only [List.length_cons, List.length_nil]; omega))) ?_; rintro _ _ ⟨⟨f5, s5⟩, h, w5⟩; cases h; have lw5 := Wr.len w5; (try simp only [List.length_append, List.length_cons, List.length_nil] at lw5); refine ⟨rfl, Ev.yes (and_tt rfl (plainB _ _ _)) ?_⟩)
        exact Ev.ret ⟨(f5, s5), rfl, w1.app (w2.app (w3.app (w4.app w5)))⟩
    · have h12 := tab_short (T := nameT) rfl ht
      match ar, hm, ha with
      | [x], _, ha =>
        have p1 := boundsP ih (es := [x]) (by simp) ha
        refine Ev.no rfl (Ev.no rfl (Ev.no rfl (Ev.no rfl (Ev.no rfl (Ev.yes rfl (evDf (fun n => ast_printer_expr_j1_def n _ _ _ _ _ _) (Ev.yes rfl ?_)))))))
        (replace hb : s.length + 14 * ([(1, t)] ++ boG (wE d) [x] : List Tk).length ≤ 68000000000 := hb; simp only [List.length_append, List.length_cons, List.length_nil] at hb)
        (refine Ev.bindC ((word_pr (ws := [(1, t)]) (shortW_cons h12 (shortW_of rfl)) (by simp) f s (by simp only [List.length_cons, List.length_nil]; omega))) ?_; rintro _ _ ⟨⟨f1, s1⟩, h, w1⟩; cases h; have lw1 := Wr.len w1; (try simp only [List.length_append, List.length_cons, List.length_nil] at lw1); refine ⟨rfl, Ev.yes (and_tt rfl (plainB _ _ _)) ?_⟩)
        (refine Ev.bindC (p1 f1 s1 (by omega)) ?_; rintro _ _ ⟨⟨f2, s2⟩, h, w2⟩; cases h; have lw2 := Wr.len w2; (try simp only [List.length_append, List.length_cons, List.length_nil] at lw2); refine ⟨rfl, Ev.yes rfl ?_⟩)
        exact Ev.ret ⟨(f2, s2), rfl, w1.app w2⟩
    · have h12 := tab_short (T := nameT) rfl ht
      match ar, hm, ha with
      | [x, y], _, ha =>
        have p1 := boundsP ih (es := [x, y]) (by simp) ha
        refine Ev.no rfl (Ev.no rfl (Ev.no rfl (Ev.no rfl (Ev.no rfl (Ev.no rfl (evDf (fun n => ast_printer_expr_j1_def n _ _ _ _ _ _) (Ev.yes rfl ?_)))))))
        (replace hb : s.length + 14 * ([(1, t)] ++ boG (wE d) [x, y] : List Tk).length ≤ 68000000000 := hb; simp only [List.length_append, List.length_cons, List.length_nil] at hb)
        (refine Ev.bindC ((word_pr (ws := [(1, t)]) (shortW_cons h12 (shortW_of rfl)) (by simp) f s (by simp only [List.length_cons, List.length_nil]; omega))) ?_; rintro _ _ ⟨⟨f1, s1⟩, h, w1⟩; cases h; have lw1 := Wr.len w1; (try simp only [List.length_append, List.length_cons, List.length_nil] at lw1); refine ⟨rfl, Ev.yes (and_tt rfl (plainB _ _ _)) ?_⟩)
        (refine Ev.bindC (p1 f1 s1 (by omega)) ?_; rintro _ _ ⟨⟨f2, s2⟩, h, w2⟩; cases h; have lw2 := Wr.len w2; (try simp only [List.length_append, List.length_cons, List.length_nil] at lw2); refine ⟨rfl, Ev.yes rfl ?_⟩)
        exact Ev.ret ⟨(f2, s2), rfl, w1.app w2⟩
    · have h12 := tab_short (T := callT) rfl ht
      (replace hb : s.length + 14 * ([(1, t), (3, [40])] ++ (lW (wE d) ar ++ [(3, [41])]) : List Tk).length ≤ 68000000000 := hb; simp only [List.length_append, List.length_cons, List.length_nil] at hb)
      refine Ev.no rfl (Ev.no rfl (Ev.no rfl (Ev.no rfl (Ev.no rfl (Ev.no rfl (evDf (fun n => ast_printer_expr_j1_def n _ _ _ _ _ _) (Ev.no rfl (Ev.yes rfl ?_))))))))
      (refine Ev.bindC ((word_pr (ws := [(1, t), (3, [40])]) (shortW_cons h12 (shortW_of rfl)) (by simp) f s (by simp only [List.length_cons, List.length_nil]; omega))) ?_; rintro _ _ ⟨⟨f1, s1⟩, h, w1⟩; cases h; have lw1 := Wr.len w1; (try simp only [List.length_append, List.length_cons, List.length_nil] at lw1); refine ⟨rfl, Ev.yes (and_tt rfl (plainB _ _ _)) ?_⟩)
      (refine Ev.bindC (listP ih (xs := ar) (by omega) ha f1 s1 (by omega)) ?_; rintro _ _ ⟨⟨f2, s2⟩, h, w2⟩; cases h; have lw2 := Wr.len w2; (try simp only [List.length_append, List.length_cons, List.length_nil] at lw2); refine ⟨rfl, Ev.yes rfl ?_⟩)
      (refine Ev.bindC ((word_pr (ws := [(3, [41])]) (shortW_of rfl) (by decide) f2 s2 (by simp only [List.length_cons, List.length_nil]; omega))) ?_; rintro _ _ ⟨⟨f3, s3⟩, h, w3⟩; cases h; have lw3 := Wr.len w3; (try simp only [List.length_append, List.length_cons, List.length_nil] at lw3); refine ⟨rfl, Ev.yes (and_tt rfl (plainB _ _ _)) ?_⟩)
      exact Ev.ret ⟨(f3, s3), rfl, w1.app (w2.app w3)⟩
end Go.Proofs.YtalibicpmfbieaaGreatDoor
