/- Items by their depth. -/
import Derived.Test.YtalibicpmfbieaaGreatDoorXpG
namespace Go.Proofs.YtalibicpmfbieaaGreatDoor
open Go.AE
set_option linter.unusedVariables false
set_option linter.unusedSimpArgs false
theorem dig_gw (c : UInt8) (hc : gw [c]) {k : UInt8} (hk : k.toNat ≤ 8) : gw [c, 48 + k] := by
  have a : ∀ n : Nat, n ≤ 8 → (!((48 + UInt8.ofNat n) == 32) && !((48 + UInt8.ofNat n) == 10)) = true := by decide +kernel
  have a := a _ hk
  rw [UInt8.ofNat_toNat] at a
  have hc : (true && (true && ((!(c == 32) && !(c == 10)) && true))) = true := hc
  rw [Bool.true_and, Bool.true_and, Bool.and_true] at hc
  show (true && (true && ((!(c == 32) && !(c == 10)) && ((!((48 + k) == 32) && !((48 + k) == 10)) && true)))) = true
  rw [hc, a]; rfl
theorem itemP : ∀ (d : Nat) (x y : D) (m : Nat), xI d x → OI m x y → Pr (fun n => ast_printer_item n (expTy ty_iiiissbl6l6l8l14l14l5l5 y)) (wI d x) := by
  intro d
  induction d with
  | zero => intro x y m h; exact h.elim
  | succ d ih =>
    intro x y m h h'
    rcases h with (h | h) | ⟨nm, e, rfl, hn, he⟩ | ⟨nm, rfl, hn⟩ | ⟨l, e, rfl, hlf, he⟩ | ⟨s0, rfl, hs⟩ | ⟨s0, rfl, hs⟩ | ⟨sg, es, its, s0, rfl, hl, he, _, hi, hx, hs⟩ | ⟨k, ps, qs, rfl, hk, hp, hq, hpc, hqc⟩ | ⟨es, its, rfl, hl, he, hi, hx⟩ | ⟨e, its, els, rfl, he, hi, hx, hel⟩
    · have hp := netItem (T := wireN) (by decide) h h'
      obtain ⟨nm, ty, sg, es, fs, rfl⟩ := xN_form h
      exact hp
    · have hp := netItem (T := regN) (by decide) h h'
      obtain ⟨nm, ty, sg, es, fs, rfl⟩ := xN_form h
      exact hp
    all_goals
      rw [oi_exp h']
      obtain ⟨m', k', nm', ty', sg', es', fs', bs2, its2, els2, ps2, qs2, bs', its', els', ps', qs', _, e', rfl, hB, hI, hE, hP, hQ⟩ := oi_form h'
      cases e'
    · have h12 := tab_short (T := nameT) rfl hn
      have hp := paramP h12 (ty := lparT) (by decide) he 2 false [] bs' its' els' ps' qs'
      intro f s hb
      (replace hb : s.length + 14 * ([(1, lparT), (1, nm), (3, [61])] ++ (wE 4 e ++ [(3, [59])]) : List Tk).length ≤ 68000000000 := hb; simp only [List.length_append, List.length_cons, List.length_nil] at hb)
      refine Ev.eq (fun n => ast_printer_item_eq n 2 0 0 0 nm lparT false [e] [] bs' its' els' ps' qs' f (byteD s)) (Ev.no rfl (Ev.yes rfl ?_))
      (refine Ev.bindC (hp f s (by simp only [List.length_append, List.length_cons, List.length_nil]; omega)) ?_; rintro _ _ ⟨⟨f1, s1⟩, h, w1⟩; cases h; have lw1 := Wr.len w1; (try simp only [List.length_append, List.length_cons, List.length_nil] at lw1); refine ⟨rfl, Ev.yes rfl ?_⟩)
      (refine Ev.bindC ((lineP (ws := [(3, [59])]) (shortW_of rfl) (by decide) (by decide) f1 s1 (by simp only [List.length_cons, List.length_nil]; omega))) ?_; rintro _ _ ⟨⟨f2, s2⟩, h, w2⟩; cases h; have lw2 := Wr.len w2; (try simp only [List.length_append, List.length_cons, List.length_nil] at lw2); refine ⟨rfl, Ev.yes (and_tt rfl (plainB _ _ _)) ?_⟩)
      refine Ev.ret ⟨(f2, s2), rfl, ?_⟩
      have W := w1.app w2
      rw [List.append_assoc] at W
      exact W
    · have h12 := tab_short (T := nameT) rfl hn
      intro f s hb
      (replace hb : s.length + 14 * ([(1, genT), (1, nm), (3, [59])] : List Tk).length ≤ 68000000000 := hb; simp only [List.length_append, List.length_cons, List.length_nil] at hb)
      refine Ev.eq (fun n => ast_printer_item_eq n 3 0 0 0 nm [] false [] [] bs' its' els' ps' qs' f (byteD s)) (Ev.no rfl (Ev.no rfl (Ev.yes rfl ?_)))
      (refine Ev.bindC ((lineP (ws := [(1, genT), (1, nm), (3, [59])]) (shortW_cons (by decide) (shortW_cons h12 (shortW_of rfl))) (by simp) (by simp) f s (by simp only [List.length_cons, List.length_nil]; omega))) ?_; rintro _ _ ⟨⟨f1, s1⟩, h, w1⟩; cases h; have lw1 := Wr.len w1; (try simp only [List.length_append, List.length_cons, List.length_nil] at lw1); refine ⟨rfl, Ev.yes (and_tt rfl (plainB _ _ _)) ?_⟩)
      exact Ev.ret ⟨(f1, s1), rfl, w1⟩
    · have hl4 : wfE 4 l := wfE_up (by decide) (isLeft_wf hlf)
      have p1 := between1 (exprP 4) hl4
      rw [left_op hlf] at p1
      have p2 := exprQ he
      intro f s hb
      (replace hb : s.length + 14 * ([(1, assT')] ++ (wE 4 l ++ ([(3, [61])] ++ (wE 4 e ++ [(3, [59])]))) : List Tk).length ≤ 68000000000 := hb; simp only [List.length_append, List.length_cons, List.length_nil] at hb)
      refine Ev.eq (fun n => ast_printer_item_eq n 4 0 0 0 [] [] false [l, e] [] bs' its' els' ps' qs' f (byteD s)) (Ev.no rfl (Ev.no rfl (Ev.no rfl (Ev.yes rfl ?_))))
      (refine Ev.bindC ((word_pr (ws := [(1, assT')]) (shortW_of rfl) (by decide) f s (by simp only [List.length_cons, List.length_nil]; omega))) ?_; rintro _ _ ⟨⟨f1, s1⟩, h, w1⟩; cases h; have lw1 := Wr.len w1; (try simp only [List.length_append, List.length_cons, List.length_nil] at lw1); refine ⟨rfl, Ev.yes (and_tt rfl (plainB _ _ _)) ?_⟩)
      refine Ev.yes rfl ?_
      (refine Ev.bindC (p1 f1 s1 (by omega)) ?_; rintro _ _ ⟨⟨f2, s2⟩, h, w2⟩; cases h; have lw2 := Wr.len w2; (try simp only [List.length_append, List.length_cons, List.length_nil] at lw2); refine ⟨rfl, Ev.yes rfl ?_⟩)
      (refine Ev.bindC ((word_pr (ws := [(3, [61])]) (shortW_of rfl) (by decide) f2 s2 (by simp only [List.length_cons, List.length_nil]; omega))) ?_; rintro _ _ ⟨⟨f3, s3⟩, h, w3⟩; cases h; have lw3 := Wr.len w3; (try simp only [List.length_append, List.length_cons, List.length_nil] at lw3); refine ⟨rfl, Ev.yes (and_tt rfl (plainB _ _ _)) ?_⟩)
      refine Ev.yes rfl (Ev.yes (okE4 he) ?_)
      (refine Ev.bindC (p2 f3 s3 (by omega)) ?_; rintro _ _ ⟨⟨f4, s4⟩, h, w4⟩; cases h; have lw4 := Wr.len w4; (try simp only [List.length_append, List.length_cons, List.length_nil] at lw4); refine ⟨rfl, Ev.yes rfl ?_⟩)
      (refine Ev.bindC ((lineP (ws := [(3, [59])]) (shortW_of rfl) (by decide) (by decide) f4 s4 (by simp only [List.length_cons, List.length_nil]; omega))) ?_; rintro _ _ ⟨⟨f5, s5⟩, h, w5⟩; cases h; have lw5 := Wr.len w5; (try simp only [List.length_append, List.length_cons, List.length_nil] at lw5); refine ⟨rfl, Ev.yes (and_tt rfl (plainB _ _ _)) ?_⟩)
      exact Ev.ret ⟨(f5, s5), rfl, w1.app (w2.app (w3.app (w4.app w5)))⟩
    · obtain ⟨y0, rfl, hO⟩ := Rl1 hB
      have p1 := stmtP4 hs hO
      intro f s hb
      (replace hb : s.length + 14 * ([(1, alwT), (3, [64]), (3, [42])] ++ wS 4 s0 : List Tk).length ≤ 68000000000 := hb; simp only [List.length_append, List.length_cons, List.length_nil] at hb)
      refine Ev.eq (fun n => ast_printer_item_eq n 5 0 0 0 [] [] false [] [] [y0] its' els' ps' qs' f (byteD s)) (Ev.no rfl (Ev.no rfl (Ev.no rfl (Ev.no rfl (Ev.yes rfl ?_)))))
      (refine Ev.bindC ((word_pr (ws := [(1, alwT), (3, [64]), (3, [42])]) (shortW_of rfl) (by decide) f s (by simp only [List.length_cons, List.length_nil]; omega))) ?_; rintro _ _ ⟨⟨f1, s1⟩, h, w1⟩; cases h; have lw1 := Wr.len w1; (try simp only [List.length_append, List.length_cons, List.length_nil] at lw1); refine ⟨rfl, Ev.yes (and_tt rfl (plainB _ _ _)) ?_⟩)
      refine Ev.yes rfl (Ev.yes (os_ok hO) ?_)
      (refine Ev.bindC (p1 f1 s1 (by omega)) ?_; rintro _ _ ⟨⟨f2, s2⟩, h, w2⟩; cases h; have lw2 := Wr.len w2; (try simp only [List.length_append, List.length_cons, List.length_nil] at lw2); refine ⟨rfl, Ev.yes rfl ?_⟩)
      exact Ev.ret ⟨(f2, s2), rfl, w1.app w2⟩
    · obtain ⟨y0, rfl, hO⟩ := Rl1 hB
      have p1 := stmtP4 hs hO
      intro f s hb
      (replace hb : s.length + 14 * ([(1, alwT), (3, [64]), (3, [40]), (1, posT), (1, clkT), (3, [41])] ++ wS 4 s0 : List Tk).length ≤ 68000000000 := hb; simp only [List.length_append, List.length_cons, List.length_nil] at hb)
      refine Ev.eq (fun n => ast_printer_item_eq n 6 0 0 0 clkT [] false [] [] [y0] its' els' ps' qs' f (byteD s)) (Ev.no rfl (Ev.no rfl (Ev.no rfl (Ev.no rfl (Ev.no rfl (Ev.yes rfl ?_))))))
      (refine Ev.bindC ((word_pr (ws := [(1, alwT), (3, [64]), (3, [40]), (1, posT), (1, clkT), (3, [41])]) (shortW_of rfl) (by decide) f s (by simp only [List.length_cons, List.length_nil]; omega))) ?_; rintro _ _ ⟨⟨f1, s1⟩, h, w1⟩; cases h; have lw1 := Wr.len w1; (try simp only [List.length_append, List.length_cons, List.length_nil] at lw1); refine ⟨rfl, Ev.yes (and_tt rfl (plainB _ _ _)) ?_⟩)
      refine Ev.yes rfl (Ev.yes (os_ok hO) ?_)
      (refine Ev.bindC (p1 f1 s1 (by omega)) ?_; rintro _ _ ⟨⟨f2, s2⟩, h, w2⟩; cases h; have lw2 := Wr.len w2; (try simp only [List.length_append, List.length_cons, List.length_nil] at lw2); refine ⟨rfl, Ev.yes rfl ?_⟩)
      exact Ev.ret ⟨(f2, s2), rfl, w1.app w2⟩
    · obtain ⟨y0, rfl, hO⟩ := Rl1 hB
      have p1 := functionP (T := funN) (by decide) (nm := [102]) (ty := []) (sg := sg) (fs := []) (els := []) (ps := []) (qs := []) (els' := els') (ps' := ps') (qs' := qs') (by decide) (by omega) he (by omega) hx hs hO hI
      intro f s hb
      replace hb : s.length + 14 * (fnW sg [102] es its s0).length ≤ 68000000000 := hb
      refine Ev.eq (fun n => ast_printer_item_eq n 7 0 0 0 [102] [] sg es [] [y0] its' els' ps' qs' f (byteD s)) (Ev.no rfl (Ev.no rfl (Ev.no rfl (Ev.no rfl (Ev.no rfl (Ev.no rfl (Ev.yes rfl ?_)))))))
      (refine Ev.bindC (p1 f s hb) ?_; rintro _ _ ⟨⟨f1, s1⟩, h, w1⟩; cases h; have lw1 := Wr.len w1; (try simp only [List.length_append, List.length_cons, List.length_nil] at lw1); refine ⟨rfl, Ev.yes rfl ?_⟩)
      exact Ev.ret ⟨(f1, s1), rfl, w1⟩
    · have cp := connsP (by omega) hpc hP
      have cq := connsP (by omega) hqc hQ
      intro f s hb
      have eW : wI (d + 1) (I 8 [117, 48 + k] subT false [] [] [] [] [] ps qs) = [(1, subT)] ++ ((bif ps.isEmpty then [] else [(3, [35])] ++ csW ps) ++ ([(1, [117, 48 + k])] ++ (csW qs ++ [(3, [59])]))) := rfl
      rw [eW] at hb ⊢
      have J : ∀ (f1 : Bool) (s1 : List UInt8) (u : List Tk), Wr (f, s) (f1, s1) u → s1.length + 14 * ([(1, [117, 48 + k])] ++ (csW qs ++ [(3, [59])]) : List Tk).length ≤ 68000000000 → Ev (fun n => ast_printer_item_j1 n (byteD s1) f1 [117, 48 + k] qs') (fun r => ∃ st : Bool × List UInt8, r = (true, [.bool st.1, .lst 1 (byteD st.2)]) ∧ Wr (f, s) st (u ++ ([(1, [117, 48 + k])] ++ (csW qs ++ [(3, [59])])))) := by
        intro f1 s1 u hu hb
        simp only [List.length_append, List.length_cons, List.length_nil] at hb
        refine evDf (fun n => ast_printer_item_j1_def n _ _ _ _) ?_
        (refine Ev.bindC ((word_pr (ws := [(1, [117, 48 + k])]) (shortW_cons (dig_gw 117 (by decide) hk) (shortW_of rfl)) (by simp) f1 s1 (by simp only [List.length_cons, List.length_nil]; omega))) ?_; rintro _ _ ⟨⟨f2, s2⟩, h, w2⟩; cases h; have lw2 := Wr.len w2; (try simp only [List.length_append, List.length_cons, List.length_nil] at lw2); refine ⟨rfl, Ev.yes (and_tt rfl (plainB _ _ _)) ?_⟩)
        (refine Ev.bindC (cq f2 s2 (by omega)) ?_; rintro _ _ ⟨⟨f3, s3⟩, h, w3⟩; cases h; have lw3 := Wr.len w3; (try simp only [List.length_append, List.length_cons, List.length_nil] at lw3); refine ⟨rfl, Ev.yes rfl ?_⟩)
        (refine Ev.bindC ((lineP (ws := [(3, [59])]) (shortW_of rfl) (by decide) (by decide) f3 s3 (by simp only [List.length_cons, List.length_nil]; omega))) ?_; rintro _ _ ⟨⟨f4, s4⟩, h, w4⟩; cases h; have lw4 := Wr.len w4; (try simp only [List.length_append, List.length_cons, List.length_nil] at lw4); refine ⟨rfl, Ev.yes (and_tt rfl (plainB _ _ _)) ?_⟩)
        exact Ev.ret ⟨(f4, s4), rfl, hu.app (w2.app (w3.app w4))⟩
      refine Ev.eq (fun n => ast_printer_item_eq n 8 0 0 0 [117, 48 + k] subT false [] [] bs' its' els' ps' qs' f (byteD s)) (Ev.no rfl (Ev.no rfl (Ev.no rfl (Ev.no rfl (Ev.no rfl (Ev.no rfl (Ev.no rfl (Ev.yes rfl ?_))))))))
      have hb2 : s.length + 14 * (1 + ((bif ps.isEmpty then [] else [(3, [35])] ++ csW ps : List Tk).length + ([(1, [117, 48 + k])] ++ (csW qs ++ [(3, [59])]) : List Tk).length)) ≤ 68000000000 := by
        rw [List.length_append, List.length_append] at hb; simpa only [List.length_cons, List.length_nil, Nat.zero_add] using hb
      clear hb
      (refine Ev.bindC ((word_pr (ws := [(1, subT)]) (shortW_of rfl) (by decide) f s (by simp only [List.length_cons, List.length_nil]; omega))) ?_; rintro _ _ ⟨⟨f1, s1⟩, h, w1⟩; cases h; have lw1 := Wr.len w1; (try simp only [List.length_append, List.length_cons, List.length_nil] at lw1); refine ⟨rfl, Ev.yes (and_tt rfl (plainB _ _ _)) ?_⟩)
      have el := hP.1
      refine Ev.test (fun h0 => ?_) fun h0 => ?_
      · have h0 := of_decide_eq_true h0
        have : ps.isEmpty = false := by
          cases ps with
          | nil => simp at el; omega
          | cons => rfl
        rw [this] at hb2 ⊢
        simp only [cond_false] at hb2
        rw [List.length_append] at hb2
        simp only [List.length_cons, List.length_nil] at hb2
        (refine Ev.bindC ((word_pr (ws := [(3, [35])]) (shortW_of rfl) (by decide) f1 s1 (by simp only [List.length_cons, List.length_nil]; omega))) ?_; rintro _ _ ⟨⟨f2, s2⟩, h, w2⟩; cases h; have lw2 := Wr.len w2; (try simp only [List.length_append, List.length_cons, List.length_nil] at lw2); refine ⟨rfl, Ev.yes (and_tt rfl (plainB _ _ _)) ?_⟩)
        (refine Ev.bindC (cp f2 s2 (by omega)) ?_; rintro _ _ ⟨⟨f3, s3⟩, h, w3⟩; cases h; have lw3 := Wr.len w3; (try simp only [List.length_append, List.length_cons, List.length_nil] at lw3); refine ⟨rfl, Ev.yes rfl ?_⟩)
        refine (J f3 s3 _ (w1.app (w2.app w3)) (by omega)).mono fun r ⟨st, h1, h2⟩ => ⟨st, h1, ?_⟩
        simpa using h2
      · have h0 := of_decide_eq_false h0
        have : ps = [] := List.length_eq_zero_iff.1 (by omega)
        subst this
        exact J f1 s1 _ w1 (by omega)
    · have pb := blockP ih (t := [103]) (by decide) hi hx hI
      match es, hl, he with
      | [a, b, c], _, he =>
        have p1 := loopP (t := [105]) (by decide) (he a (by simp)) (he b (by simp)) (he c (by simp))
        intro f s hb
        (replace hb : s.length + 14 * (loopT [105] [a, b, c] ++ [gB [103] its].flatMap (blW (wI d)) : List Tk).length ≤ 68000000000 := hb; simp only [List.length_append, List.length_cons, List.length_nil] at hb)
        refine Ev.eq (fun n => ast_printer_item_eq n 9 0 0 0 [105] [] false [a, b, c] [] bs' its' els' ps' qs' f (byteD s)) (Ev.no rfl (Ev.no rfl (Ev.no rfl (Ev.no rfl (Ev.no rfl (Ev.no rfl (Ev.no rfl (Ev.no rfl (Ev.yes rfl ?_)))))))))
        (refine Ev.bindC (p1 f s (by omega)) ?_; rintro _ _ ⟨⟨f1, s1⟩, h, w1⟩; cases h; have lw1 := Wr.len w1; (try simp only [List.length_append, List.length_cons, List.length_nil] at lw1); refine ⟨rfl, Ev.yes rfl ?_⟩)
        (refine Ev.bindC (pb f1 s1 (by omega)) ?_; rintro _ _ ⟨⟨f2, s2⟩, h, w2⟩; cases h; have lw2 := Wr.len w2; (try simp only [List.length_append, List.length_cons, List.length_nil] at lw2); refine ⟨rfl, Ev.yes rfl ?_⟩)
        exact Ev.ret ⟨(f2, s2), rfl, w1.app w2⟩
    · have pb := blockP ih (t := [116]) (by decide) hi hx hI
      have p1 := parenP he
      intro f s hb
      have eW : wI (d + 1) (I 10 [] [] false [e] [] [] [gB [116] its] els [] []) = [(1, ifT)] ++ (pW e ++ ([gB [116] its].flatMap (blW (wI d)) ++ (bif els.isEmpty then [] else [(1, elseT)] ++ els.flatMap (blW (wI d))))) := rfl
      rw [eW] at hb ⊢
      refine Ev.eq (fun n => ast_printer_item_eq n 10 0 0 0 [] [] false [e] [] bs' its' els' ps' qs' f (byteD s)) (Ev.no rfl (Ev.no rfl (Ev.no rfl (Ev.no rfl (Ev.no rfl (Ev.no rfl (Ev.no rfl (Ev.no rfl (Ev.no rfl (Ev.yes rfl ?_))))))))))
      have hb2 : s.length + 14 * (1 + ((pW e).length + (([gB [116] its].flatMap (blW (wI d))).length + (bif els.isEmpty then [] else [(1, elseT)] ++ els.flatMap (blW (wI d)) : List Tk).length))) ≤ 68000000000 := by
        rw [List.length_append, List.length_append, List.length_append] at hb; simpa only [List.length_cons, List.length_nil, Nat.zero_add] using hb
      clear hb
      (refine Ev.bindC ((word_pr (ws := [(1, ifT)]) (shortW_of rfl) (by decide) f s (by simp only [List.length_cons, List.length_nil]; omega))) ?_; rintro _ _ ⟨⟨f1, s1⟩, h, w1⟩; cases h; have lw1 := Wr.len w1; (try simp only [List.length_append, List.length_cons, List.length_nil] at lw1); refine ⟨rfl, Ev.yes (and_tt rfl (plainB _ _ _)) ?_⟩)
      refine Ev.yes rfl (Ev.yes (okE4 he) ?_)
      (refine Ev.bindC (p1 f1 s1 (by omega)) ?_; rintro _ _ ⟨⟨f2, s2⟩, h, w2⟩; cases h; have lw2 := Wr.len w2; (try simp only [List.length_append, List.length_cons, List.length_nil] at lw2); refine ⟨rfl, Ev.yes rfl ?_⟩)
      have l2 : s2.length ≤ s1.length + 14 * (pW e).length := w2.len
      refine Ev.bindC (pb f2 s2 (by omega)) ?_
      rintro _ _ ⟨⟨f3, s3⟩, h, w3⟩; cases h
      have l3 : s3.length ≤ s2.length + 14 * ([gB [116] its].flatMap (blW (wI d))).length := w3.len
      refine ⟨rfl, Ev.yes rfl ?_⟩
      rcases hel with rfl | ⟨zs, rfl, hz, hzx⟩
      · have : els' = [] := List.length_eq_zero_iff.1 hE.1.symm
        subst this
        exact Ev.no rfl (Ev.ret ⟨(f3, s3), rfl, by simpa using w1.app (w2.app w3)⟩)
      · have pe := blockP ih (t := [101]) (by decide) hz hzx hE
        have el := hE.1
        rw [show (bif ([gB [101] zs] : List D).isEmpty then [] else [(1, elseT)] ++ [gB [101] zs].flatMap (blW (wI d)) : List Tk) = [(1, elseT)] ++ [gB [101] zs].flatMap (blW (wI d)) from rfl] at hb2 ⊢
        rw [List.singleton_append, List.length_cons] at hb2
        refine Ev.yes (decide_eq_true (by simp at el; omega)) ?_
        (refine Ev.bindC ((word_pr (ws := [(1, elseT)]) (shortW_of rfl) (by decide) f3 s3 (by simp only [List.length_cons, List.length_nil]; omega))) ?_; rintro _ _ ⟨⟨f4, s4⟩, h, w4⟩; cases h; have lw4 := Wr.len w4; (try simp only [List.length_append, List.length_cons, List.length_nil] at lw4); refine ⟨rfl, Ev.yes (and_tt rfl (plainB _ _ _)) ?_⟩)
        refine Ev.bindC (pe f4 s4 (by omega)) ?_
        rintro _ _ ⟨⟨f5, s5⟩, h, w5⟩; cases h
        refine ⟨rfl, Ev.yes rfl ?_⟩
        exact Ev.ret ⟨(f5, s5), rfl, w1.app (w2.app (w3.app (w4.app w5)))⟩
end Go.Proofs.YtalibicpmfbieaaGreatDoor
