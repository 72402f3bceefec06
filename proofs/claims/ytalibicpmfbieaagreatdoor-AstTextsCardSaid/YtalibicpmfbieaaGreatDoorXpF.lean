/- Nets, connections and parameters are written as their words. -/
import Derived.Test.YtalibicpmfbieaaGreatDoorXpE
namespace Go.Proofs.YtalibicpmfbieaaGreatDoor
open Go.AE
set_option linter.unusedVariables false
set_option linter.unusedSimpArgs false
def tyT : List (List UInt8) := [wireT, regT, intT, inT, outT, oregT]
def tyW (ty : List UInt8) : List Tk := bif ty == oregT then [(1, outT), (1, regT)] else [(1, ty)]
theorem ty_split {ty : List UInt8} (h : ty ∈ tyT) : (Lib.split ty [32]).map D.str = txt (tyW ty) ∧ shortW (tyW ty) ∧ (tyW ty).length ≤ 2 := by
  have a : (tyT.all fun ty => (Lib.split ty [32] == (tyW ty).map (·.2)) && ((tyW ty).all fun p => gwB p.2)) = true := by decide +kernel
  have a := List.all_eq_true.1 a ty h
  rw [Bool.and_eq_true] at a
  refine ⟨?_, shortW_of a.2, ?_⟩
  · rw [eq_of_beq a.1]; simp [txt]
  · unfold tyW; cases ty == oregT <;> simp
theorem split_ev {ty : List UInt8} (h : ty ∈ tyT) : Ev (fun n => strings_Split n (.str ty) (.str [32])) fun r => r = (true, [.lst 1 (txt (tyW ty))]) := by
  have a : (tyT.all fun ty => Nat.ble ty.length 4294967280) = true := by decide +kernel
  have a := List.all_eq_true.1 a ty h
  refine Ev.eq (u := fun _ => some (true, [D.lst 1 (txt (tyW ty))])) (fun n => strings_Split_orc n _ _ _ ?_) (Ev.ret rfl)
  show (bif Nat.ble ty.length 4294967280 && true then some [D.lst 1 ((Lib.split ty [32]).map D.str)] else none) = _
  rw [a, (ty_split h).1]; rfl
theorem oi_form {n : Nat} {x y : D} (h : OI n x y) : ∃ m k nm ty sg es fs bs its els ps qs bs' its' els' ps' qs', n = m + 1 ∧ x = I k nm ty sg es fs bs its els ps qs ∧ y = AI k nm ty sg es fs bs' its' els' ps' qs' ∧ Rl (OS 4) bs bs' ∧ Rl (OI m) its its' ∧ Rl (OI m) els els' ∧ Rl OC ps ps' ∧ Rl OC qs qs' := by
  cases n with
  | zero => exact h.elim
  | succ n =>
    obtain ⟨k, nm, ty, sg, es, fs, bs, its, els, ps, qs, bs', its', els', ps', qs', h1, h2, _, _, _, _, _, _, _, h3, h4, h5, h6, h7⟩ := h
    exact ⟨n, k, nm, ty, sg, es, fs, bs, its, els, ps, qs, bs', its', els', ps', qs', rfl, h1, h2, h3, h4, h5, h6, h7⟩
theorem oi_ok {n : Nat} {x y : D} (h : OI n x y) : (notAny ty_iiiissbl6l6l8l14l14l5l5 && okTy ty_iiiissbl6l6l8l14l14l5l5 y) = true := by
  obtain ⟨_, _, _, _, _, _, _, _, _, _, _, _, _, _, _, _, _, _, _, rfl, _⟩ := oi_form h; rfl
theorem oi_exp {n : Nat} {x y : D} (h : OI n x y) : expTy ty_iiiissbl6l6l8l14l14l5l5 y = y := by
  obtain ⟨_, _, _, _, _, _, _, _, _, _, _, _, _, _, _, _, _, _, _, rfl, _⟩ := oi_form h; rfl
theorem boundsQ {es : List D} (hl : es.length ≤ 2) (hx : ∀ x ∈ es, wfE 4 x) : Pr (fun n => ast_printer_bounds n (.lst 6 es)) (boW es) := by rw [← boG_4]; exact boundsP (exprP 4) hl hx
def fsW (fs : List D) : List Tk := bif fs.isEmpty then [] else [(3, [61])] ++ wE 4 (x0 fs)
theorem net3 {fs : List D} (hl : fs.length ≤ 1) (hf : ∀ e ∈ fs, wfE 4 e) (f : Bool) (s : List UInt8) (hb : s.length + 14 * (fsW fs).length ≤ 68000000000) : Ev (fun n => ast_printer_net_j3 n (byteD s) f fs) (fun r => ∃ st : Bool × List UInt8, r = (true, [.bool st.1, .lst 1 (byteD st.2)]) ∧ Wr (f, s) st (fsW fs)) := by
  refine evDf (fun n => ast_printer_net_j3_def n _ _ _) ?_
  match fs, hl, hf, hb with
  | [], _, _, _ => exact Ev.no rfl (Ev.ret ⟨(f, s), rfl, Wr.nil _⟩)
  | [x], _, hf, hb =>
    (replace hb : s.length + 14 * ([(3, [61])] ++ wE 4 x : List Tk).length ≤ 68000000000 := hb; simp only [List.length_append, List.length_cons, List.length_nil] at hb)
    refine Ev.yes rfl ?_
    (refine Ev.bindC ((word_pr (ws := [(3, [61])]) (shortW_of rfl) (by decide) f s (by simp only [List.length_cons, List.length_nil]; omega))) ?_; rintro _ _ ⟨⟨f1, s1⟩, h, w1⟩; cases h; have lw1 := Wr.len w1; (try simp only [List.length_append, List.length_cons, List.length_nil] at lw1); refine ⟨rfl, Ev.yes (and_tt rfl (plainB _ _ _)) ?_⟩)
    (refine Ev.bindC (listP (exprP 4) (xs := [x]) (by simp) hf f1 s1 (by show s1.length + 14 * (wE 4 x).length ≤ _; omega)) ?_; rintro _ _ ⟨⟨f2, s2⟩, h, w2⟩; cases h; have lw2 := Wr.len w2; (try simp only [List.length_append, List.length_cons, List.length_nil] at lw2); refine ⟨rfl, Ev.yes rfl ?_⟩)
    exact Ev.ret ⟨(f2, s2), rfl, w1.app w2⟩
theorem net2 {nm : List UInt8} {es fs : List D} (hn : gw nm) (hl : es.length = 0 ∨ es.length = 2 ∨ es.length = 4) (he : ∀ e ∈ es, wfE 4 e) (hl2 : fs.length ≤ 1) (hf : ∀ e ∈ fs, wfE 4 e) (f : Bool) (s : List UInt8)
    (hb : s.length + 14 * (boW (es.take 2) ++ ([(1, nm)] ++ (boW (es.drop 2) ++ fsW fs)) : List Tk).length ≤ 68000000000) : Ev (fun n => ast_printer_net_j2 n (byteD s) f es nm fs) (fun r => ∃ st : Bool × List UInt8, r = (true, [.bool st.1, .lst 1 (byteD st.2)]) ∧ Wr (f, s) st (boW (es.take 2) ++ ([(1, nm)] ++ (boW (es.drop 2) ++ fsW fs)))) := by
  refine evDf (fun n => ast_printer_net_j2_def n _ _ _ _ _) ?_
  simp only [List.length_append, List.length_cons, List.length_nil] at hb
  have b1 := boundsQ (es := es.take 2) (by rw [List.length_take]; omega) fun e h => he e (List.mem_of_mem_take h)
  have b2 := boundsQ (es := es.drop 2) (by rw [List.length_drop]; omega) fun e h => he e (List.mem_of_mem_drop h)
  have e1 : (es.drop 0).take ((min 2 (es.length : Int)).toNat - 0) = es.take 2 := by
    rw [List.drop_zero, Nat.sub_zero]
    rcases hl with h | h | h <;> rw [h]
    · rw [List.length_eq_zero_iff.1 h]; rfl
    · rfl
    · rfl
  have e2 : (es.drop 2).take ((es.length : Int).toNat - 2) = es.drop 2 := List.take_of_length_le (by rw [List.length_drop, Int.toNat_natCast]; exact Nat.le_refl _)
  rw [e1, e2]
  refine Ev.yes (by rcases hl with h | h | h <;> rw [h] <;> rfl) ?_
  (refine Ev.bindC (b1 f s (by omega)) ?_; rintro _ _ ⟨⟨f1, s1⟩, h, w1⟩; cases h; have lw1 := Wr.len w1; (try simp only [List.length_append, List.length_cons, List.length_nil] at lw1); refine ⟨rfl, Ev.yes rfl ?_⟩)
  (refine Ev.bindC ((word_pr (ws := [(1, nm)]) (shortW_cons hn (shortW_of rfl)) (by simp) f1 s1 (by simp only [List.length_cons, List.length_nil]; omega))) ?_; rintro _ _ ⟨⟨f2, s2⟩, h, w2⟩; cases h; have lw2 := Wr.len w2; (try simp only [List.length_append, List.length_cons, List.length_nil] at lw2); refine ⟨rfl, Ev.yes (and_tt rfl (plainB _ _ _)) ?_⟩)
  refine Ev.test (fun h => ?_) fun h => ?_
  · have h := of_decide_eq_true h
    refine Ev.yes (by rw [decide_eq_true (show (2 : Int) ≤ es.length by omega), decide_eq_true (Int.le_refl _)]; rfl) ?_
    (refine Ev.bindC (b2 f2 s2 (by omega)) ?_; rintro _ _ ⟨⟨f3, s3⟩, h, w3⟩; cases h; have lw3 := Wr.len w3; (try simp only [List.length_append, List.length_cons, List.length_nil] at lw3); refine ⟨rfl, Ev.yes rfl ?_⟩)
    exact (net3 hl2 hf f3 s3 (by omega)).mono fun r ⟨st, h1, h2⟩ => ⟨st, h1, w1.app (w2.app (w3.app h2))⟩
  · have h := of_decide_eq_false h
    have e3 : boW (es.drop 2) = [] := by rw [List.drop_eq_nil_of_le (by omega)]; rfl
    refine (net3 hl2 hf f2 s2 (by omega)).mono fun r ⟨st, h1, h2⟩ => ⟨st, h1, ?_⟩
    rw [e3]
    exact w1.app (w2.app h2)
theorem netP {T : NT} (hT : ∀ p ∈ T, p.1 ∈ tyT) {m : Nat} {x y : D} (h : xN T x) (h' : OI m x y) : Pr (fun n => ast_printer_net n (expTy ty_iiiissbl6l6l8l14l14l5l5 y)) (poW x) := by
  rw [oi_exp h']
  obtain ⟨nm, ty, q, fl, sg, es, fs, rfl, hn, ht, _, _, hl, hf1, he, hf⟩ := h
  obtain ⟨m', k', nm', ty', sg', es', fs', bs, its, els, ps, qs, bs', its', els', ps', qs', _, e, rfl, _⟩ := oi_form h'
  cases e
  have hl2 : fs.length ≤ 1 := by rcases hf1 with rfl | ⟨_, h, _⟩; exact Nat.zero_le _; omega
  have h12 := tab_short (T := nameT) rfl hn
  have hty : ty ∈ tyT := hT _ ht
  obtain ⟨es1, es2, es3⟩ := ty_split hty
  intro f s hb
  have eW : poW (I 1 nm ty sg es fs [] [] [] [] []) = tyW ty ++ ((bif sg && !(ty == intT) then [(1, sgnT)] else []) ++ (boW (es.take 2) ++ ([(1, nm)] ++ (boW (es.drop 2) ++ fsW fs)))) := rfl
  rw [eW] at hb ⊢
  have N := fun f s hb => net2 (nm := nm) h12 hl he hl2 hf f s hb
  generalize (boW (es.take 2) ++ ([(1, nm)] ++ (boW (es.drop 2) ++ fsW fs)) : List Tk) = R at hb N ⊢
  refine Ev.eq (fun n => ast_printer_net_eq n 1 0 0 0 nm ty sg es fs bs' its' els' ps' qs' f (byteD s)) (Ev.bindC (split_ev hty) ?_)
  intro _ _ h; cases h
  refine ⟨rfl, Ev.yes rfl ?_⟩
  simp only [List.length_append] at hb
  (refine Ev.bindC (word_pr (ws := tyW ty) es2 (by omega) f s (by omega)) ?_; rintro _ _ ⟨⟨f1, s1⟩, h, w1⟩; cases h; have lw1 := Wr.len w1; (try simp only [List.length_append, List.length_cons, List.length_nil] at lw1); refine ⟨rfl, Ev.yes (and_tt rfl (plainB _ _ _)) ?_⟩)
  have J : ∀ g : Bool, g = (sg && !(ty == intT)) → Ev (fun n => ast_printer_net_j1 n g [.bool f1, .lst 1 (byteD s1)] es nm fs) (fun r => ∃ st : Bool × List UInt8, r = (true, [.bool st.1, .lst 1 (byteD st.2)]) ∧ Wr (f, s) st (tyW ty ++ ((bif sg && !(ty == intT) then [(1, sgnT)] else []) ++ R))) := by
    intro g hg
    refine evDf (fun n => ast_printer_net_j1_def n _ _ _ _ _) ?_
    rw [← hg] at hb ⊢
    cases g with
    | true =>
      simp only [cond_true, List.length_cons, List.length_nil] at hb
      refine Ev.yes rfl ?_
      (refine Ev.bindC ((word_pr (ws := [(1, sgnT)]) (shortW_of rfl) (by decide) f1 s1 (by simp only [List.length_cons, List.length_nil]; omega))) ?_; rintro _ _ ⟨⟨f2, s2⟩, h, w2⟩; cases h; have lw2 := Wr.len w2; (try simp only [List.length_append, List.length_cons, List.length_nil] at lw2); refine ⟨rfl, Ev.yes (and_tt rfl (plainB _ _ _)) ?_⟩)
      exact (N f2 s2 (by omega)).mono fun r ⟨st, h1, h2⟩ => ⟨st, h1, w1.app (w2.app h2)⟩
    | false =>
      simp only [cond_false, List.length_nil] at hb
      exact Ev.no rfl ((N f1 s1 (by omega)).mono fun r ⟨st, h1, h2⟩ => ⟨st, h1, w1.app h2⟩)
  cases sg with
  | true => exact Ev.yes rfl (J _ rfl)
  | false => exact Ev.no rfl (J _ rfl)
/-- With commas between. -/
theorem lW_pre (w : D → List Tk) : ∀ (b a : List D), (lW w a).length ≤ (lW w (a ++ b)).length
  | [], a => by rw [List.append_nil]; exact Nat.le_refl _
  | x :: b, a => by
    have h := lW_pre w b (a ++ [x])
    rw [lW_snoc, List.length_append, List.append_assoc] at h
    exact Nat.le_trans (Nat.le_add_right _ _) h
theorem prComma {Q : Bool × List D → Prop} {xs : List D} {w : D → List Tk} {T : Int → Bool → List UInt8 → Nat → Out} {f : Bool} {s : List UInt8} (hl : xs.length ≤ 1000) (hb : s.length + 14 * (lW w xs).length ≤ 68000000000)
    (step : ∀ (j : Nat) (f : Bool) (s : List UInt8) (h : j < xs.length), s.length + 14 * ((bif j == 0 then [] else [(3, [44])]) ++ w xs[j] : List Tk).length ≤ 68000000000 → (∀ f1 s1, Wr (f, s) (f1, s1) ((bif j == 0 then [] else [(3, [44])]) ++ w xs[j]) → Ev (T (IntKind.i64.wrap ((j : Int) + 1)) f1 s1) Q) → Ev (T (j : Int) f s) Q)
    (fin : ∀ f1 s1, Wr (f, s) (f1, s1) (lW w xs) → Ev (T (xs.length : Int) f1 s1) Q) : Ev (T 0 f s) Q := by
  have aux : ∀ (m j : Nat) (f1 : Bool) (s1 : List UInt8), xs.length - j = m → j ≤ xs.length → Wr (f, s) (f1, s1) (lW w (xs.take j)) → Ev (T (j : Int) f1 s1) Q := by
    intro m
    induction m with
    | zero =>
      intro j f1 s1 hm hj hw
      have : j = xs.length := by omega
      subst this
      rw [List.take_length] at hw
      exact fin f1 s1 hw
    | succ m ih =>
      intro j f1 s1 hm hj hw
      have hlt : j < xs.length := by omega
      have e0 : (xs.take j).isEmpty = (j == 0) := by
        cases j with
        | zero => rfl
        | succ j =>
          cases xs with
          | nil => simp at hlt
          | cons y r => rfl
      have e : lW w (xs.take (j + 1)) = lW w (xs.take j) ++ ((bif j == 0 then [] else [(3, [44])]) ++ w xs[j]) := by
        rw [List.take_add_one, List.getElem?_eq_getElem hlt, Option.toList_some, lW_snoc, e0]
      have le := lW_pre w (xs.drop (j + 1)) (xs.take (j + 1))
      rw [List.take_append_drop, e, List.length_append] at le
      have l0 := hw.len
      refine step j f1 s1 hlt (by omega) fun f2 s2 h2 => ?_
      rw [wrap_succ (by omega)]
      exact ih (j + 1) f2 s2 (by omega) (by omega) (by rw [e]; exact hw.app h2)
  exact aux xs.length 0 f s rfl (Nat.zero_le _) (Wr.nil _)
theorem connsP {xs ys : List D} (hn : xs.length ≤ 10) (h : ∀ x ∈ xs, xC x) (hR : Rl OC xs ys) : Pr (fun n => ast_printer_conns n (.lst 5 ys)) (csW xs) := by
  have el := hR.1
  intro f s hb
  (replace hb : s.length + 14 * ([(3, [40])] ++ (lW cW xs ++ [(3, [41])]) : List Tk).length ≤ 68000000000 := hb; simp only [List.length_append, List.length_cons, List.length_nil] at hb)
  refine Ev.eq (fun n => ast_printer_conns_eq n _ _ _) ?_
  (refine Ev.bindC ((word_pr (ws := [(3, [40])]) (shortW_of rfl) (by decide) f s (by simp only [List.length_cons, List.length_nil]; omega))) ?_; rintro _ _ ⟨⟨f0, s0⟩, h, w1⟩; cases h; have lw1 := Wr.len w1; (try simp only [List.length_append, List.length_cons, List.length_nil] at lw1); refine ⟨rfl, Ev.yes (and_tt rfl (plainB _ _ _)) ?_⟩)
  refine Ev.bindL (Q := fun r => ∃ st : Bool × List UInt8, r = (false, [.lst 5 ys, .int .i64 (ys.length : Int), .int .i64 (ys.length : Int), .bool st.1, .lst 1 (byteD st.2)]) ∧ Wr (f0, s0) st (lW cW xs)) ?_ (fun ds h => by obtain ⟨_, h, _⟩ := h; cases h) fun ds h => ?_
  · refine prComma (xs := xs) (w := cW) (T := fun j f s n => ast_printer_conns_L0 n (.lst 5 ys) (.int .i64 (ys.length : Int)) (.int .i64 j) (.bool f) (.lst 1 (byteD s))) (by omega) (by show s0.length + _ ≤ _; omega) (fun j f s hj hb K => ?_) fun f2 s2 W => ?_
    · have hj' : j < ys.length := by omega
      obtain ⟨nm, es, e, hnm, hle, hes⟩ := h xs[j] (List.getElem_mem hj)
      obtain ⟨nm2, es2, e2, ey, _⟩ := hR.2 j hj hj'
      have e3 := e.symm.trans e2
      cases e3
      have h12 := tab_short (T := nameT) rfl hnm
      have eC : cW xs[j] = [(3, [46]), (1, nm), (3, [40])] ++ (lW (wE 4) es ++ [(3, [41])]) := by rw [e]; rfl
      rw [eC] at hb K
      have J : ∀ (f1 : Bool) (s1 : List UInt8) (u : List Tk), Wr (f, s) (f1, s1) u → s1.length + 14 * ([(3, [46]), (1, nm), (3, [40])] ++ (lW (wE 4) es ++ [(3, [41])]) : List Tk).length ≤ 68000000000 → (∀ f2 s2, Wr (f, s) (f2, s2) (u ++ ([(3, [46]), (1, nm), (3, [40])] ++ (lW (wE 4) es ++ [(3, [41])]))) → Ev (fun n => ast_printer_conns_L0 n (.lst 5 ys) (.int .i64 (ys.length : Int)) (.int .i64 (IntKind.i64.wrap ((j : Int) + 1))) (.bool f2) (.lst 1 (byteD s2))) fun r => ∃ st : Bool × List UInt8, r = (false, [.lst 5 ys, .int .i64 (ys.length : Int), .int .i64 (ys.length : Int), .bool st.1, .lst 1 (byteD st.2)]) ∧ Wr (f0, s0) st (lW cW xs)) →
          Ev (fun n => ast_printer_conns_L0_j1 n (byteD s1) f1 ys (j : Int) (ys.length : Int)) fun r => ∃ st : Bool × List UInt8, r = (false, [.lst 5 ys, .int .i64 (ys.length : Int), .int .i64 (ys.length : Int), .bool st.1, .lst 1 (byteD st.2)]) ∧ Wr (f0, s0) st (lW cW xs) := by
        intro f1 s1 u hu hb K
        simp only [List.length_append, List.length_cons, List.length_nil] at hb
        refine evDf (fun n => ast_printer_conns_L0_j1_def n _ _ _ _ _) ?_
        rw [get_nat hj', ey]
        (refine Ev.bindC ((word_pr (ws := [(3, [46]), (1, nm), (3, [40])]) (shortW_cons (by decide) (shortW_cons h12 (shortW_of rfl))) (by simp) f1 s1 (by simp only [List.length_cons, List.length_nil]; omega))) ?_; rintro _ _ ⟨⟨f2, s2⟩, h, w2⟩; cases h; have lw2 := Wr.len w2; (try simp only [List.length_append, List.length_cons, List.length_nil] at lw2); refine ⟨rfl, Ev.yes (and_tt rfl (plainB _ _ _)) ?_⟩)
        (refine Ev.bindC (listP (exprP 4) (xs := es) (by omega) hes f2 s2 (by omega)) ?_; rintro _ _ ⟨⟨f3, s3⟩, h, w3⟩; cases h; have lw3 := Wr.len w3; (try simp only [List.length_append, List.length_cons, List.length_nil] at lw3); refine ⟨rfl, Ev.yes rfl ?_⟩)
        (refine Ev.bindC ((word_pr (ws := [(3, [41])]) (shortW_of rfl) (by decide) f3 s3 (by simp only [List.length_cons, List.length_nil]; omega))) ?_; rintro _ _ ⟨⟨f4, s4⟩, h, w4⟩; cases h; have lw4 := Wr.len w4; (try simp only [List.length_append, List.length_cons, List.length_nil] at lw4); refine ⟨rfl, Ev.yes (and_tt rfl (plainB _ _ _)) ?_⟩)
        exact K f4 s4 (hu.app (w2.app (w3.app w4)))
      refine Ev.eq (fun n => ast_printer_conns_L0_eq n _ _ _ _ _) (Ev.yes (decide_eq_true (by omega)) (Ev.yes (in_range hj') (Ev.yes (by rw [get_nat hj', ey]; rfl) (Ev.test (fun h0 => ?_) fun h0 => ?_))))
      · have h0 := of_decide_eq_true h0
        rw [show (j == 0) = false from beq_eq_false_iff_ne.2 (by omega)] at hb K
        have hb2 : s.length + 14 * (1 + ([(3, [46]), (1, nm), (3, [40])] ++ (lW (wE 4) es ++ [(3, [41])]) : List Tk).length) ≤ 68000000000 := by
          rw [cond_false, List.length_append] at hb; simpa only [List.length_cons, List.length_nil, Nat.zero_add] using hb
        (refine Ev.bindC ((word_pr (ws := [(3, [44])]) (shortW_of rfl) (by decide) f s (by simp only [List.length_cons, List.length_nil]; omega))) ?_; rintro _ _ ⟨⟨f1, s1⟩, h, w1⟩; cases h; have lw1 := Wr.len w1; (try simp only [List.length_append, List.length_cons, List.length_nil] at lw1); refine ⟨rfl, Ev.yes (and_tt rfl (plainB _ _ _)) ?_⟩)
        exact J f1 s1 _ w1 (by omega) K
      · have h0 := of_decide_eq_false h0
        have : j = 0 := by omega
        subst this
        exact J f s [] (Wr.nil _) hb K
    · exact Ev.eq (fun n => ast_printer_conns_L0_eq n _ _ _ _ _) (Ev.no (decide_eq_false (by omega)) (Ev.ret ⟨(f2, s2), by rw [el], W⟩))
  · obtain ⟨⟨f2, s2⟩, h, w2⟩ := h
    cases h
    have l2 := w2.len
    refine Ev.yes rfl ?_
    (refine Ev.bindC ((word_pr (ws := [(3, [41])]) (shortW_of rfl) (by decide) f2 s2 (by simp only [List.length_cons, List.length_nil]; omega))) ?_; rintro _ _ ⟨⟨f3, s3⟩, h, w3⟩; cases h; have lw3 := Wr.len w3; (try simp only [List.length_append, List.length_cons, List.length_nil] at lw3); refine ⟨rfl, Ev.yes (and_tt rfl (plainB _ _ _)) ?_⟩)
    exact Ev.ret ⟨(f3, s3), rfl, w1.app (w2.app w3)⟩
end Go.Proofs.YtalibicpmfbieaaGreatDoor
