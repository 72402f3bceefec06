/- The reference's words of statements, items, modules: they come, they are words, and they are few enough. -/
import Derived.Test.YtfadegfceobogaaTrE
namespace Go.Proofs.Ytfadegfceobogaa
open Go.AE
set_option linter.unusedVariables false
set_option linter.unusedSimpArgs false
theorem nth2 {k : Nat} {ws rest : List D} {a b : D} : (nth (a :: b :: .lst k ws :: rest) 2).l = ws := rfl
theorem nth3 {k : Nat} {ws rest : List D} {a b c : D} : (nth (a :: b :: c :: .lst k ws :: rest) 3).l = ws := rfl
theorem nth6 {k : Nat} {ws rest : List D} {a b c d e f : D} : (nth (a :: b :: c :: d :: e :: f :: .lst k ws :: rest) 6).l = ws := rfl
theorem okS {d : Nat} {x : D} (h : wfS d x) : (notAny ty_isl6l5l6 && okTy ty_isl6l5l6 x) = true := by rw [(wfS_exp h).2]; rfl
def SWn : Nat → Nat
  | 0 => 0
  | n + 1 => 4 * SWn n + 4000
theorem openW {d : Nat} {x : D} (h : wfS d x) : Ev (fun n => ref09_open n (expTy ty_isl6l5l6 x)) fun r => r = (true, [.bool (openS d x)]) := by rw [(wfS_exp h).1]; exact open_ev d x h
theorem stmtW : ∀ (d : Nat), SWn d ≤ 1000000 → ∀ x, wfS d x → Ev (fun n => ref09_StmtWords n x) (Wd (SWn d)) := by
  intro d
  induction d with
  | zero => intro _ x h; exact h.elim
  | succ d ih =>
    intro hd x hx
    simp only [SWn] at hd ⊢
    have ih := ih (by omega)
    have ih' : ∀ x, wfS d x → Ev (fun n => ref09_StmtWords n (expTy ty_isl6l5l6 x)) (Wd (SWn d)) := fun x h => by rw [(wfS_exp h).1]; exact ih x h
    obtain ⟨k, t, es, bs, zs, rfl, he, hb, hz, hsh⟩ := hx
    refine Ev.eq (fun n => ref09_StmtWords_eq n k t es bs zs) ?_
    rcases hsh with ⟨rfl, rfl, rfl, hl, rfl⟩ | ⟨hk, rfl, ⟨l, e, rfl, _⟩, rfl, rfl⟩ | ⟨rfl, rfl, hl, ⟨b, c, rfl, _⟩, rfl⟩ | ⟨rfl, rfl, hl, rfl, hz1, hz2⟩ | ⟨rfl, rfl, hl, hl2, rfl⟩ | ⟨rfl, ht, hl, rfl, rfl⟩ | ⟨rfl, rfl, rfl, rfl, rfl⟩
    · refine Ev.yes rfl (Ev.bindL (Q := fun r => ∃ q acc, r = (false, [.int .i64 q, .int .i64 1, .str [], .lst 6 [], .lst 5 bs, .lst 6 [], .lst 1 acc]) ∧ acc.length ≤ 1 + 3 * SWn d ∧ Str acc) ?_ (fun ds h => by obtain ⟨_, _, h, _⟩ := h; cases h) fun ds h => ?_)
      · refine wdLoop (xs := bs) (N := 3) (m := SWn d) (C := 1 + 3 * SWn d) (T := fun j acc n => ref09_StmtWords_L1 n (.int .i64 j) (.int .i64 1) (.str []) (.lst 6 []) (.lst 5 bs) (.lst 6 []) (.lst 1 acc)) hl (by decide) (fun j acc hj hl hs K => ?_) (fun acc hl hs => ?_) (by simp) (by simp [Str_cons, Str_nil])
        · refine Ev.eq (fun n => ref09_StmtWords_L1_eq n _ _ _ _ _ _ _) (Ev.yes (decide_eq_true (by omega)) (Ev.yes (in_range hj) ?_))
          have hw := hb bs[j] (List.getElem_mem hj)
          rw [get_nat hj]
          refine Ev.yes (okS hw) (Ev.bindC (ih' _ hw) ?_)
          (rintro _ _ ⟨ws, h, hl, hs⟩; cases h; refine ⟨rfl, Ev.yes rfl ?_⟩; try simp only [nth_l])
          refine Ev.yes (Nat.ble_eq_true_of_le (by simp only [List.length_append, List.length_cons, List.length_nil, maxLst]; omega)) ?_
          exact K _ (by simp only [List.length_append, List.length_cons, List.length_nil]; omega) (by simp [Str_app, Str_cons, Str_nil, *])
        · exact Ev.eq (fun n => ref09_StmtWords_L1_eq n _ _ _ _ _ _ _) (Ev.no (decide_eq_false (by omega)) (Ev.ret ⟨_, acc, rfl, hl, hs⟩))
      · obtain ⟨q, acc, h, hl, hs⟩ := h
        cases h
        refine Ev.yes rfl ?_
        simp only [nth6]
        refine Ev.yes (Nat.ble_eq_true_of_le (by simp only [List.length_append, List.length_cons, List.length_nil, maxLst]; omega)) ?_
        exact Ev.ret ⟨_, rfl, by (try simp only [List.length_append, List.length_cons, List.length_nil]); omega, by simp [Str_app, Str_cons, Str_nil, *]⟩
    · have h1 := he l (by simp)
      have h2 := he e (by simp)
      have J2 : ∀ g : List D, g.length ≤ 500 → Str g → Ev (fun n => ref09_StmtWords_j2 n g [l, e]) (Wd (4 * SWn d + 4000)) := by
        intro g hg hs
        refine evDf (fun n => ref09_StmtWords_j2_def n _ _) (Ev.yes rfl (Ev.yes (okE h2) (Ev.bindC (exprW' ew4 h2) ?_)))
        (rintro _ _ ⟨ws, h, hl, hs⟩; cases h; refine ⟨rfl, Ev.yes rfl ?_⟩; try simp only [nth_l])
        refine Ev.yes (Nat.ble_eq_true_of_le (by simp only [List.length_append, List.length_cons, List.length_nil, maxLst]; omega)) ?_
        refine Ev.yes (Nat.ble_eq_true_of_le (by simp only [List.length_append, List.length_cons, List.length_nil, maxLst]; omega)) ?_
        exact Ev.ret ⟨_, rfl, by (try simp only [List.length_append, List.length_cons, List.length_nil]); omega, by simp [Str_app, Str_cons, Str_nil, *]⟩
      rcases hk with rfl | rfl
      · refine Ev.no rfl (Ev.yes rfl (evDf (fun n => ref09_StmtWords_j1_def n _ _ _ _ _ _) (Ev.yes rfl (Ev.yes rfl (Ev.yes (okE h1) (Ev.bindC (exprW' ew4 h1) ?_))))))
        (rintro _ _ ⟨ws, h, hl, hs⟩; cases h; refine ⟨rfl, Ev.yes rfl ?_⟩; try simp only [nth_l])
        refine Ev.yes (Nat.ble_eq_true_of_le (by simp only [List.length_append, List.length_cons, List.length_nil, maxLst]; omega)) ?_
        refine Ev.yes rfl ?_
        refine Ev.yes (Nat.ble_eq_true_of_le (by simp only [List.length_append, List.length_cons, List.length_nil, maxLst]; omega)) ?_
        exact J2 _ (by simp only [List.length_append, List.length_cons, List.length_nil]; omega) (by simp [Str_app, Str_cons, Str_nil, *])
      · refine Ev.no rfl (Ev.no rfl (evDf (fun n => ref09_StmtWords_j1_def n _ _ _ _ _ _) (Ev.yes rfl (Ev.yes rfl (Ev.yes (okE h1) (Ev.bindC (exprW' ew4 h1) ?_))))))
        (rintro _ _ ⟨ws, h, hl, hs⟩; cases h; refine ⟨rfl, Ev.yes rfl ?_⟩; try simp only [nth_l])
        refine Ev.yes (Nat.ble_eq_true_of_le (by simp only [List.length_append, List.length_cons, List.length_nil, maxLst]; omega)) ?_
        refine Ev.no rfl ?_
        refine Ev.yes (Nat.ble_eq_true_of_le (by simp only [List.length_append, List.length_cons, List.length_nil, maxLst]; omega)) ?_
        exact J2 _ (by simp only [List.length_append, List.length_cons, List.length_nil]; omega) (by simp [Str_app, Str_cons, Str_nil, *])
    · match es, hl, he with
      | [e], _, he =>
        have h1 := he e (by simp)
        have hb1 := hb b (by simp)
        have hc := hb c (by simp)
        have J3 : ∀ g : List D, g.length ≤ SWn d + 500 → Str g → Ev (fun n => ref09_StmtWords_j3 n g [b, c]) (Wd (4 * SWn d + 4000)) := by
          intro g hg hs
          refine evDf (fun n => ref09_StmtWords_j3_def n _ _) ?_
          refine Ev.yes (Nat.ble_eq_true_of_le (by simp only [List.length_append, List.length_cons, List.length_nil, maxLst]; omega)) ?_
          refine Ev.yes rfl (Ev.yes (okS hc) (Ev.bindC (ih' c hc) ?_))
          (rintro _ _ ⟨ws, h, hl, hs⟩; cases h; refine ⟨rfl, Ev.yes rfl ?_⟩; try simp only [nth_l])
          refine Ev.yes (Nat.ble_eq_true_of_le (by simp only [List.length_append, List.length_cons, List.length_nil, maxLst]; omega)) ?_
          exact Ev.ret ⟨_, rfl, by (try simp only [List.length_append, List.length_cons, List.length_nil]); omega, by simp [Str_app, Str_cons, Str_nil, *]⟩
        have hc0 := hc
        have agg : aggD c = true ∧ okTy (.leaf (.int .i64)) (c.at_ 0) = true := by
          cases d with
          | zero => exact hc0.elim
          | succ d => obtain ⟨k', t', es', bs', zs', rfl, _⟩ := hc0; exact ⟨rfl, rfl⟩
        refine Ev.no rfl (Ev.no rfl (evDf (fun n => ref09_StmtWords_j1_def n _ _ _ _ _ _) (Ev.no rfl (Ev.yes rfl (Ev.yes rfl (Ev.yes (okE h1) (Ev.bindC (parenW' (by decide) ew4 h1) ?_)))))))
        (rintro _ _ ⟨ws, h, hl, hs⟩; cases h; refine ⟨rfl, Ev.yes rfl ?_⟩; try simp only [nth_l])
        refine Ev.yes (Nat.ble_eq_true_of_le (by simp only [List.length_append, List.length_cons, List.length_nil, maxLst]; omega)) ?_
        refine Ev.yes rfl (Ev.yes agg.1 (Ev.yes agg.2 (Ev.test (fun _ => ?_) fun _ => ?_)))
        · refine Ev.yes rfl (Ev.yes (okS hb1) (Ev.bindC (ih' b hb1) ?_))
          (rintro _ _ ⟨ws, h, hl, hs⟩; cases h; refine ⟨rfl, Ev.yes rfl ?_⟩; try simp only [nth_l])
          refine Ev.yes (Nat.ble_eq_true_of_le (by simp only [List.length_append, List.length_cons, List.length_nil, maxLst]; omega)) ?_
          exact Ev.ret ⟨_, rfl, by (try simp only [List.length_append, List.length_cons, List.length_nil]); omega, by simp [Str_app, Str_cons, Str_nil, *]⟩
        · refine Ev.yes rfl (Ev.yes (okS hb1) (Ev.bindC (openW hb1) ?_))
          intro _ ds h; cases h; refine ⟨rfl, Ev.yes rfl (Ev.test (fun _ => ?_) fun _ => ?_)⟩
          · refine Ev.yes (Nat.ble_eq_true_of_le (by simp only [List.length_append, List.length_cons, List.length_nil, maxLst]; omega)) ?_
            refine Ev.yes rfl (Ev.yes (okS hb1) (Ev.bindC (ih' b hb1) ?_))
            (rintro _ _ ⟨ws, h, hl, hs⟩; cases h; refine ⟨rfl, Ev.yes rfl ?_⟩; try simp only [nth_l])
            refine Ev.yes (Nat.ble_eq_true_of_le (by simp only [List.length_append, List.length_cons, List.length_nil, maxLst]; omega)) ?_
            refine Ev.yes (Nat.ble_eq_true_of_le (by simp only [List.length_append, List.length_cons, List.length_nil, maxLst]; omega)) ?_
            exact J3 _ (by simp only [List.length_append, List.length_cons, List.length_nil]; omega) (by simp [Str_app, Str_cons, Str_nil, *])
          · refine Ev.yes rfl (Ev.yes (okS hb1) (Ev.bindC (ih' b hb1) ?_))
            (rintro _ _ ⟨ws, h, hl, hs⟩; cases h; refine ⟨rfl, Ev.yes rfl ?_⟩; try simp only [nth_l])
            refine Ev.yes (Nat.ble_eq_true_of_le (by simp only [List.length_append, List.length_cons, List.length_nil, maxLst]; omega)) ?_
            exact J3 _ (by simp only [List.length_append, List.length_cons, List.length_nil]; omega) (by simp [Str_app, Str_cons, Str_nil, *])
    · match es, hl, he with
      | [e], _, he =>
        have h1 := he e (by simp)
        refine Ev.no rfl (Ev.no rfl (evDf (fun n => ref09_StmtWords_j1_def n _ _ _ _ _ _) (Ev.no rfl (Ev.no rfl (Ev.yes rfl (Ev.yes rfl (Ev.yes (okE h1) (Ev.bindC (parenW' (by decide) ew4 h1) ?_))))))))
        (rintro _ _ ⟨ws, h, hl, hs⟩; cases h; refine ⟨rfl, Ev.yes rfl ?_⟩; try simp only [nth_l])
        refine Ev.yes (Nat.ble_eq_true_of_le (by simp only [List.length_append, List.length_cons, List.length_nil, maxLst]; omega)) ?_
        refine Ev.bindL (Q := fun r => ∃ q acc, r = (false, [.int .i64 q, .int .i64 5, .str [], .lst 6 [e], .lst 5 [], .lst 6 zs, .lst 1 acc]) ∧ acc.length ≤ 403 + 4 * (SWn d + 804) ∧ Str acc) ?_ (fun ds h => by obtain ⟨_, _, h, _⟩ := h; cases h) fun ds h => ?_
        · refine wdLoop (xs := zs) (N := 4) (m := SWn d + 804) (C := 403 + 4 * (SWn d + 804)) (T := fun j acc n => ref09_StmtWords_L3 n (.int .i64 j) (.int .i64 5) (.str []) (.lst 6 [e]) (.lst 5 []) (.lst 6 zs) (.lst 1 acc)) hz2 (by decide) (fun j acc hj hl hs K => ?_) (fun acc hl hs => ?_) ?_ ?_
          rotate_left 2
          · show ([D.str _] ++ ws).length + _ ≤ _
            have e : ws.length ≤ 402 := hl
            rw [List.length_append, List.length_singleton]
            clear hl
            exact Nat.add_le_add_right (by omega : 1 + ws.length ≤ 403) _
          · simp [Str_app, Str_cons, Str_nil, *]
          · refine Ev.eq (fun n => ref09_StmtWords_L3_eq n _ _ _ _ _ _ _) (Ev.yes (decide_eq_true (by omega)) (Ev.yes (in_range hj) ?_))
            obtain ⟨es', s, ea, le, he', hs'⟩ := hz zs[j] (List.getElem_mem hj)
            have hs0 := hs'
            have hw := ih s hs'
            have J1 : ∀ g : List D, g.length ≤ acc.length + 1 → Str g → Ev (fun n => ref09_StmtWords_L3_j1 n g (j : Int) zs 5 [] [e] []) (fun r => ∃ q acc, r = (false, [.int .i64 q, .int .i64 5, .str [], .lst 6 [e], .lst 5 [], .lst 6 zs, .lst 1 acc]) ∧ acc.length ≤ 403 + 4 * (SWn d + 804) ∧ Str acc) := by
              intro g hg hsg
              refine evDf (fun n => ref09_StmtWords_L3_j1_def n _ _ _ _ _ _ _) (Ev.yes (in_range hj) ?_)
              rw [get_nat hj, ea]
              cases d with
              | zero => exact hs0.elim
              | succ d =>
                obtain ⟨k3, t3, fs, bs3, zs3, rfl, _⟩ := hs'
                refine Ev.yes rfl (Ev.yes rfl (Ev.bindC (listW (by decide) ew4 (N := 2) le (by decide) he') ?_))
                (rintro _ _ ⟨ws, h, hl, hs⟩; cases h; refine ⟨rfl, Ev.yes rfl ?_⟩; try simp only [nth_l])
                refine Ev.yes (Nat.ble_eq_true_of_le (by simp only [List.length_append, List.length_cons, List.length_nil, maxLst]; omega)) ?_
                refine Ev.yes (Nat.ble_eq_true_of_le (by simp only [List.length_append, List.length_cons, List.length_nil, maxLst]; omega)) ?_
                refine Ev.yes (in_range hj) (Ev.yes rfl (Ev.yes rfl (Ev.bindC hw ?_)))
                (rintro _ _ ⟨ws, h, hl, hs⟩; cases h; refine ⟨rfl, Ev.yes rfl ?_⟩; try simp only [nth_l])
                refine Ev.yes (Nat.ble_eq_true_of_le (by simp only [List.length_append, List.length_cons, List.length_nil, maxLst]; omega)) ?_
                exact K _ (by simp only [List.length_append, List.length_cons, List.length_nil]; omega) (by simp [Str_app, Str_cons, Str_nil, *])
            rw [get_nat hj, ea]
            refine Ev.yes rfl (Ev.yes rfl (Ev.test (fun _ => ?_) fun _ => ?_))
            · refine Ev.yes (Nat.ble_eq_true_of_le (by simp only [List.length_append, List.length_cons, List.length_nil, maxLst]; omega)) ?_
              exact J1 _ (by simp) (by simp [Str_app, Str_cons, Str_nil, *])
            · exact J1 _ (by omega) hs
          · exact Ev.eq (fun n => ref09_StmtWords_L3_eq n _ _ _ _ _ _ _) (Ev.no (decide_eq_false (by omega)) (Ev.ret ⟨_, acc, rfl, hl, hs⟩))
        · obtain ⟨q, acc, h, hl, hs⟩ := h
          cases h
          refine Ev.yes rfl ?_
          simp only [nth6]
          refine Ev.yes (Nat.ble_eq_true_of_le (by simp only [List.length_append, List.length_cons, List.length_nil, maxLst]; omega)) ?_
          exact Ev.ret ⟨_, rfl, by (try simp only [List.length_append, List.length_cons, List.length_nil]); omega, by simp [Str_app, Str_cons, Str_nil, *]⟩
    · match bs, hl2, hb with
      | [b], _, hb =>
        have hb1 := hb b (by simp)
        refine Ev.no rfl (Ev.no rfl (evDf (fun n => ref09_StmtWords_j1_def n _ _ _ _ _ _) (Ev.no rfl (Ev.no rfl (Ev.no rfl (Ev.yes rfl (Ev.bindC (loopW (by omega) he) ?_)))))))
        (rintro _ _ ⟨ws, h, hl, hs⟩; cases h; refine ⟨rfl, Ev.yes rfl ?_⟩; try simp only [nth_l])
        refine Ev.yes rfl (Ev.yes (okS hb1) (Ev.bindC (ih' b hb1) ?_))
        (rintro _ _ ⟨ws, h, hl, hs⟩; cases h; refine ⟨rfl, Ev.yes rfl ?_⟩; try simp only [nth_l])
        refine Ev.yes (Nat.ble_eq_true_of_le (by simp only [List.length_append, List.length_cons, List.length_nil, maxLst]; omega)) ?_
        exact Ev.ret ⟨_, rfl, by (try simp only [List.length_append, List.length_cons, List.length_nil]); omega, by simp [Str_app, Str_cons, Str_nil, *]⟩
    · match es, hl, he with
      | [e], _, he =>
        have h1 := he e (by simp)
        have J4 : ∀ g : List D, g.length ≤ 2 → Str g → Ev (fun n => ref09_StmtWords_j4 n g [e]) (Wd (4 * SWn d + 4000)) := by
          intro g hg hs
          refine evDf (fun n => ref09_StmtWords_j4_def n _ _) ?_
          refine Ev.yes (Nat.ble_eq_true_of_le (by simp only [List.length_append, List.length_cons, List.length_nil, maxLst]; omega)) ?_
          refine Ev.yes rfl (Ev.yes (okE h1) (Ev.bindC (parenW' (by decide) ew4 h1) ?_))
          (rintro _ _ ⟨ws, h, hl, hs⟩; cases h; refine ⟨rfl, Ev.yes rfl ?_⟩; try simp only [nth_l])
          refine Ev.yes (Nat.ble_eq_true_of_le (by simp only [List.length_append, List.length_cons, List.length_nil, maxLst]; omega)) ?_
          refine Ev.yes (Nat.ble_eq_true_of_le (by simp only [List.length_append, List.length_cons, List.length_nil, maxLst]; omega)) ?_
          exact Ev.ret ⟨_, rfl, by (try simp only [List.length_append, List.length_cons, List.length_nil]); omega, by simp [Str_app, Str_cons, Str_nil, *]⟩
        refine Ev.no rfl (Ev.no rfl (evDf (fun n => ref09_StmtWords_j1_def n _ _ _ _ _ _) (Ev.no rfl (Ev.no rfl (Ev.no rfl (Ev.no rfl (Ev.yes rfl ?_)))))))
        exact Ev.test (fun _ => J4 _ (by simp) (by simp [Str_cons, Str_nil])) fun _ => J4 _ (by simp) (by simp [Str_nil])
    · refine Ev.no rfl (Ev.no rfl (evDf (fun n => ref09_StmtWords_j1_def n _ _ _ _ _ _) (Ev.no rfl (Ev.no rfl (Ev.no rfl (Ev.no rfl (Ev.no rfl ?_)))))))
      exact Ev.ret ⟨_, rfl, by (try simp only [List.length_append, List.length_cons, List.length_nil]); omega, by simp [Str_app, Str_cons, Str_nil, *]⟩
theorem sw4 : ∀ x, wfS 4 x → Ev (fun n => ref09_StmtWords n (expTy ty_isl6l5l6 x)) (Wd 340000) := fun x h => by rw [(wfS_exp h).1]; exact stmtW 4 (by decide) x h
/-! Items. -/
section
variable {es fs : List D} {nm ty : List UInt8}
theorem net5 (hf1 : fs.length ≤ 1) (hf : ∀ e ∈ fs, wfE 4 e) {g : List D} (hg : g.length ≤ 1620) (hs : Str g) : Ev (fun n => ref09_net_j5 n g fs) (Wd 2100) := by
  refine evDf (fun n => ref09_net_j5_def n _ _) ?_
  match fs, hf1, hf with
  | [], _, _ =>
    refine Ev.no rfl ?_
    exact Ev.ret ⟨_, rfl, by (try simp only [List.length_append, List.length_cons, List.length_nil]); omega, by simp [Str_app, Str_cons, Str_nil, *]⟩
  | [e], _, hf =>
    have h1 := hf e (by simp)
    refine Ev.yes rfl ?_
    refine Ev.yes (Nat.ble_eq_true_of_le (by simp only [List.length_append, List.length_cons, List.length_nil, maxLst]; omega)) ?_
    refine Ev.yes rfl (Ev.yes (okE h1) (Ev.bindC (exprW' ew4 h1) ?_))
    (rintro _ _ ⟨ws, h, hl, hs⟩; cases h; refine ⟨rfl, Ev.yes rfl ?_⟩; try simp only [nth_l])
    refine Ev.yes (Nat.ble_eq_true_of_le (by simp only [List.length_append, List.length_cons, List.length_nil, maxLst]; omega)) ?_
    exact Ev.ret ⟨_, rfl, by (try simp only [List.length_append, List.length_cons, List.length_nil]); omega, by simp [Str_app, Str_cons, Str_nil, *]⟩
theorem net4 (he : ∀ e ∈ es, wfE 4 e) (hf1 : fs.length ≤ 1) (hf : ∀ e ∈ fs, wfE 4 e) {g : List D} (hg : g.length ≤ 806) (hs : Str g) : Ev (fun n => ref09_net_j4 n g es nm fs) (Wd 2100) := by
  refine evDf (fun n => ref09_net_j4_def n _ _ _ _) ?_
  refine Ev.yes (Nat.ble_eq_true_of_le (by simp only [List.length_append, List.length_cons, List.length_nil, maxLst]; omega)) ?_
  refine Ev.test (fun hc => ?_) fun _ => net5 hf1 hf (by simp; omega) (by simp [Str_app, Str_cons, Str_nil, *])
  have hc := of_decide_eq_true hc
  refine Ev.yes (by simp; omega) (Ev.bindC (boundsW (by decide) ew4 fun e h => he e (List.mem_of_mem_drop (List.mem_of_mem_take h))) ?_)
  (rintro _ _ ⟨ws, h, hl, hs⟩; cases h; refine ⟨rfl, Ev.yes rfl ?_⟩; try simp only [nth_l])
  refine Ev.yes (Nat.ble_eq_true_of_le (by simp only [List.length_append, List.length_cons, List.length_nil, maxLst]; omega)) ?_
  exact net5 hf1 hf (by simp; omega) (by simp [Str_app, Str_cons, Str_nil, *])
theorem net3 (he : ∀ e ∈ es, wfE 4 e) (hf1 : fs.length ≤ 1) (hf : ∀ e ∈ fs, wfE 4 e) {g : List D} (hg : g.length ≤ 3) (hs : Str g) : Ev (fun n => ref09_net_j3 n g es nm fs) (Wd 2100) := by
  refine evDf (fun n => ref09_net_j3_def n _ _ _ _) ?_
  refine Ev.test (fun hc => ?_) fun _ => net4 he hf1 hf (by omega) hs
  have hc := of_decide_eq_true hc
  refine Ev.yes (by simp; omega) (Ev.bindC (boundsW (by decide) ew4 fun e h => he e (List.mem_of_mem_drop (List.mem_of_mem_take h))) ?_)
  (rintro _ _ ⟨ws, h, hl, hs⟩; cases h; refine ⟨rfl, Ev.yes rfl ?_⟩; try simp only [nth_l])
  refine Ev.yes (Nat.ble_eq_true_of_le (by simp only [List.length_append, List.length_cons, List.length_nil, maxLst]; omega)) ?_
  exact net4 he hf1 hf (by simp; omega) (by simp [Str_app, *])
theorem netW {k : Int} {sg : Bool} {bs its els ps qs : List D} (he : ∀ e ∈ es, wfE 4 e) (hf1 : fs.length ≤ 1) (hf : ∀ e ∈ fs, wfE 4 e) : Ev (fun n => ref09_net n (I k nm ty sg es fs bs its els ps qs)) (Wd 2100) := by
  refine Ev.eq (fun n => ref09_net_eq n k nm ty sg es fs bs its els ps qs) ?_
  have J2 : ∀ (b : Bool) (g : List D), g.length ≤ 2 → Str g → Ev (fun n => ref09_net_j2 n b g es nm fs) (Wd 2100) := by
    intro b g hg hs
    refine evDf (fun n => ref09_net_j2_def n _ _ _ _ _) (Ev.test (fun _ => ?_) fun _ => net3 he hf1 hf (by omega) hs)
    refine Ev.yes (Nat.ble_eq_true_of_le (by simp only [List.length_append, List.length_cons, List.length_nil, maxLst]; omega)) ?_
    exact net3 he hf1 hf (by simp; omega) (by simp [Str_app, Str_cons, Str_nil, *])
  have J1 : ∀ (g : List D), g.length ≤ 2 → Str g → Ev (fun n => ref09_net_j1 n g sg ty es nm fs) (Wd 2100) :=
    fun g hg hs => evDf (fun n => ref09_net_j1_def n _ _ _ _ _ _) (Ev.test (fun _ => J2 _ g hg hs) fun _ => J2 _ g hg hs)
  exact Ev.test (fun _ => J1 _ (by simp) (by simp [Str_cons, Str_nil])) fun _ => J1 _ (by simp) (by simp [Str_cons, Str_nil])
end
theorem connsW {xs : List D} (hn : xs.length ≤ 2) (h : ∀ x ∈ xs, wfC x) : Ev (fun n => ref09_conns n (.lst 2 xs)) (Wd 820) := by
  refine Ev.eq (fun n => ref09_conns_eq n xs) ?_
  refine Ev.bindL (Q := fun r => ∃ q acc, r = (false, [.lst 2 xs, .int .i64 q, .lst 1 acc]) ∧ acc.length ≤ 813 ∧ Str acc) ?_ (fun ds h => by obtain ⟨_, _, h, _⟩ := h; cases h) fun ds h => ?_
  · refine wdLoop (xs := xs) (N := 2) (m := 406) (C := 813) (T := fun j acc n => ref09_conns_L0 n (.lst 2 xs) (.int .i64 j) (.lst 1 acc)) hn (by decide) (fun j acc hj hl hs K => ?_) (fun acc hl hs => ?_) (by simp) (by simp [Str_cons, Str_nil])
    · refine Ev.eq (fun n => ref09_conns_L0_eq n xs _ _) (Ev.yes (decide_eq_true (by omega)) ?_)
      obtain ⟨nm, es, e, le, he⟩ := h xs[j] (List.getElem_mem hj)
      have J1 : ∀ g : List D, g.length ≤ acc.length + 1 → Str g → Ev (fun n => ref09_conns_L0_j1 n g (j : Int) xs) (fun r => ∃ q acc, r = (false, [.lst 2 xs, .int .i64 q, .lst 1 acc]) ∧ acc.length ≤ 813 ∧ Str acc) := by
        intro g hg hsg
        refine evDf (fun n => ref09_conns_L0_j1_def n _ _ _) (Ev.yes (in_range hj) ?_)
        rw [get_nat hj, e]
        refine Ev.yes rfl (Ev.yes rfl ?_)
        refine Ev.yes (Nat.ble_eq_true_of_le (by simp only [List.length_append, List.length_cons, List.length_nil, maxLst]; omega)) ?_
        refine Ev.yes (in_range hj) (Ev.yes rfl (Ev.yes rfl (Ev.bindC (listW (by decide) ew4 (N := 1) le (by decide) he) ?_)))
        (rintro _ _ ⟨ws, h, hl, hs⟩; cases h; refine ⟨rfl, Ev.yes rfl ?_⟩; try simp only [nth_l])
        refine Ev.yes (Nat.ble_eq_true_of_le (by simp only [List.length_append, List.length_cons, List.length_nil, maxLst]; omega)) ?_
        refine Ev.yes (Nat.ble_eq_true_of_le (by simp only [List.length_append, List.length_cons, List.length_nil, maxLst]; omega)) ?_
        exact K _ (by simp only [List.length_append, List.length_cons, List.length_nil]; omega) (by simp [Str_app, Str_cons, Str_nil, *])
      refine Ev.test (fun _ => ?_) fun _ => J1 _ (by omega) hs
      refine Ev.yes (Nat.ble_eq_true_of_le (by simp only [List.length_append, List.length_cons, List.length_nil, maxLst]; omega)) ?_
      exact J1 _ (by simp) (by simp [Str_app, Str_cons, Str_nil, *])
    · exact Ev.eq (fun n => ref09_conns_L0_eq n xs _ _) (Ev.no (decide_eq_false (by omega)) (Ev.ret ⟨_, acc, rfl, hl, hs⟩))
  · obtain ⟨q, acc, h, hl, hs⟩ := h
    cases h
    refine Ev.yes rfl ?_
    simp only [nth2]
    refine Ev.yes (Nat.ble_eq_true_of_le (by simp only [List.length_append, List.length_cons, List.length_nil, maxLst]; omega)) ?_
    exact Ev.ret ⟨_, rfl, by (try simp only [List.length_append, List.length_cons, List.length_nil]); omega, by simp [Str_app, Str_cons, Str_nil, *]⟩
theorem okI {d : Nat} {x : D} (h : wfI d x) : (notAny ty_issbl6l6l5l11l11l2l2 && okTy ty_issbl6l6l5l11l11l2l2 x) = true := by rw [(wfI_exp h).2]; rfl
section
variable {d A : Nat} (hA : A ≤ 1000000000) (hI : ∀ x, wfI d x → Ev (fun n => ref09_ItemWords n x) (Wd A))
include hA hI
theorem itemsW {xs : List D} {N : Nat} (hn : xs.length ≤ N) (hN : N ≤ 10) (h : ∀ x ∈ xs, wfI d x) : Ev (fun n => ref09_ItemsWords n (.lst 11 xs)) (Wd (N * A)) := by
  refine Ev.eq (fun n => ref09_ItemsWords_eq n xs) ?_
  have hb : N * A ≤ 10 * A := Nat.mul_le_mul_right _ hN
  refine Ev.bindL (Q := fun r => ∃ q acc, r = (false, [.lst 11 xs, .int .i64 q, .lst 1 acc]) ∧ acc.length ≤ N * A ∧ Str acc) ?_ (fun ds h => by obtain ⟨_, _, h, _⟩ := h; cases h) fun ds h => ?_
  · refine wdLoop (xs := xs) (N := N) (m := A) (C := N * A) (T := fun j acc n => ref09_ItemsWords_L0 n (.lst 11 xs) (.int .i64 j) (.lst 1 acc)) hn (by omega) (fun j acc hj hl hs K => ?_) (fun acc hl hs => ?_) (by simp) (Str_nil.2 trivial)
    · refine Ev.eq (fun n => ref09_ItemsWords_L0_eq n xs _ _) (Ev.yes (decide_eq_true (by omega)) (Ev.yes (in_range hj) ?_))
      have hw := h xs[j] (List.getElem_mem hj)
      have hw1 : Ev (fun n => ref09_ItemWords n (expTy ty_issbl6l6l5l11l11l2l2 xs[j])) (Wd A) := by rw [(wfI_exp hw).1]; exact hI _ hw
      rw [get_nat hj]
      refine Ev.yes (okI hw) (Ev.bindC hw1 ?_)
      (rintro _ _ ⟨ws, h, hl, hs⟩; cases h; refine ⟨rfl, Ev.yes rfl ?_⟩; try simp only [nth_l])
      refine Ev.yes (Nat.ble_eq_true_of_le (by simp only [List.length_append, List.length_cons, List.length_nil, maxLst]; omega)) ?_
      exact K _ (by simp only [List.length_append]; omega) (by simp [Str_app, *])
    · exact Ev.eq (fun n => ref09_ItemsWords_L0_eq n xs _ _) (Ev.no (decide_eq_false (by omega)) (Ev.ret ⟨_, acc, rfl, hl, hs⟩))
  · obtain ⟨q, acc, h, hl, hs⟩ := h
    cases h
    exact Ev.yes rfl (Ev.ret ⟨acc, rfl, hl, hs⟩)
theorem blocksW {xs : List D} (hn : xs.length ≤ 2) (h : ∀ x ∈ xs, blkI (wfI d) x) : Ev (fun n => ref09_blocks n (.lst 11 xs)) (Wd (2 * (3 * A + 4))) := by
  refine Ev.eq (fun n => ref09_blocks_eq n xs) ?_
  refine Ev.bindL (Q := fun r => ∃ q acc, r = (false, [.lst 11 xs, .int .i64 q, .lst 1 acc]) ∧ acc.length ≤ 2 * (3 * A + 4) ∧ Str acc) ?_ (fun ds h => by obtain ⟨_, _, h, _⟩ := h; cases h) fun ds h => ?_
  · refine wdLoop (xs := xs) (N := 2) (m := 3 * A + 4) (C := 2 * (3 * A + 4)) (T := fun j acc n => ref09_blocks_L0 n (.lst 11 xs) (.int .i64 j) (.lst 1 acc)) hn (by omega) (fun j acc hj hl hs K => ?_) (fun acc hl hs => ?_) (by simp) (Str_nil.2 trivial)
    · refine Ev.eq (fun n => ref09_blocks_L0_eq n xs _ _) (Ev.yes (decide_eq_true (by omega)) (Ev.yes (in_range hj) ?_))
      obtain ⟨t, its, e, li, hi⟩ := h xs[j] (List.getElem_mem hj)
      rw [get_nat hj, e]
      refine Ev.yes rfl (Ev.yes rfl ?_)
      refine Ev.yes (Nat.ble_eq_true_of_le (by simp only [List.length_append, List.length_cons, List.length_nil, maxLst]; omega)) ?_
      refine Ev.yes (in_range hj) (Ev.yes rfl (Ev.yes rfl (Ev.bindC (itemsW hA hI (N := 3) li (by decide) hi) ?_)))
      (rintro _ _ ⟨ws, h, hl, hs⟩; cases h; refine ⟨rfl, Ev.yes rfl ?_⟩; try simp only [nth_l])
      refine Ev.yes (Nat.ble_eq_true_of_le (by simp only [List.length_append, List.length_cons, List.length_nil, maxLst]; omega)) ?_
      refine Ev.yes (Nat.ble_eq_true_of_le (by simp only [List.length_append, List.length_cons, List.length_nil, maxLst]; omega)) ?_
      exact K _ (by simp only [List.length_append, List.length_cons, List.length_nil]; omega) (by simp [Str_app, Str_cons, Str_nil, *])
    · exact Ev.eq (fun n => ref09_blocks_L0_eq n xs _ _) (Ev.no (decide_eq_false (by omega)) (Ev.ret ⟨_, acc, rfl, hl, hs⟩))
  · obtain ⟨q, acc, h, hl, hs⟩ := h
    cases h
    exact Ev.yes rfl (Ev.ret ⟨acc, rfl, hl, hs⟩)
end
def IW : Nat → Nat
  | 0 => 0
  | n + 1 => 12 * IW n + 400000
theorem itemW : ∀ (d : Nat), IW d ≤ 1000000000 → ∀ x, wfI d x → Ev (fun n => ref09_ItemWords n x) (Wd (IW d)) := by
  intro d
  induction d with
  | zero => intro _ x h; exact h.elim
  | succ d ih =>
    intro hd x hx
    simp only [IW] at hd ⊢
    have hA : IW d ≤ 1000000000 := by omega
    have hI := ih hA
    obtain ⟨k, nm, ty, sg, es, fs, bs, its, els, ps, qs, rfl, hmin, hmax, he, hf, hb, hi, hel, hp, hq⟩ := hx
    obtain ⟨k1, k2, n2, n4, n5, n9, n10⟩ := hmin
    obtain ⟨m1, m2, m3, m4, m5, m6, m7⟩ := hmax
    refine Ev.eq (fun n => ref09_ItemWords_eq n k nm ty sg es fs bs its els ps qs) ?_
    have hk : k = 1 ∨ k = 2 ∨ k = 3 ∨ k = 4 ∨ k = 5 ∨ k = 6 ∨ k = 7 ∨ k = 8 ∨ k = 9 ∨ k = 10 := by omega
    rcases hk with rfl | rfl | rfl | rfl | rfl | rfl | rfl | rfl | rfl | rfl
    · refine Ev.yes rfl (Ev.bindC (show Ev (fun n => ref09_net n (I 1 nm ty sg es fs bs its els ps qs)) _ from netW he m2 hf) ?_)
      (rintro _ _ ⟨ws, h, hl, hs⟩; cases h; refine ⟨rfl, Ev.yes rfl ?_⟩; try simp only [nth_l])
      refine Ev.yes (Nat.ble_eq_true_of_le (by simp only [List.length_append, List.length_cons, List.length_nil, maxLst]; omega)) ?_
      exact Ev.ret ⟨_, rfl, by (try simp only [List.length_append, List.length_cons, List.length_nil]); omega, by simp [Str_app, Str_cons, Str_nil, *]⟩
    · match es, n2 rfl, he with
      | e :: rest, _, he =>
        have h1 := he e (by simp)
        refine Ev.no rfl (Ev.yes rfl (Ev.yes (by first | (simp; done) | (simp; omega)) (Ev.yes (okE h1) (Ev.bindC (exprW' ew4 h1) ?_))))
        (rintro _ _ ⟨ws, h, hl, hs⟩; cases h; refine ⟨rfl, Ev.yes rfl ?_⟩; try simp only [nth_l])
        refine Ev.yes (Nat.ble_eq_true_of_le (by simp only [List.length_append, List.length_cons, List.length_nil, maxLst]; omega)) ?_
        refine Ev.yes (Nat.ble_eq_true_of_le (by simp only [List.length_append, List.length_cons, List.length_nil, maxLst]; omega)) ?_
        exact Ev.ret ⟨_, rfl, by (try simp only [List.length_append, List.length_cons, List.length_nil]); omega, by simp [Str_app, Str_cons, Str_nil, *]⟩
    · refine Ev.no rfl (Ev.no rfl (Ev.yes rfl ?_))
      exact Ev.ret ⟨_, rfl, by (try simp only [List.length_append, List.length_cons, List.length_nil]); omega, by simp [Str_app, Str_cons, Str_nil, *]⟩
    · match es, n4 rfl, he with
      | e :: e2 :: rest, _, he =>
        have h1 := he e (by simp)
        have h2 := he e2 (by simp)
        refine Ev.no rfl (Ev.no rfl (Ev.no rfl (Ev.yes rfl (Ev.yes (by first | (simp; done) | (simp; omega)) (Ev.yes (okE h1) (Ev.bindC (exprW' ew4 h1) ?_))))))
        (rintro _ _ ⟨ws, h, hl, hs⟩; cases h; refine ⟨rfl, Ev.yes rfl ?_⟩; try simp only [nth_l])
        refine Ev.yes (Nat.ble_eq_true_of_le (by simp only [List.length_append, List.length_cons, List.length_nil, maxLst]; omega)) ?_
        refine Ev.yes (Nat.ble_eq_true_of_le (by simp only [List.length_append, List.length_cons, List.length_nil, maxLst]; omega)) ?_
        refine Ev.yes (by first | (simp; done) | (simp; omega)) (Ev.yes (okE h2) (Ev.bindC (exprW' ew4 h2) ?_))
        (rintro _ _ ⟨ws, h, hl, hs⟩; cases h; refine ⟨rfl, Ev.yes rfl ?_⟩; try simp only [nth_l])
        refine Ev.yes (Nat.ble_eq_true_of_le (by simp only [List.length_append, List.length_cons, List.length_nil, maxLst]; omega)) ?_
        refine Ev.yes (Nat.ble_eq_true_of_le (by simp only [List.length_append, List.length_cons, List.length_nil, maxLst]; omega)) ?_
        exact Ev.ret ⟨_, rfl, by (try simp only [List.length_append, List.length_cons, List.length_nil]); omega, by simp [Str_app, Str_cons, Str_nil, *]⟩
    · match bs, n5 (.inl rfl), hb with
      | b :: rest, _, hb =>
        have h1 := hb b (by simp)
        refine Ev.no rfl (Ev.no rfl (Ev.no rfl (Ev.no rfl (Ev.yes rfl (Ev.yes (by first | (simp; done) | (simp; omega)) (Ev.yes (okS h1) (Ev.bindC (sw4 b h1) ?_)))))))
        (rintro _ _ ⟨ws, h, hl, hs⟩; cases h; refine ⟨rfl, Ev.yes rfl ?_⟩; try simp only [nth_l])
        refine Ev.yes (Nat.ble_eq_true_of_le (by simp only [List.length_append, List.length_cons, List.length_nil, maxLst]; omega)) ?_
        exact Ev.ret ⟨_, rfl, by (try simp only [List.length_append, List.length_cons, List.length_nil]); omega, by simp [Str_app, Str_cons, Str_nil, *]⟩
    · match bs, n5 (.inr (.inl rfl)), hb with
      | b :: rest, _, hb =>
        have h1 := hb b (by simp)
        refine Ev.no rfl (Ev.no rfl (Ev.no rfl (Ev.no rfl (Ev.no rfl (Ev.yes rfl (Ev.yes (by first | (simp; done) | (simp; omega)) (Ev.yes (okS h1) (Ev.bindC (sw4 b h1) ?_))))))))
        (rintro _ _ ⟨ws, h, hl, hs⟩; cases h; refine ⟨rfl, Ev.yes rfl ?_⟩; try simp only [nth_l])
        refine Ev.yes (Nat.ble_eq_true_of_le (by simp only [List.length_append, List.length_cons, List.length_nil, maxLst]; omega)) ?_
        exact Ev.ret ⟨_, rfl, by (try simp only [List.length_append, List.length_cons, List.length_nil]); omega, by simp [Str_app, Str_cons, Str_nil, *]⟩
    · match bs, n5 (.inr (.inr rfl)), hb with
      | b :: rest, _, hb =>
        have h1 := hb b (by simp)
        have J1 : ∀ g : List D, g.length ≤ 2 → Str g → Ev (fun n => ref09_ItemWords_j1 n g es its nm (b :: rest)) (Wd (12 * IW d + 400000)) := by
          intro g hg hs
          refine evDf (fun n => ref09_ItemWords_j1_def n _ _ _ _ _) (Ev.bindC (boundsW (by decide) ew4 he) ?_)
          (rintro _ _ ⟨ws, h, hl, hs⟩; cases h; refine ⟨rfl, Ev.yes rfl ?_⟩; try simp only [nth_l])
          refine Ev.yes (Nat.ble_eq_true_of_le (by simp only [List.length_append, List.length_cons, List.length_nil, maxLst]; omega)) ?_
          refine Ev.yes (Nat.ble_eq_true_of_le (by simp only [List.length_append, List.length_cons, List.length_nil, maxLst]; omega)) ?_
          refine Ev.bindC (itemsW hA hI (N := 2) m4 (by decide) fun i h => (hi i h).1 rfl) ?_
          (rintro _ _ ⟨ws, h, hl, hs⟩; cases h; refine ⟨rfl, Ev.yes rfl ?_⟩; try simp only [nth_l])
          refine Ev.yes (Nat.ble_eq_true_of_le (by simp only [List.length_append, List.length_cons, List.length_nil, maxLst]; omega)) ?_
          refine Ev.yes (by first | (simp; done) | (simp; omega)) (Ev.yes (okS h1) (Ev.bindC (sw4 b h1) ?_))
          (rintro _ _ ⟨ws, h, hl, hs⟩; cases h; refine ⟨rfl, Ev.yes rfl ?_⟩; try simp only [nth_l])
          refine Ev.yes (Nat.ble_eq_true_of_le (by simp only [List.length_append, List.length_cons, List.length_nil, maxLst]; omega)) ?_
          refine Ev.yes (Nat.ble_eq_true_of_le (by simp only [List.length_append, List.length_cons, List.length_nil, maxLst]; omega)) ?_
          exact Ev.ret ⟨_, rfl, by (try simp only [List.length_append, List.length_cons, List.length_nil]); omega, by simp [Str_app, Str_cons, Str_nil, *]⟩
        refine Ev.no rfl (Ev.no rfl (Ev.no rfl (Ev.no rfl (Ev.no rfl (Ev.no rfl (Ev.yes rfl ?_))))))
        exact Ev.test (fun _ => J1 _ (by simp) (by simp [Str_cons, Str_nil])) fun _ => J1 _ (by simp) (by simp [Str_cons, Str_nil])
    · refine Ev.no rfl (Ev.no rfl (Ev.no rfl (Ev.no rfl (Ev.no rfl (Ev.no rfl (Ev.no rfl (Ev.yes rfl (Ev.test (fun _ => ?_) fun _ => ?_))))))))
      · refine Ev.bindC (connsW m6 hp) ?_
        (rintro _ _ ⟨ws, h, hl, hs⟩; cases h; refine ⟨rfl, Ev.yes rfl ?_⟩; try simp only [nth_l])
        refine Ev.yes (Nat.ble_eq_true_of_le (by simp only [List.length_append, List.length_cons, List.length_nil, maxLst]; omega)) ?_
        refine Ev.yes (Nat.ble_eq_true_of_le (by simp only [List.length_append, List.length_cons, List.length_nil, maxLst]; omega)) ?_
        refine Ev.bindC (connsW m7 hq) ?_
        (rintro _ _ ⟨ws, h, hl, hs⟩; cases h; refine ⟨rfl, Ev.yes rfl ?_⟩; try simp only [nth_l])
        refine Ev.yes (Nat.ble_eq_true_of_le (by simp only [List.length_append, List.length_cons, List.length_nil, maxLst]; omega)) ?_
        refine Ev.yes (Nat.ble_eq_true_of_le (by simp only [List.length_append, List.length_cons, List.length_nil, maxLst]; omega)) ?_
        exact Ev.ret ⟨_, rfl, by (try simp only [List.length_append, List.length_cons, List.length_nil]); omega, by simp [Str_app, Str_cons, Str_nil, *]⟩
      · refine Ev.bindC (connsW m7 hq) ?_
        (rintro _ _ ⟨ws, h, hl, hs⟩; cases h; refine ⟨rfl, Ev.yes rfl ?_⟩; try simp only [nth_l])
        refine Ev.yes (Nat.ble_eq_true_of_le (by simp only [List.length_append, List.length_cons, List.length_nil, maxLst]; omega)) ?_
        refine Ev.yes (Nat.ble_eq_true_of_le (by simp only [List.length_append, List.length_cons, List.length_nil, maxLst]; omega)) ?_
        exact Ev.ret ⟨_, rfl, by (try simp only [List.length_append, List.length_cons, List.length_nil]); omega, by simp [Str_app, Str_cons, Str_nil, *]⟩
    · refine Ev.no rfl (Ev.no rfl (Ev.no rfl (Ev.no rfl (Ev.no rfl (Ev.no rfl (Ev.no rfl (Ev.no rfl (Ev.yes rfl (Ev.bindC (loopW (n9 rfl) he) ?_)))))))))
      (rintro _ _ ⟨ws, h, hl, hs⟩; cases h; refine ⟨rfl, Ev.yes rfl ?_⟩; try simp only [nth_l])
      refine Ev.bindC (blocksW hA hI m4 fun i h => (hi i h).2 (by decide)) ?_
      (rintro _ _ ⟨ws, h, hl, hs⟩; cases h; refine ⟨rfl, Ev.yes rfl ?_⟩; try simp only [nth_l])
      refine Ev.yes (Nat.ble_eq_true_of_le (by simp only [List.length_append, List.length_cons, List.length_nil, maxLst]; omega)) ?_
      exact Ev.ret ⟨_, rfl, by (try simp only [List.length_append, List.length_cons, List.length_nil]); omega, by simp [Str_app, Str_cons, Str_nil, *]⟩
    · match es, n10 rfl, he with
      | e :: rest, _, he =>
        have h1 := he e (by simp)
        refine Ev.no rfl (Ev.no rfl (Ev.no rfl (Ev.no rfl (Ev.no rfl (Ev.no rfl (Ev.no rfl (Ev.no rfl (Ev.no rfl (Ev.yes (by first | (simp; done) | (simp; omega)) (Ev.yes (okE h1) (Ev.bindC (parenW' (by decide) ew4 h1) ?_)))))))))))
        (rintro _ _ ⟨ws, h, hl, hs⟩; cases h; refine ⟨rfl, Ev.yes rfl ?_⟩; try simp only [nth_l])
        refine Ev.yes (Nat.ble_eq_true_of_le (by simp only [List.length_append, List.length_cons, List.length_nil, maxLst]; omega)) ?_
        refine Ev.bindC (blocksW hA hI m4 fun i h => (hi i h).2 (by decide)) ?_
        (rintro _ _ ⟨ws, h, hl, hs⟩; cases h; refine ⟨rfl, Ev.yes rfl ?_⟩; try simp only [nth_l])
        refine Ev.yes (Nat.ble_eq_true_of_le (by simp only [List.length_append, List.length_cons, List.length_nil, maxLst]; omega)) ?_
        refine Ev.test (fun _ => ?_) fun _ => ?_
        · refine Ev.yes (Nat.ble_eq_true_of_le (by simp only [List.length_append, List.length_cons, List.length_nil, maxLst]; omega)) ?_
          refine Ev.bindC (blocksW hA hI (by omega) hel) ?_
          (rintro _ _ ⟨ws, h, hl, hs⟩; cases h; refine ⟨rfl, Ev.yes rfl ?_⟩; try simp only [nth_l])
          refine Ev.yes (Nat.ble_eq_true_of_le (by simp only [List.length_append, List.length_cons, List.length_nil, maxLst]; omega)) ?_
          exact Ev.ret ⟨_, rfl, by (try simp only [List.length_append, List.length_cons, List.length_nil]); omega, by simp [Str_app, Str_cons, Str_nil, *]⟩
        · exact Ev.ret ⟨_, rfl, by (try simp only [List.length_append, List.length_cons, List.length_nil]); omega, by simp [Str_app, Str_cons, Str_nil, *]⟩
theorem iw4 : ∀ x, wfI 4 x → Ev (fun n => ref09_ItemWords n x) (Wd 754000000) := itemW 4 (by decide)
end Go.Proofs.Ytfadegfceobogaa
