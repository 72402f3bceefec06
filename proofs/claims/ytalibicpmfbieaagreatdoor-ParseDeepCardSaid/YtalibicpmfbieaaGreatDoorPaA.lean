/- The parser's words: what comes next, is taken, is wanted; names. -/
import Derived.Test.YtalibicpmfbieaaGreatDoorLexTotal
namespace Go.Proofs.YtalibicpmfbieaaGreatDoor
open Go.AE
set_option linter.unusedVariables false
set_option linter.unusedSimpArgs false
theorem evDf {t u : Nat → Out} {P : Bool × List D → Prop} (he : ∀ n, t n = u n) (h : Ev u P) : Ev t P := by
  have : t = u := funext he
  rw [this]; exact h
def tk (k : Int) (t : List UInt8) (a b c : Int) : D := .agg [.int .i64 k, .str t, .int .i64 a, .int .i64 b, .int .i64 c]
def resT : List UInt8 := [32, 109, 111, 100, 117, 108, 101, 32, 101, 110, 100, 109, 111, 100, 117, 108, 101, 32, 112, 97, 114, 97, 109, 101, 116, 101, 114, 32, 108, 111, 99, 97, 108, 112, 97, 114, 97, 109, 32, 105, 110, 112, 117, 116, 32, 111, 117, 116, 112, 117, 116, 32, 114, 101, 103, 32, 119, 105, 114, 101, 32, 115, 105, 103, 110, 101, 100, 32, 105, 110, 116, 101, 103, 101, 114, 32, 103, 101, 110, 118, 97, 114, 32, 103, 101, 110, 101, 114, 97, 116, 101, 32, 101, 110, 100, 103, 101, 110, 101, 114, 97, 116, 101, 32, 97, 115, 115, 105, 103, 110, 32, 97, 108, 119, 97, 121, 115, 32, 112, 111, 115, 101, 100, 103, 101, 32, 102, 117, 110, 99, 116, 105, 111, 110, 32, 101, 110, 100, 102, 117, 110, 99, 116, 105, 111, 110, 32, 102, 111, 114, 32, 105, 102, 32, 101, 108, 115, 101, 32, 98, 101, 103, 105, 110, 32, 101, 110, 100, 32, 99, 97, 115, 101, 32, 101, 110, 100, 99, 97, 115, 101, 32, 100, 101, 102, 97, 117, 108, 116, 32, 97, 115, 115, 101, 114, 116, 32]
def unT2 : List UInt8 := [32, 45, 32, 126, 32, 33, 32, 38, 32, 124, 32, 94, 32, 126, 38, 32, 126, 124, 32, 126, 94, 32, 94, 126, 32, 43, 32]
def lvT : List (List UInt8) := [[32, 124, 124, 32], [32, 38, 38, 32], [32, 124, 32], [32, 94, 32, 126, 94, 32, 94, 126, 32], [32, 38, 32], [32, 61, 61, 32, 33, 61, 32], [32, 60, 32, 60, 61, 32, 62, 32, 62, 61, 32], [32, 60, 60, 32, 62, 62, 32, 60, 60, 60, 32, 62, 62, 62, 32], [32, 43, 32, 45, 32], [32, 42, 32, 47, 32, 37, 32]]
def opsT : List (List UInt8) := [[124, 124], [38, 38], [124], [94], [126, 94], [38], [61, 61], [33, 61], [60], [60, 61], [62], [62, 61], [60, 60], [62, 62], [60, 60, 60], [62, 62, 62], [43], [45], [42], [47], [37]]
/-- How tight an operator binds. -/
def lvO (o : List UInt8) : Nat := bif o == [124, 124] then 0 else bif o == [38, 38] then 1 else bif o == [124] then 2 else bif o == [94] then 3 else bif o == [126, 94] then 3 else bif o == [38] then 4 else bif o == [61, 61] then 5 else bif o == [33, 61] then 5 else bif o == [60] then 6 else bif o == [60, 61] then 6 else bif o == [62] then 6 else bif o == [62, 61] then 6 else bif o == [60, 60] then 7 else bif o == [62, 62] then 7 else bif o == [60, 60, 60] then 7 else bif o == [62, 62, 62] then 7 else bif o == [43] then 8 else bif o == [45] then 8 else bif o == [42] then 9 else bif o == [47] then 9 else bif o == [37] then 9 else 9
theorem op_short : (opsT.all fun o => decide (o.length ≤ 3)) = true := by kernel_rfl
theorem op_len {o : List UInt8} (ho : o ∈ opsT) : o.length ≤ 3 := of_decide_eq_true (List.all_eq_true.1 op_short o ho)
theorem res_dec : decide (resT.length ≤ 4294967280) = true := by kernel_rfl
theorem res_len : resT.length ≤ 4294967280 := of_decide_eq_true res_dec
/-- A name that is not reserved. -/
def goodN (t : List UInt8) : Bool := decide (t.length ≤ 100) && decide (0 < t.length) && !((t[0]?.getD 0).toNat == 36) && !decide (0 ≤ idxStr (([32] ++ t) ++ [32]) resT 0)
section
variable {l : List D} {i : Nat} {d c p0 p1 p2 : Int} {k : Int} {t : List UInt8} {a b e : Int}
theorem lt_of (h : l[i]? = some (tk k t a b e)) : i < l.length := by
  by_cases hl : i < l.length
  · exact hl
  · rw [List.getElem?_eq_none (by omega)] at h; cases h
theorem now_ev (h : l[i]? = some (tk k t a b e)) : Ev (fun n => parse_parser_now n (.lst 5 l) (.int .i64 (i : Int)) (.int .i64 d) (.int .i64 c) (.int .i64 p0) (.int .i64 p1) (.int .i64 p2) (.int .i64 0)) fun r => r = (true, [tk k t a b e, .lst 5 l, .int .i64 (i : Int), .int .i64 d, .int .i64 c, .int .i64 p0, .int .i64 p1, .int .i64 p2, .int .i64 0]) := by
  have hi := lt_of h
  have hg : l[((i : Nat) : Int).toNat]?.getD D.top = tk k t a b e := by
    rw [show ((i : Nat) : Int).toNat = i from rfl, h]; rfl
  refine Ev.eq (fun n => parse_parser_now_eq n l i d c p0 p1 p2 0) (Ev.no rfl (evDf (fun n => parse_parser_now_j1_def n _ _ _ _ _ _ _ _ _) (Ev.no (decide_eq_false (by omega)) (Ev.yes (in_range hi) ?_))))
  rw [hg]
  exact Ev.yes rfl (Ev.ret rfl)
theorem is_ev (w : List UInt8) (h : l[i]? = some (tk k t a b e)) : Ev (fun n => parse_parser_is n (.str w) (.lst 5 l) (.int .i64 (i : Int)) (.int .i64 d) (.int .i64 c) (.int .i64 p0) (.int .i64 p1) (.int .i64 p2) (.int .i64 0)) fun r => r = (true, [.bool (t == w && k != 2), .lst 5 l, .int .i64 (i : Int), .int .i64 d, .int .i64 c, .int .i64 p0, .int .i64 p1, .int .i64 p2, .int .i64 0]) := by
  refine Ev.eq (fun n => parse_parser_is_eq n w l i d c p0 p1 p2 0) (Ev.bindC (now_ev h) ?_)
  intro _ ds h0; cases h0
  refine ⟨rfl, Ev.yes rfl (Ev.test (fun h1 => ?_) fun h1 => ?_)⟩
  · have h1 : (t == w) = true := h1
    refine Ev.bindC (now_ev h) ?_
    intro _ ds h0; cases h0
    exact ⟨rfl, Ev.yes rfl (Ev.ret (by rw [h1]; rfl))⟩
  · have h1 : (t == w) = false := h1
    exact Ev.ret (by rw [h1]; rfl)
theorem take_yes {w : List UInt8} (hl : l.length ≤ 1000000) (h : l[i]? = some (tk k t a b e)) (hw : (t == w && k != 2) = true) : Ev (fun n => parse_parser_take n (.str w) (.lst 5 l) (.int .i64 (i : Int)) (.int .i64 d) (.int .i64 c) (.int .i64 p0) (.int .i64 p1) (.int .i64 p2) (.int .i64 0)) fun r => r = (true, [.bool true, .lst 5 l, .int .i64 ((i + 1 : Nat) : Int), .int .i64 d, .int .i64 c, .int .i64 p0, .int .i64 p1, .int .i64 p2, .int .i64 0]) := by
  have hi := lt_of h
  refine Ev.eq (fun n => parse_parser_take_eq n w l i d c p0 p1 p2 0) (Ev.bindC (is_ev w h) ?_)
  intro _ ds h0; cases h0
  refine ⟨rfl, Ev.yes rfl (Ev.no (by show (!(t == w && k != 2)) = false; rw [hw]; rfl) (Ev.ret ?_))⟩
  rw [← wrap_succ (by omega)]; rfl
theorem take_no {w : List UInt8} (h : l[i]? = some (tk k t a b e)) (hw : (t == w && k != 2) = false) : Ev (fun n => parse_parser_take n (.str w) (.lst 5 l) (.int .i64 (i : Int)) (.int .i64 d) (.int .i64 c) (.int .i64 p0) (.int .i64 p1) (.int .i64 p2) (.int .i64 0)) fun r => r = (true, [.bool false, .lst 5 l, .int .i64 (i : Int), .int .i64 d, .int .i64 c, .int .i64 p0, .int .i64 p1, .int .i64 p2, .int .i64 0]) := by
  refine Ev.eq (fun n => parse_parser_take_eq n w l i d c p0 p1 p2 0) (Ev.bindC (is_ev w h) ?_)
  intro _ ds h0; cases h0
  exact ⟨rfl, Ev.yes rfl (Ev.yes (by show (!(t == w && k != 2)) = true; rw [hw]; rfl) (Ev.ret rfl))⟩
/-- Words that stand there, one behind the other. -/
def WordsAt (l : List D) (i : Nat) (ws : List (List UInt8)) : Prop := ∀ (j : Nat) (h : j < ws.length), ∃ k a b e, l[i + j]? = some (tk k ws[j] a b e) ∧ (k != 2) = true
theorem want_ev (hl : l.length ≤ 1000000) (ws : List (List UInt8)) (hw : ws.length ≤ 1000) (h : WordsAt l i ws) : Ev (fun n => parse_parser_want n (.lst 1 (ws.map D.str)) (.lst 5 l) (.int .i64 (i : Int)) (.int .i64 d) (.int .i64 c) (.int .i64 p0) (.int .i64 p1) (.int .i64 p2) (.int .i64 0)) fun r => r = (true, [.lst 5 l, .int .i64 ((i + ws.length : Nat) : Int), .int .i64 d, .int .i64 c, .int .i64 p0, .int .i64 p1, .int .i64 p2, .int .i64 0]) := by
  refine Ev.eq (fun n => parse_parser_want_eq n _ l i d c p0 p1 p2 0) ?_
  have loop : ∀ (m j : Nat), ws.length - j = m → j ≤ ws.length → Ev (fun n => parse_parser_want_L0 n (.lst 1 (ws.map D.str)) (.int .i64 ((ws.map D.str).length : Int)) (.int .i64 (j : Int)) (.lst 5 l) (.int .i64 ((i + j : Nat) : Int)) (.int .i64 d) (.int .i64 c) (.int .i64 p0) (.int .i64 p1) (.int .i64 p2) (.int .i64 0))
      fun r => r = (false, [.lst 1 (ws.map D.str), .int .i64 ((ws.map D.str).length : Int), .int .i64 (ws.length : Int), .lst 5 l, .int .i64 ((i + ws.length : Nat) : Int), .int .i64 d, .int .i64 c, .int .i64 p0, .int .i64 p1, .int .i64 p2, .int .i64 0]) := by
    intro m
    induction m with
    | zero =>
      intro j hm hj
      have : j = ws.length := by omega
      subst this
      exact Ev.eq (fun n => parse_parser_want_L0_eq n _ _ _ _ _ _ _ _ _ _ _) (Ev.no (decide_eq_false (by rw [List.length_map]; omega)) (Ev.ret rfl))
    | succ m ih =>
      intro j hm hj
      have hlt : j < ws.length := by omega
      obtain ⟨k, a, b, e, h1, h2⟩ := h j hlt
      have hg : (ws.map D.str)[((j : Nat) : Int).toNat]?.getD D.top = .str ws[j] := by
        rw [show ((j : Nat) : Int).toNat = j from rfl, List.getElem?_map, List.getElem?_eq_getElem hlt]; rfl
      refine Ev.eq (fun n => parse_parser_want_L0_eq n _ _ _ _ _ _ _ _ _ _ _) (Ev.yes (decide_eq_true (by rw [List.length_map]; omega)) (Ev.yes (in_range (by rw [List.length_map]; exact hlt)) ?_))
      rw [hg]
      refine Ev.yes rfl (Ev.bindC (take_yes hl h1 (by rw [h2]; show (ws[j] == ws[j] && true) = true; rw [beq_self_eq_true]; rfl)) ?_)
      intro _ ds h0; cases h0
      refine ⟨rfl, Ev.yes rfl (Ev.no rfl ?_)⟩
      have K := ih (j + 1) (by omega) (by omega)
      rw [← wrap_succ (by omega)] at K
      exact K
  refine Ev.bindL (loop ws.length 0 rfl (Nat.zero_le _)) (fun ds h => by cases h) fun ds h => ?_
  cases h
  exact Ev.yes rfl (Ev.ret rfl)
theorem isName_ev (h : l[i]? = some (tk 1 t a b e)) (hg : goodN t = true) : Ev (fun n => parse_parser_isName n (.lst 5 l) (.int .i64 (i : Int)) (.int .i64 d) (.int .i64 c) (.int .i64 p0) (.int .i64 p1) (.int .i64 p2) (.int .i64 0)) fun r => r = (true, [.bool true, .lst 5 l, .int .i64 (i : Int), .int .i64 d, .int .i64 c, .int .i64 p0, .int .i64 p1, .int .i64 p2, .int .i64 0]) := by
  simp only [goodN, Bool.and_eq_true, decide_eq_true_eq, Bool.not_eq_true', beq_eq_false_iff_ne] at hg
  obtain ⟨⟨⟨g1, g2⟩, g3⟩, g4⟩ := hg
  refine Ev.eq (fun n => parse_parser_isName_eq n l i d c p0 p1 p2 0) (Ev.bindC (now_ev h) ?_)
  intro _ ds h0; cases h0
  refine ⟨rfl, Ev.yes rfl (Ev.yes rfl (Ev.yes (and_tt rfl (decide_eq_true (by show (0 : Int) < (t.length : Int); omega))) (Ev.yes ?_ (Ev.yes (decide_eq_true (by show 1 + t.length ≤ maxStr; simp only [maxStr]; omega)) (Ev.yes (decide_eq_true (by show ([32] ++ t).length + 1 ≤ maxStr; simp only [maxStr, List.length_append, List.length_singleton]; omega)) (Ev.bindC (contains_ev (s := resT) res_len (([32] ++ t) ++ [32])) ?_))))))⟩
  · show ((((t[0]?.getD 0).toNat : Int)) != 36) = true
    simp only [bne_iff_ne, ne_eq]
    omega
  · intro _ ds h0; cases h0
    refine ⟨rfl, Ev.yes rfl (Ev.ret ?_)⟩
    show (true, [D.bool (!decide (0 ≤ idxStr (([32] ++ t) ++ [32]) resT 0)), _, _, _, _, _, _, _, _]) = _
    rw [g4]; rfl
theorem name_ev (hl : l.length ≤ 1000000) (h : l[i]? = some (tk 1 t a b e)) (hg : goodN t = true) : Ev (fun n => parse_parser_name n (.lst 5 l) (.int .i64 (i : Int)) (.int .i64 d) (.int .i64 c) (.int .i64 p0) (.int .i64 p1) (.int .i64 p2) (.int .i64 0)) fun r => r = (true, [.str t, .lst 5 l, .int .i64 ((i + 1 : Nat) : Int), .int .i64 d, .int .i64 c, .int .i64 p0, .int .i64 p1, .int .i64 p2, .int .i64 0]) := by
  have hi := lt_of h
  refine Ev.eq (fun n => parse_parser_name_eq n l i d c p0 p1 p2 0) (Ev.bindC (isName_ev h hg) ?_)
  intro _ ds h0; cases h0
  refine ⟨rfl, Ev.yes rfl (Ev.no rfl (Ev.bindC (now_ev h) ?_))⟩
  intro _ ds h0; cases h0
  refine ⟨rfl, Ev.yes rfl (Ev.ret ?_)⟩
  rw [← wrap_succ (by omega)]; rfl
end
end Go.Proofs.YtalibicpmfbieaaGreatDoor
