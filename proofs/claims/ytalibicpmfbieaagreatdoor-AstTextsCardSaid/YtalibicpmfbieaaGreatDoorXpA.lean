/- The printer: words behind one another; an expression is written as its words. -/
import Derived.Test.YtalibicpmfbieaaGreatDoorXwE
namespace Go.Proofs.YtalibicpmfbieaaGreatDoor
open Go.AE
set_option linter.unusedVariables false
set_option linter.unusedSimpArgs false
def gwB (t : List UInt8) : Bool := Nat.ble t.length 12 && (!t.isEmpty && t.all fun c => !(c == 32) && !(c == 10))
/-- A word: short, with no blank. -/
def gw (t : List UInt8) : Prop := gwB t = true
instance gw_dec (t : List UInt8) : Decidable (gw t) := inferInstanceAs (Decidable (_ = true))
theorem gw_len {t : List UInt8} (h : gw t) : t.length ≤ 12 := by
  have h : gwB t = true := h
  rw [gwB, Bool.and_eq_true] at h
  exact Nat.le_of_ble_eq_true h.1
abbrev Itm := Option (List UInt8)
def stp (st : Bool × List UInt8) : Itm → Bool × List UInt8
  | some w => (false, st.2 ++ ((bif !st.2.isEmpty && !st.1 then [32] else []) ++ w))
  | none => (true, st.2 ++ [10])
def PI (its : List Itm) (st : Bool × List UInt8) : Bool × List UInt8 := its.foldl stp st
def wof (its : List Itm) : List (List UInt8) := its.filterMap id
/-- Words (and ends of lines) are written. -/
def Wr (st st' : Bool × List UInt8) (ws : List Tk) : Prop := ∃ its, st' = PI its st ∧ wof its = ws.map (·.2) ∧ st'.2.length ≤ st.2.length + 14 * ws.length ∧ ∀ p ∈ ws, gw p.2
theorem Wr.len {f f' : Bool} {s s' : List UInt8} {ws : List Tk} (h : Wr (f, s) (f', s') ws) : s'.length ≤ s.length + 14 * ws.length := by
  obtain ⟨_, _, _, h, _⟩ := h; exact h
theorem Wr.nil (st : Bool × List UInt8) : Wr st st [] := ⟨[], rfl, rfl, by simp, fun _ h => by cases h⟩
theorem Wr.app {a b c : Bool × List UInt8} {u v : List Tk} (h : Wr a b u) (h' : Wr b c v) : Wr a c (u ++ v) := by
  obtain ⟨x, h1, h2, h3, h4⟩ := h
  obtain ⟨y, k1, k2, k3, k4⟩ := h'
  refine ⟨x ++ y, by rw [k1, h1]; simp [PI, List.foldl_append], by simp [wof, List.filterMap_append] at h2 k2 ⊢; rw [h2, k2], by rw [List.length_append]; omega, fun p hp => (List.mem_append.1 hp).elim (h4 p) (k4 p)⟩
theorem byteD_app (a b : List UInt8) : byteD a ++ byteD b = byteD (a ++ b) := by simp [byteD]
theorem byteD_len (a : List UInt8) : (byteD a).length = a.length := List.length_map ..
theorem byteD_plain (s : List UInt8) : (byteD s).all plainD = true := by
  induction s with
  | nil => rfl
  | cons x s ih => simp only [byteD, List.map_cons, List.all_cons] at ih ⊢; rw [ih]; rfl
theorem plainB (sk : Sk) (f : Bool) (s : List UInt8) : plainDs sk [.bool f, .lst 1 (byteD s)] = true := by
  simp only [plainDs, List.all_cons, List.all_nil, byteD_plain]; rfl
abbrev PrT := Nat → D → D → Out
/-- Something is written as these words. -/
def Pr (F : PrT) (ws : List Tk) : Prop := ∀ (f : Bool) (s : List UInt8), s.length + 14 * ws.length ≤ 68000000000 → Ev (fun n => F n (.bool f) (.lst 1 (byteD s))) fun r => ∃ st : Bool × List UInt8, r = (true, [.bool st.1, .lst 1 (byteD st.2)]) ∧ Wr (f, s) st ws
def shortW (ws : List Tk) : Prop := ∀ p ∈ ws, gw p.2
theorem wr_one {f : Bool} {s : List UInt8} {p : Tk} (h : gw p.2) : Wr (f, s) (stp (f, s) (some p.2)) [p] :=
  ⟨[some p.2], rfl, rfl, by
    show (s ++ ((bif !s.isEmpty && !f then [32] else []) ++ p.2)).length ≤ s.length + 14 * [p].length
    have : (bif !s.isEmpty && !f then [32] else [] : List UInt8).length ≤ 1 := by cases !s.isEmpty && !f <;> simp
    have h12 := gw_len h
    simp only [List.length_append, List.length_cons, List.length_nil]; omega, fun q hq => by rw [List.mem_singleton.1 hq]; exact h⟩
theorem txt_at {ws : List Tk} {i : Nat} (h : i < ws.length) : (txt ws)[((i : Nat) : Int).toNat]?.getD D.top = .str (ws[i]'h).2 := by
  rw [show ((i : Nat) : Int).toNat = i from rfl, txt, List.getElem?_map, List.getElem?_eq_getElem h]; rfl
theorem wordLoop {ws : List Tk} (hs : shortW ws) (hl : ws.length ≤ 1000) : ∀ (m j : Nat) (f : Bool) (s : List UInt8), ws.length - j = m → j ≤ ws.length → s.length + 14 * (ws.drop j).length ≤ 68000000000 →
    Ev (fun n => ast_printer_word_L0 n (.lst 1 (txt ws)) (.int .i64 ((txt ws).length : Int)) (.int .i64 (j : Int)) (.bool f) (.lst 1 (byteD s))) fun r =>
      ∃ st : Bool × List UInt8, r = (false, [.lst 1 (txt ws), .int .i64 ((txt ws).length : Int), .int .i64 (ws.length : Int), .bool st.1, .lst 1 (byteD st.2)]) ∧ Wr (f, s) st (ws.drop j) ∧ st = PI ((ws.drop j).map fun p => some p.2) (f, s) := by
  intro m
  induction m with
  | zero =>
    intro j f s hm hj hb
    have : j = ws.length := by omega
    subst this
    refine Ev.eq (fun n => ast_printer_word_L0_eq n _ _ _ _ _) (Ev.no (decide_eq_false (by rw [txt_len]; omega)) (Ev.ret ⟨(f, s), rfl, ?_⟩))
    rw [List.drop_length]; exact ⟨Wr.nil _, rfl⟩
  | succ m ih =>
    intro j f s hm hj hb
    have hlt : j < ws.length := by omega
    have hlt2 : j < (txt ws).length := by rw [txt_len]; exact hlt
    have hg := hs _ (List.getElem_mem hlt)
    have h12 := gw_len hg
    rw [drop_cons hlt] at hb ⊢
    simp only [List.length_cons] at hb
    have W := wr_one (f := f) (s := s) hg
    have fin : ∀ st : Bool × List UInt8, st = stp (f, s) (some (ws[j]'hlt).2) → Ev (fun n => ast_printer_word_L0 n (.lst 1 (txt ws)) (.int .i64 ((txt ws).length : Int)) (.int .i64 (IntKind.i64.wrap ((j : Int) + 1))) (.bool st.1) (.lst 1 (byteD st.2))) fun r =>
        ∃ st : Bool × List UInt8, r = (false, [.lst 1 (txt ws), .int .i64 ((txt ws).length : Int), .int .i64 (ws.length : Int), .bool st.1, .lst 1 (byteD st.2)]) ∧ Wr (f, s) st (ws[j] :: ws.drop (j + 1)) ∧ st = PI ((ws[j] :: ws.drop (j + 1)).map fun p => some p.2) (f, s) := by
      intro st hst
      rw [← hst] at W
      obtain ⟨f1, s1⟩ := st
      have l1 := W.len
      simp only [List.length_cons, List.length_nil] at l1
      rw [wrap_succ (by omega)]
      refine (ih (j + 1) f1 s1 (by omega) hlt (by omega)).mono fun r hr => ?_
      obtain ⟨st, h1, h2, h3⟩ := hr
      exact ⟨st, h1, W.app h2, by rw [h3, hst]; rfl⟩
    have J : ∀ g : Bool, g = (!s.isEmpty && !f) → Ev (fun n => ast_printer_word_L0_j1 n g f (byteD s) (txt ws) (j : Int) ((txt ws).length : Int)) fun r =>
        ∃ st : Bool × List UInt8, r = (false, [.lst 1 (txt ws), .int .i64 ((txt ws).length : Int), .int .i64 (ws.length : Int), .bool st.1, .lst 1 (byteD st.2)]) ∧ Wr (f, s) st (ws[j] :: ws.drop (j + 1)) ∧ st = PI ((ws[j] :: ws.drop (j + 1)).map fun p => some p.2) (f, s) := by
      intro g hg
      refine evDf (fun n => ast_printer_word_L0_j1_def n _ _ _ _ _ _) ?_
      have hs1 : s.length ≤ 68000000000 := by omega
      cases g with
      | true =>
        refine Ev.yes rfl (Ev.bindC (Q := fun r => r = (true, [.nili, .bool f, .lst 1 (byteD (s ++ [32]))])) ?_ ?_)
        · refine Ev.eq (fun n => strings_Builder_WriteByte_eq n _ _ _) (Ev.yes (Nat.ble_eq_true_of_le (by rw [byteD_len]; simp only [maxLst]; omega)) (Ev.ret ?_))
          rw [← byteD_app]; rfl
        · intro _ _ h; cases h
          rw [txt_at hlt]
          refine ⟨rfl, Ev.yes rfl (Ev.bindC (Q := fun r => ∃ d : Int, r = (true, [.int .i64 d, .nili, .bool f, .lst 1 (byteD (s ++ [32] ++ (ws[j]'hlt).2))])) ?_ ?_)⟩
          · refine Ev.eq (fun n => strings_Builder_WriteString_eq n _ _ _) (Ev.yes ?_ (Ev.ret ⟨((ws[j]'hlt).2.length : Int), ?_⟩))
            · show (Nat.ble ((byteD (s ++ [32])).length + (ws[j]'hlt).2.length) maxLst && true) = true
              rw [Nat.ble_eq_true_of_le (by rw [byteD_len, List.length_append]; simp only [maxLst, List.length_cons, List.length_nil]; omega)]; rfl
            · rw [← byteD_app (s ++ [32])]; rfl
          · rintro _ _ ⟨d, h⟩; cases h
            refine ⟨rfl, Ev.yes rfl (fin (false, s ++ [32] ++ (ws[j]'hlt).2) ?_)⟩
            show _ = (false, s ++ ((bif !s.isEmpty && !f then [32] else []) ++ (ws[j]'hlt).2))
            rw [← hg, List.append_assoc]; rfl
      | false =>
        rw [txt_at hlt]
        refine Ev.no rfl (Ev.bindC (Q := fun r => ∃ d : Int, r = (true, [.int .i64 d, .nili, .bool f, .lst 1 (byteD (s ++ (ws[j]'hlt).2))])) ?_ ?_)
        · refine Ev.eq (fun n => strings_Builder_WriteString_eq n _ _ _) (Ev.yes ?_ (Ev.ret ⟨((ws[j]'hlt).2.length : Int), ?_⟩))
          · show (Nat.ble ((byteD s).length + (ws[j]'hlt).2.length) maxLst && true) = true
            rw [Nat.ble_eq_true_of_le (by rw [byteD_len]; simp only [maxLst]; omega)]; rfl
          · rw [← byteD_app s]; rfl
        · rintro _ _ ⟨d, h⟩; cases h
          refine ⟨rfl, Ev.yes rfl (fin (false, s ++ (ws[j]'hlt).2) ?_)⟩
          show _ = (false, s ++ ((bif !s.isEmpty && !f then [32] else []) ++ (ws[j]'hlt).2))
          rw [← hg]; rfl
    refine Ev.eq (fun n => ast_printer_word_L0_eq n _ _ _ _ _) (Ev.yes (decide_eq_true (by rw [txt_len]; omega)) (Ev.yes (in_range hlt2) (Ev.yes (by rw [txt_at hlt]; rfl) ?_)))
    refine Ev.bindC (Ev.eq (fun n => strings_Builder_Len_eq n f (byteD s)) (Ev.ret (P := fun r => r = _) rfl)) ?_
    intro _ _ h; cases h
    refine ⟨rfl, Ev.yes rfl (Ev.test (fun h => ?_) fun h => ?_)⟩
    · refine J _ ?_
      have h : 0 < ((byteD s).length : Int) := of_decide_eq_true h
      rw [byteD_len] at h
      cases s with
      | nil => simp at h
      | cons => simp [nth, D.b]
    · refine J _ ?_
      have h : ¬ (0 < ((byteD s).length : Int)) := of_decide_eq_false h
      rw [byteD_len] at h
      cases s with
      | nil => rfl
      | cons => simp at h
theorem word_ex {ws : List Tk} (hs : shortW ws) (hl : ws.length ≤ 1000) (f : Bool) (s : List UInt8) (hb : s.length + 14 * ws.length ≤ 68000000000) :
    Ev (fun n => ast_printer_word n (.lst 1 (txt ws)) (.bool f) (.lst 1 (byteD s))) fun r => ∃ st : Bool × List UInt8, r = (true, [.bool st.1, .lst 1 (byteD st.2)]) ∧ Wr (f, s) st ws ∧ st = PI (ws.map fun p => some p.2) (f, s) := by
  refine Ev.eq (fun n => ast_printer_word_eq n _ _ _) (Ev.bindL (wordLoop hs hl ws.length 0 f s rfl (Nat.zero_le _) (by rw [List.drop_zero]; exact hb)) (fun ds h => by obtain ⟨_, h, _⟩ := h; cases h) fun ds h => ?_)
  obtain ⟨st, h, hw⟩ := h
  cases h
  exact Ev.yes rfl (Ev.ret ⟨st, rfl, hw⟩)
theorem word_pr {ws : List Tk} (hs : shortW ws) (hl : ws.length ≤ 1000) : Pr (fun n => ast_printer_word n (.lst 1 (txt ws))) ws := by
  intro f s hb
  refine (word_ex hs hl f s hb).mono fun r ⟨st, h1, h2, _⟩ => ⟨st, h1, h2⟩
end Go.Proofs.YtalibicpmfbieaaGreatDoor
