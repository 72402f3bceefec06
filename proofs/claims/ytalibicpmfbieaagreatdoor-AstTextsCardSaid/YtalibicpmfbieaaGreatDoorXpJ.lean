/- The law's own splitter finds the words again. -/
import Derived.Test.YtalibicpmfbieaaGreatDoorXpI
namespace Go.Proofs.YtalibicpmfbieaaGreatDoor
open Go.AE
set_option linter.unusedVariables false
set_option linter.unusedSimpArgs false
def wds : List UInt8 → List UInt8 → List (List UInt8)
  | cur, [] => bif cur.isEmpty then [] else [cur]
  | cur, c :: r => bif c == 32 || c == 10 then (bif cur.isEmpty then [] else [cur]) ++ wds [] r else wds (cur ++ [c]) r
theorem emit_ev {P : Bool × List D → Prop} {s pre cur rest : List UInt8} {acc : List D} (hs : s = pre ++ cur ++ rest) (hl : s.length ≤ 68000000000) (ha : acc.length ≤ pre.length)
    (K : ∀ acc', acc' = acc ++ (bif cur.isEmpty then [] else [cur] : List (List UInt8)).map D.str → Ev (fun n => law09_Words_L0 n (.str s) (.int .i64 (IntKind.i64.wrap (((pre ++ cur).length : Int) + 1))) (.int .i64 (IntKind.i64.wrap (((pre ++ cur).length : Int) + 1))) (.lst 1 acc')) P) :
    Ev (fun n => bif decide (((pre ++ cur).length : Int) > (pre.length : Int)) then
      (bif decide (0 ≤ (pre.length : Int)) && decide ((pre.length : Int) ≤ ((pre ++ cur).length : Int)) && decide (((pre ++ cur).length : Int) ≤ (s.length : Int)) then
        (bif Nat.ble (acc.length + 1) maxLst then law09_Words_L0 n (.str s) (.int .i64 (IntKind.i64.wrap (((pre ++ cur).length : Int) + 1))) (.int .i64 (IntKind.i64.wrap (((pre ++ cur).length : Int) + 1))) (.lst 1 (acc ++ [.str ((s.drop (pre.length : Int).toNat).take (((pre ++ cur).length : Int).toNat - (pre.length : Int).toNat))])) else none) else none)
      else law09_Words_L0 n (.str s) (.int .i64 (IntKind.i64.wrap (((pre ++ cur).length : Int) + 1))) (.int .i64 (IntKind.i64.wrap (((pre ++ cur).length : Int) + 1))) (.lst 1 acc)) P := by
  have hsl : s.length = pre.length + cur.length + rest.length := by rw [hs]; simp only [List.length_append]
  have hpc : (pre ++ cur).length = pre.length + cur.length := List.length_append
  refine Ev.test (fun h => ?_) fun h => ?_
  · have h := of_decide_eq_true h
    have hc : cur.isEmpty = false := by
      cases cur with
      | nil => simp at h
      | cons => rfl
    refine Ev.yes (by rw [decide_eq_true (by omega), decide_eq_true (by omega), decide_eq_true (by omega)]; rfl) (Ev.yes (Nat.ble_eq_true_of_le (by simp only [maxLst]; omega)) (K _ ?_))
    rw [hc]
    have : (s.drop (pre.length : Int).toNat).take (((pre ++ cur).length : Int).toNat - (pre.length : Int).toNat) = cur := by
      rw [Int.toNat_natCast, Int.toNat_natCast, hpc, Nat.add_sub_cancel_left, hs, List.append_assoc, List.drop_left, List.take_left]
    rw [this]; rfl
  · have h := of_decide_eq_false h
    have hc : cur = [] := List.length_eq_zero_iff.1 (by omega)
    subst hc
    exact K _ (by simp)
theorem splitL {s : List UInt8} (hl : s.length ≤ 68000000000) : ∀ (rest pre cur : List UInt8) (acc : List D), s = pre ++ cur ++ rest → acc.length ≤ pre.length →
    Ev (fun n => law09_Words_L0 n (.str s) (.int .i64 (pre.length : Int)) (.int .i64 ((pre ++ cur).length : Int)) (.lst 1 acc)) fun r => ∃ a b, r = (false, [.str s, .int .i64 a, .int .i64 b, .lst 1 (acc ++ (wds cur rest).map D.str)]) := by
  intro rest
  induction rest with
  | nil =>
    intro pre cur acc hs ha
    have e1 : s.length = (pre ++ cur).length := by rw [hs]; simp
    refine Ev.eq (fun n => law09_Words_L0_eq n _ _ _ _) (Ev.yes (decide_eq_true (by omega)) (Ev.no (decide_eq_false (by omega)) (emit_ev hs hl ha fun acc' he => ?_)))
    rw [wrap_succ (by omega)]
    exact Ev.eq (fun n => law09_Words_L0_eq n _ _ _ _) (Ev.no (decide_eq_false (by omega)) (Ev.ret ⟨_, _, by rw [he]; rfl⟩))
  | cons c r ih =>
    intro pre cur acc hs ha
    have e1 : s.length = (pre ++ cur).length + (r.length + 1) := by rw [hs]; simp only [List.length_append, List.length_cons]
    have hpc : (pre ++ cur).length = pre.length + cur.length := List.length_append
    have hc : (s[((pre ++ cur).length : Int).toNat]?.getD 0 : UInt8) = c := by
      rw [Int.toNat_natCast, hs, List.getElem?_append_right (Nat.le_refl _), Nat.sub_self]; rfl
    have sep : ∀ acc', acc' = acc ++ (bif cur.isEmpty then [] else [cur] : List (List UInt8)).map D.str → (c == 32 || c == 10) = true → Ev (fun n => law09_Words_L0 n (.str s) (.int .i64 (IntKind.i64.wrap (((pre ++ cur).length : Int) + 1))) (.int .i64 (IntKind.i64.wrap (((pre ++ cur).length : Int) + 1))) (.lst 1 acc')) fun r_1 => ∃ a b, r_1 = (false, [.str s, .int .i64 a, .int .i64 b, .lst 1 (acc ++ (wds cur (c :: r)).map D.str)]) := by
      intro acc' he hcc
      rw [wrap_succ (by omega)]
      have := ih (pre ++ cur ++ [c]) [] acc' (by rw [hs]; simp) (by
        rw [he, List.length_append, List.length_append]
        have : ((bif cur.isEmpty then [] else [cur] : List (List UInt8)).map D.str).length ≤ 1 := by cases cur.isEmpty <;> simp
        simp only [List.length_cons, List.length_nil]; omega)
      rw [List.append_nil, show ((pre ++ cur ++ [c]).length : Int) = (((pre ++ cur).length + 1 : Nat) : Int) from by rw [List.length_append]; rfl] at this
      refine this.mono fun _ ⟨a, b, h⟩ => ⟨a, b, ?_⟩
      rw [h, he]
      show _ = (false, [D.str s, .int .i64 a, .int .i64 b, .lst 1 (acc ++ (bif c == 32 || c == 10 then (bif cur.isEmpty then [] else [cur]) ++ wds [] r else wds (cur ++ [c]) r).map D.str)])
      rw [hcc, cond_true, List.map_append, List.append_assoc]
    have rng : (decide (0 ≤ ((pre ++ cur).length : Int)) && decide (((pre ++ cur).length : Int) < (s.length : Int))) = true := by
      rw [decide_eq_true (by omega), decide_eq_true (by omega)]; rfl
    refine Ev.eq (fun n => law09_Words_L0_eq n _ _ _ _) (Ev.yes (decide_eq_true (by omega)) (Ev.yes (decide_eq_true (by omega)) (Ev.yes rng ?_)))
    rw [hc]
    refine Ev.test (fun h1 => Ev.yes rng (Ev.test (fun h2 => ?_) fun h2 => ?_)) fun h1 => ?_
    · have n1 : (c == 32) = false := by
        refine beq_eq_false_iff_ne.2 fun e => ?_
        subst e; exact absurd h1 (by decide)
      have n2 : (c == 10) = false := by
        refine beq_eq_false_iff_ne.2 fun e => ?_
        subst e; exact absurd h2 (by decide)
      rw [wrap_succ (by omega)]
      have := ih pre (cur ++ [c]) acc (by rw [hs]; simp) ha
      rw [show ((pre ++ (cur ++ [c])).length : Int) = (((pre ++ cur).length + 1 : Nat) : Int) from by rw [← List.append_assoc, List.length_append]; rfl] at this
      refine this.mono fun _ ⟨a, b, h⟩ => ⟨a, b, ?_⟩
      rw [h]
      show _ = (false, [D.str s, .int .i64 a, .int .i64 b, .lst 1 (acc ++ (bif c == 32 || c == 10 then (bif cur.isEmpty then [] else [cur]) ++ wds [] r else wds (cur ++ [c]) r).map D.str)])
      rw [n1, n2]; rfl
    · refine emit_ev hs hl ha fun acc' he => sep acc' he ?_
      have h2 : ((c.toNat : Int) != 10) = false := h2
      have : c.toNat = 10 := by simp at h2; omega
      have : c = 10 := UInt8.toNat_inj.1 this
      subst this; rfl
    · refine emit_ev hs hl ha fun acc' he => sep acc' he ?_
      have h1 : ((c.toNat : Int) != 32) = false := h1
      have : c.toNat = 32 := by simp at h1; omega
      have : c = 32 := UInt8.toNat_inj.1 this
      subst this; rfl
theorem split_words {s : List UInt8} (hl : s.length ≤ 68000000000) : Ev (fun n => law09_Words n (.str s)) fun r => r = (true, [.lst 1 ((wds [] s).map D.str)]) := by
  refine Ev.eq (fun n => law09_Words_eq n s) (Ev.bindL (splitL hl s [] [] [] rfl (Nat.le_refl _)) (fun ds h => by obtain ⟨_, _, h⟩ := h; cases h) fun ds h => ?_)
  obtain ⟨a, b, h⟩ := h
  cases h
  exact Ev.yes rfl (Ev.ret rfl)
/-! What is written splits into the words. -/
theorem wds_word {t : List UInt8} (ht : (t.all fun c => !(c == 32) && !(c == 10)) = true) : ∀ (cur r : List UInt8), wds cur (t ++ r) = wds (cur ++ t) r := by
  induction t with
  | nil => intro cur r; rw [List.append_nil]; rfl
  | cons c t ih =>
    intro cur r
    rw [List.all_cons, Bool.and_eq_true] at ht
    have n : (c == 32 || c == 10) = false := by
      have := ht.1
      cases h1 : c == 32 <;> cases h2 : c == 10 <;> simp [h1, h2] at this ⊢
    show (bif c == 32 || c == 10 then (bif cur.isEmpty then [] else [cur]) ++ wds [] (t ++ r) else wds (cur ++ [c]) (t ++ r)) = _
    rw [n, cond_false, ih ht.2, List.append_assoc]; rfl
def Cut (st : Bool × List UInt8) (ws : List (List UInt8)) : Prop :=
  (st.1 = true ∧ ∀ t, wds [] (st.2 ++ t) = ws ++ wds [] t) ∨ (st.1 = false ∧ st.2 ≠ [] ∧ ∃ ws0 w, ws = ws0 ++ [w] ∧ w ≠ [] ∧ ∀ t, wds [] (st.2 ++ t) = ws0 ++ wds w t)
theorem wds_sep {w : List UInt8} (hw : w ≠ []) {c : UInt8} (hc : (c == 32 || c == 10) = true) (t : List UInt8) : wds w (c :: t) = [w] ++ wds [] t := by
  show (bif c == 32 || c == 10 then (bif w.isEmpty then [] else [w]) ++ wds [] t else wds (w ++ [c]) t) = _
  rw [hc]
  cases w with
  | nil => exact absurd rfl hw
  | cons => rfl
theorem cut_stp {st : Bool × List UInt8} {ws : List (List UInt8)} (h : Cut st ws) {i : Itm} (hi : ∀ w, i = some w → gw w) : Cut (stp st i) (ws ++ wof [i]) := by
  cases i with
  | none =>
    rw [show ws ++ wof [none] = ws from List.append_nil _]
    refine .inl ⟨rfl, fun t => ?_⟩
    show wds [] ((st.2 ++ [10]) ++ t) = _
    rw [List.append_assoc]
    rcases h with ⟨_, h⟩ | ⟨_, _, ws0, w, rfl, hw, h⟩
    · rw [h]; rfl
    · rw [h, List.append_assoc]
      exact congrArg _ (wds_sep hw rfl t)
  | some w' =>
    have hg : gwB w' = true := hi w' rfl
    rw [gwB, Bool.and_eq_true, Bool.and_eq_true] at hg
    obtain ⟨_, hne, hall⟩ := hg
    have hne : w' ≠ [] := by
      intro e; subst e; exact absurd hne (by decide)
    have e2 : (stp st (some w')).2 = st.2 ++ ((bif !st.2.isEmpty && !st.1 then [32] else []) ++ w') := rfl
    refine .inr ⟨rfl, ?_, ?_⟩
    · rw [e2]; simp [hne]
    · rcases h with ⟨h1, h⟩ | ⟨h1, hn, ws0, w, rfl, hw, h⟩
      · refine ⟨ws, w', rfl, hne, fun t => ?_⟩
        rw [e2, h1, show (bif !st.2.isEmpty && !true then [32] else [] : List UInt8) = [] from by cases st.2.isEmpty <;> rfl, List.nil_append, List.append_assoc, h, wds_word hall]; rfl
      · refine ⟨ws0 ++ [w], w', rfl, hne, fun t => ?_⟩
        have : st.2.isEmpty = false := by
          cases hs : st.2 with
          | nil => exact absurd hs hn
          | cons => rfl
        rw [e2, h1, this, show (bif !false && !false then [32] else [] : List UInt8) = [32] from rfl, List.append_assoc, h]
        show ws0 ++ wds w (32 :: (w' ++ t)) = _
        rw [wds_sep hw rfl, wds_word hall, List.append_assoc]; rfl
theorem cut_PI : ∀ (its : List Itm) (st : Bool × List UInt8) (ws : List (List UInt8)), Cut st ws → (∀ w ∈ wof its, gw w) → Cut (PI its st) (ws ++ wof its)
  | [], st, ws, h, _ => by rw [show ws ++ wof [] = ws from List.append_nil _]; exact h
  | i :: its, st, ws, h, hg => by
    have h1 := cut_stp h (i := i) fun w e => hg w (by subst e; exact List.mem_cons_self)
    have e : wof (i :: its) = wof [i] ++ wof its := by cases i <;> rfl
    have h2 := cut_PI its (stp st i) _ h1 fun w hw => hg w (by rw [e]; exact List.mem_append_right _ hw)
    rw [e, ← List.append_assoc]; exact h2
theorem wr_split {st : Bool × List UInt8} {ws : List Tk} (h : Wr (true, []) st ws) : wds [] st.2 = ws.map (·.2) := by
  obtain ⟨its, h1, h2, _, h4⟩ := h
  have h := cut_PI its (true, []) [] (.inl ⟨rfl, fun t => rfl⟩) (fun w hw => by
    rw [h2] at hw
    obtain ⟨p, hp, rfl⟩ := List.mem_map.1 hw
    exact h4 p hp)
  rw [← h1, List.nil_append, h2] at h
  rcases h with ⟨_, h⟩ | ⟨_, _, ws0, w, e, hw, h⟩
  · have := h []
    rw [List.append_nil] at this
    rw [this]; exact List.append_nil _
  · have := h []
    rw [List.append_nil] at this
    rw [this, e]
    cases w with
    | nil => exact absurd rfl hw
    | cons => rfl
end Go.Proofs.YtalibicpmfbieaaGreatDoor
