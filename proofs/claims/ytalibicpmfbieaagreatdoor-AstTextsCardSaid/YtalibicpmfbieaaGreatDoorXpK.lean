/- AstTexts. -/
import Derived.Test.YtalibicpmfbieaaGreatDoorXpJ
namespace Go.Proofs.YtalibicpmfbieaaGreatDoor
open Go.AE
set_option linter.unusedVariables false
set_option linter.unusedSimpArgs false
theorem Ev.exact {t : Nat → Out} {P : Bool × List D → Prop} (h : Ev t P) : ∃ r, P r ∧ Ev t fun x => x = r := by
  obtain ⟨r, hr, N, hN⟩ := h
  exact ⟨r, hr, r, rfl, N, hN⟩
theorem tawake_run (n : Nat) : law09_awake (n + 24) = some (true, [.bool true]) := by kernel_rfl
theorem tawake : Ev (fun n => law09_awake n) fun r => r = (true, [.bool true]) := by
  refine ⟨_, rfl, 24, fun n hn => ?_⟩
  obtain ⟨k, rfl⟩ : ∃ k, n = k + 24 := ⟨n - 24, by omega⟩
  exact tawake_run k
theorem tshort_ev {b : List D} (hb : Bytes b) : Ev (fun n => law09_Short n (.lst 1 b)) fun r => ∃ b', r = (true, [.lst 1 b']) ∧ Bytes b' ∧ b'.length ≤ 300 := by
  refine Ev.eq (fun n => law09_Short_eq n b) (Ev.test (fun h => ?_) fun h => ?_)
  · have h := of_decide_eq_true h
    refine Ev.yes (by rw [decide_eq_true (show (300 : Int) ≤ (b.length : Int) by omega)]; rfl) (Ev.ret ⟨_, rfl, ?_, ?_⟩)
    · intro x hx
      exact hb x (List.mem_of_mem_drop (List.mem_of_mem_take hx))
    · rw [List.length_take]; exact Nat.min_le_left _ _
  · have h := of_decide_eq_false h
    exact Ev.ret ⟨b, rfl, hb, by omega⟩
theorem sameLoop {s : List UInt8} {ys ws : List D} (hw : ∀ w ∈ ws, ∃ t, w = .str t) (hl : ws.length ≤ 68000000000) : ∀ (m j : Nat), ws.length - j = m → j ≤ ws.length →
    Ev (fun n => law09_AstTexts_L0 n (.str s) (.int .i64 (ws.length : Int)) (.int .i64 (j : Int)) (.lst 7 ys) (.lst 1 ws) (.lst 1 ws)) fun r => r = (false, [.str s, .int .i64 (ws.length : Int), .int .i64 (ws.length : Int), .lst 7 ys, .lst 1 ws, .lst 1 ws]) := by
  intro m
  induction m with
  | zero =>
    intro j hm hj
    have : j = ws.length := by omega
    subst this
    exact Ev.eq (fun n => law09_AstTexts_L0_eq n _ _ _ _ _ _) (Ev.no (decide_eq_false (by omega)) (Ev.ret rfl))
  | succ m ih =>
    intro j hm hj
    have hlt : j < ws.length := by omega
    obtain ⟨t, ht⟩ := hw _ (List.getElem_mem hlt)
    refine Ev.eq (fun n => law09_AstTexts_L0_eq n _ _ _ _ _ _) (Ev.yes (decide_eq_true (by omega)) (Ev.yes (in_range hlt) ?_))
    rw [get_nat hlt, ht]
    refine Ev.yes rfl (Ev.yes (in_range hlt) (Ev.yes rfl (Ev.no (by show (!(t == t)) = false; rw [beq_self_eq_true]; rfl) ?_)))
    rw [wrap_succ (by omega)]
    exact ih (j + 1) (by omega) hlt
theorem last_ev {s s' : List UInt8} (e : s = s' ++ [10]) (hls : s.length ≤ 68000000000) : Ev (fun _ => bif decide (0 ≤ IntKind.i64.wrap ((s.length : Int) - 1)) && decide (IntKind.i64.wrap ((s.length : Int) - 1) < (s.length : Int)) then some (true, [D.bool (((s[(IntKind.i64.wrap ((s.length : Int) - 1)).toNat]?.getD 0).toNat : Int) == 10)]) else none) fun r => r = (true, [.bool true]) := by
  have e2 : s.length = s'.length + 1 := by rw [e]; simp
  have ew : IntKind.i64.wrap ((s.length : Int) - 1) = (s'.length : Int) := by rw [wrap_id (by omega) (by omega)]; omega
  have eb : s[s'.length]?.getD 0 = 10 := by rw [e, List.getElem?_append_right (Nat.le_refl _), Nat.sub_self]; rfl
  rw [ew]
  refine Ev.yes (by rw [decide_eq_true (by omega), decide_eq_true (by omega)]; rfl) (Ev.ret ?_)
  rw [Int.toNat_natCast, eb]; rfl
theorem texts_tail {s : List UInt8} {ys ws : List D} (hst : ∀ w ∈ ws, ∃ t, w = .str t) (hlw : ws.length ≤ 68000000000) (hls : s.length ≤ 68000000000) (h10 : ∃ s', s = s' ++ [10]) (hT : Ev (fun n => ast_Text n (.lst 7 ys)) fun x => x = (true, [D.str s])) :
    Ev (fun n => law09_AstTexts_j1 n false [.str s] [.lst 1 ws] [.lst 7 ys] [.lst 1 ws]) fun r => r = (true, [.bool true]) := by
  refine evDf (fun n => law09_AstTexts_j1_def n _ _ _ _ _) (Ev.no rfl (Ev.bindL (sameLoop (s := s) (ys := ys) hst hlw ws.length 0 rfl (Nat.zero_le _)) (fun ds h => by cases h) fun ds h => ?_))
  cases h
  refine Ev.yes rfl (Ev.bindC hT ?_)
  intro _ _ h; cases h
  obtain ⟨s', hs'⟩ := h10
  have L := last_ev hs' hls
  exact ⟨rfl, Ev.yes rfl (Ev.yes (show (s == s) = true from beq_self_eq_true s) L)⟩
theorem astTexts_plain {b : List D} (hb : Bytes b) : Ev (fun n => law09_AstTexts n (.lst 1 b)) fun r => r = (true, [.bool true]) := by
  refine Ev.eq (fun n => law09_AstTexts_eq n b) (Ev.bindC tawake ?_)
  intro _ _ h; cases h
  refine ⟨rfl, Ev.yes rfl (Ev.no rfl (Ev.bindC (tshort_ev hb) ?_))⟩
  rintro _ _ ⟨b', h, hb', hl⟩; cases h
  refine ⟨rfl, Ev.yes rfl (Ev.bindC (Ev.same (make_ev hb' hl) (xmake_ev hb' hl)) ?_)⟩
  rintro _ _ ⟨⟨ms, h, hne, hn, hw⟩, ms2, h2, _, _, hx⟩; cases h; cases h2
  refine ⟨rfl, Ev.yes rfl (Ev.bindC (own_all (ms := ms) hn hw) ?_)⟩
  rintro _ _ ⟨ys, h, hO⟩; cases h
  obtain ⟨r0, ⟨st, h, W, h10⟩, hT⟩ := Ev.exact (text_ev hn hx hO)
  subst h
  obtain ⟨r1, ⟨st1, h, W1, _⟩, hT1⟩ := Ev.exact (text_ev (ms := []) (ys := []) (by simp) (fun k h => absurd h (by simp)) ⟨rfl, fun i h => absurd h (by simp)⟩)
  subst h
  have hL : ∀ x ∈ ms, (wM x).length ≤ 230000000 := fun x hx' => by obtain ⟨k, hk⟩ := xM_of hx hx'; exact wM_len hk
  have hm := flat_len (w := wM) hL
  have hm2 : ms.length * 230000000 ≤ 3 * 230000000 := Nat.mul_le_mul_right _ hn
  have lt : st.2.length ≤ 0 + 14 * (ms.flatMap wM).length := W.len
  have l1 : st1.2.length ≤ 0 + 14 * 0 := W1.len
  have e1 : st1.2 = [] := List.length_eq_zero_iff.1 (by omega)
  have hs := wr_split W
  have eS : (wds [] st.2).map D.str = txt (ms.flatMap wM) := by rw [hs, txt, List.map_map]; rfl
  have hls : st.2.length ≤ 68000000000 := by omega
  have hlw : (txt (ms.flatMap wM)).length ≤ 68000000000 := by rw [txt_len]; omega
  have hst : ∀ w ∈ txt (ms.flatMap wM), ∃ t, w = .str t := fun w hw => by
    obtain ⟨p, _, rfl⟩ := List.mem_map.1 hw
    exact ⟨p.2, rfl⟩
  refine ⟨rfl, Ev.yes rfl (Ev.bindC hT ?_)⟩
  intro _ _ h; cases h
  have SW := split_words hls
  rw [eS] at SW
  refine ⟨rfl, Ev.yes rfl (Ev.bindC SW ?_)⟩
  intro _ _ h; cases h
  refine ⟨rfl, Ev.yes rfl (Ev.bindC (wordsR (ms := ms) hn hx) ?_)⟩
  intro _ _ h; cases h
  have pl : plainDs ref09_Words.osk [.lst 1 (txt (ms.flatMap wM))] = true := by
    have h : (txt (ms.flatMap wM)).all plainD = true := List.all_eq_true.2 fun w hw => by obtain ⟨s, rfl⟩ := hst w hw; rfl
    show ((txt (ms.flatMap wM)).all plainD && true) = true
    rw [h]; rfl
  refine ⟨rfl, Ev.yes (and_tt rfl pl) ?_⟩
  have fin := texts_tail hst hlw hls (h10 hne) hT
  rw [e1] at hT1
  clear pl SW eS
  generalize txt (ms.flatMap wM) = ws at fin ⊢
  refine Ev.no (show ((ws.length : Int) != (ws.length : Int)) = false by simp) (Ev.bindC hT1 ?_)
  intro _ _ h; cases h
  exact ⟨rfl, Ev.yes rfl fin⟩
end Go.Proofs.YtalibicpmfbieaaGreatDoor
