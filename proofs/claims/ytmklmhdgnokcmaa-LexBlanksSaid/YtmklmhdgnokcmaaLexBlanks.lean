/- LexBlanks, plain: blanks between words change no word. -/
import Derived.Test.YtmklmhdgnokcmaaLexTexts
namespace Go.Proofs.Ytmklmhdgnokcmaa
open Go.AE
set_option linter.unusedVariables false
def gapTab : List D := [.str [32], .str [10], .str [9, 32], .str [32, 32, 13, 10], .str [32], .str [10, 10], .str [32, 32, 32], .str [9]]
/-- Words, a gap before each. -/
def bld : List (List UInt8) → List D → List UInt8
  | g :: gs, y :: ts => g ++ ((kw y).2 ++ bld gs ts)
  | _, _ => []
def GapW (g : List UInt8) : Prop := g ≠ [] ∧ g.length ≤ 4 ∧ ∀ b ∈ g, blankB b = true
theorem gap_bld {gs : List (List UInt8)} (h : ∀ g ∈ gs, GapW g) (ts : List D) : Gap (bld gs ts) := by
  intro b t he
  cases gs with
  | nil => simp [bld] at he
  | cons g gs =>
    cases ts with
    | nil => simp [bld] at he
    | cons y ts =>
      obtain ⟨h1, _, h3⟩ := h g (List.mem_cons_self ..)
      cases g with
      | nil => exact absurd rfl h1
      | cons x g =>
        have he : x :: (g ++ ((kw y).2 ++ bld gs ts)) = b :: t := he
        injection he with e1 e2
        subst e1
        exact h3 x (List.mem_cons_self ..)
theorem bld_len : ∀ (gs : List (List UInt8)) (ts : List D), (∀ g ∈ gs, GapW g) → (bld gs ts).length ≤ 4 * ts.length + wl ts
  | [], ts, _ => by simp [bld]
  | g :: gs, [], _ => by simp [bld]
  | g :: gs, y :: ts, h => by
    have ih := bld_len gs ts fun x hx => h x (List.mem_cons_of_mem _ hx)
    have := (h g (List.mem_cons_self ..)).2.1
    show (g ++ ((y.at_ 1).s ++ bld gs ts)).length ≤ 4 * (ts.length + 1) + ((y.at_ 1).s.length + wl ts)
    simp only [List.length_append]; omega
theorem again_bld : ∀ (ts : List D) (gs : List (List UInt8)) (p : Int × Int), gs.length = ts.length → (∀ g ∈ gs, GapW g) → WToks ts → ∃ ts', Again p (bld gs ts) ts' ∧ Toks ts' ∧ ts'.length = ts.length ∧ words ts' = words ts ∧ wl ts' = wl ts
  | [], gs, p, hl, _, _ => by
    have : gs = [] := List.eq_nil_of_length_eq_zero hl
    subst this
    exact ⟨[], .nil, fun y hy => by simp at hy, rfl, rfl, rfl⟩
  | y :: ts, [], _, hl, _, _ => by simp at hl
  | y :: ts, g :: gs, p, hl, hg, h => by
    obtain ⟨k, w, a, b, d, rfl, hW⟩ := h y (List.mem_cons_self ..)
    have hgs : ∀ x ∈ gs, GapW x := fun x hx => hg x (List.mem_cons_of_mem _ hx)
    obtain ⟨ts', h1, h2, h3, h4, h5⟩ := again_bld ts gs (mv (mv p g) w) (by simpa using hl) hgs fun z hz => h z (List.mem_cons_of_mem _ hz)
    refine ⟨tokD k w 1 (mv p g).1 (mv p g).2 :: ts', Again.cons (hg g (List.mem_cons_self ..)).2.2 hW (gap_bld hgs ts) h1, fun z hz => ?_, by simp [h3], ?_, ?_⟩
    · rcases List.mem_cons.1 hz with rfl | hz
      · exact ⟨_, _, _, _, _, rfl⟩
      · exact h2 z hz
    · show w :: words ts' = w :: words ts
      rw [h4]
    · show w.length + wl ts' = w.length + wl ts
      rw [h5]
theorem gap_at {g : Int} (h0 : 0 ≤ g) (h1 : g < 8) : ∃ b, gapTab[g.toNat]?.getD D.top = .str b ∧ GapW b := by
  have : g = 0 ∨ g = 1 ∨ g = 2 ∨ g = 3 ∨ g = 4 ∨ g = 5 ∨ g = 6 ∨ g = 7 := by omega
  rcases this with rfl | rfl | rfl | rfl | rfl | rfl | rfl | rfl
  all_goals exact ⟨_, rfl, by simp, by decide, by decide⟩
theorem and7 (i : Int) : 0 ≤ IntKind.i64.wrap ((BitVec.ofInt (IntKind.i64).bits i &&& BitVec.ofInt (IntKind.i64).bits 7).toNat : Int) ∧ IntKind.i64.wrap ((BitVec.ofInt (IntKind.i64).bits i &&& BitVec.ofInt (IntKind.i64).bits 7).toNat : Int) < 8 := by
  have h : (BitVec.ofInt (IntKind.i64).bits i &&& BitVec.ofInt (IntKind.i64).bits 7).toNat ≤ 7 := by
    rw [BitVec.toNat_and]
    exact Nat.le_trans Nat.and_le_right (by decide)
  rw [wrap_id (by omega) (by omega)]
  omega
theorem blanksLoop {ts gl : List D} (h : WToks ts) (hb : ts.length ≤ 12000) (hwl : wl ts ≤ 12000) (hgl : ∀ y ∈ gl, ∃ i : Int, y = .int .i64 i) : ∀ (m j : Nat) (s : List UInt8), ts.length - j = m → j ≤ ts.length → s.length + 4 * m + wl (ts.drop j) ≤ 1000000 →
    Ev (fun n => law08_LexBlanks_L0 n (.lst 1 gl) (.str s) (.int .i64 (ts.length : Int)) (.int .i64 (j : Int)) (.lst 5 ts)) fun r => ∃ (gs : List (List UInt8)) (j' : Int), gs.length = (ts.drop j).length ∧ (∀ g ∈ gs, GapW g) ∧ r = (false, [.lst 1 gl, .str (s ++ bld gs (ts.drop j)), .int .i64 (ts.length : Int), .int .i64 j', .lst 5 ts]) := by
  intro m
  induction m with
  | zero =>
    intro j s hm hj _
    refine Ev.eq (fun n => law08_LexBlanks_L0_eq n _ _ _ _ _) (Ev.no (decide_eq_false (by omega)) (Ev.ret ⟨[], (j : Int), ?_, (fun g hg => by simp at hg), ?_⟩))
    · rw [List.drop_eq_nil_of_le (by omega)]; rfl
    · simp only [bld, List.append_nil]
  | succ m ih =>
    intro j s hm hj hs
    have hj2 : j < ts.length := by omega
    have hw : IntKind.i64.wrap ((j : Int) + 1) = ((j + 1 : Nat) : Int) := wrap_succ (by omega)
    obtain ⟨k, w, a, b, d, hx, hW⟩ := h ts[j] (List.getElem_mem hj2)
    rw [drop_cons hj2, hx] at hs
    have hs : s.length + 4 * (m + 1) + (w.length + wl (ts.drop (j + 1))) ≤ 1000000 := hs
    have next : ∀ g, GapW g → Ev (fun n => bif decide (g.length + w.length ≤ maxStr) then (bif decide (s.length + (g ++ w).length ≤ maxStr) then law08_LexBlanks_L0 n (.lst 1 gl) (.str (s ++ (g ++ w))) (.int .i64 (ts.length : Int)) (.int .i64 ((j + 1 : Nat) : Int)) (.lst 5 ts) else none) else none) fun r => ∃ (gs : List (List UInt8)) (j' : Int), gs.length = (ts.drop j).length ∧ (∀ g ∈ gs, GapW g) ∧ r = (false, [.lst 1 gl, .str (s ++ bld gs (ts.drop j)), .int .i64 (ts.length : Int), .int .i64 j', .lst 5 ts]) := by
      intro g hg
      have hgl4 := hg.2.1
      refine Ev.yes (decide_eq_true (by simp only [maxStr]; omega)) (Ev.yes (decide_eq_true (by simp only [maxStr, List.length_append]; omega)) ?_)
      refine (ih (j + 1) (s ++ (g ++ w)) (by omega) hj2 (by simp only [List.length_append]; omega)).mono fun r hr => ?_
      obtain ⟨gs, j', h1, h2, h3⟩ := hr
      refine ⟨g :: gs, j', ?_, fun x hx => ?_, ?_⟩
      · rw [drop_cons hj2, List.length_cons, List.length_cons, h1]
      · rcases List.mem_cons.1 hx with rfl | hx
        · exact hg
        · exact h2 x hx
      · rw [h3, drop_cons hj2, hx]
        show (false, [D.lst 1 gl, .str (s ++ (g ++ w) ++ bld gs (ts.drop (j + 1))), _, _, _]) = (false, [D.lst 1 gl, .str (s ++ (g ++ (w ++ bld gs (ts.drop (j + 1))))), _, _, _])
        simp only [List.append_assoc]
    refine Ev.eq (fun n => law08_LexBlanks_L0_eq n _ _ _ _ _) (Ev.yes (decide_eq_true (by omega)) (Ev.yes (in_range hj2) ?_))
    rw [get_nat hj2, hw, hx]
    refine Ev.yes rfl (Ev.test (fun hpos => ?_) fun _ => next [32] ⟨by simp, by decide, by decide⟩)
    have hpos : (gl.length : Int) > 0 := of_decide_eq_true hpos
    have ht : (j : Int).tmod (gl.length : Int) = ((j % gl.length : Nat) : Int) := by rw [Int.tmod_eq_emod_of_nonneg (by omega)]; rfl
    have hlt : j % gl.length < gl.length := Nat.mod_lt _ (by omega)
    rw [ht]
    refine Ev.no (decide_eq_false (by omega)) (Ev.yes (in_range hlt) ?_)
    rw [get_nat hlt]
    obtain ⟨i, hi⟩ := hgl gl[j % gl.length] (List.getElem_mem hlt)
    rw [hi]
    obtain ⟨a0, a1⟩ := and7 (D.int .i64 i).i
    obtain ⟨g, hg, hG⟩ := gap_at a0 a1
    refine Ev.yes rfl (Ev.yes (and_tt (decide_eq_true a0) (decide_eq_true a1)) ?_)
    unfold gapTab at hg
    rw [hg]
    exact Ev.yes rfl (next g hG)
theorem lexBlanks_plain {xs gl : List D} (hp : ∀ y ∈ xs, ∃ L, IsP L y) (hgl : ∀ y ∈ gl, ∃ i : Int, y = .int .i64 i) : Ev (fun n => law08_LexBlanks n (.lst 5 xs) (.lst 1 gl)) fun r => r = (true, [.bool true]) := by
  refine Ev.eq (fun n => law08_LexBlanks_eq n xs gl) (Ev.bindC awake08 ?_)
  intro _ _ h; cases h; refine ⟨rfl, Ev.yes rfl (Ev.no rfl (Ev.bindC (few_ev hp) ?_))⟩
  rintro _ _ ⟨ys, h, hys, hyl⟩; cases h; refine ⟨rfl, Ev.yes rfl ?_⟩
  obtain ⟨ps, hps, hq⟩ := all2W_of hys
  have hpl : ps.length ≤ 6 := by rw [← all2_len hps]; exact hyl
  have h0 := lex_ev hps (by omega)
  obtain ⟨a, b, c, e, all, hw, hh⟩ := lexOutW ps [] hq WToks.nil
  rw [hw] at h0
  refine Ev.bindC h0 ?_
  rcases hh with ⟨he, rfl⟩ | ⟨rfl, hW, hwl, hal⟩
  · intro _ _ h; cases h
    exact ⟨rfl, Ev.yes rfl (Ev.yes (by simpa [nth, D.i] using he) (Ev.ret rfl))⟩
  · simp only [wl, List.length_nil, Nat.zero_add] at hwl hal
    have h1 := text_ev hW.toks (by omega) (by omega)
    intro _ _ h; cases h
    refine ⟨rfl, Ev.yes (and_tt rfl (plain3T hW.toks)) (Ev.no rfl ?_)⟩
    refine Ev.bindL (blanksLoop (ts := all) (gl := gl) hW (by omega) (by omega) hgl all.length 0 [] rfl (Nat.zero_le _) (by rw [List.drop_zero]; simp only [List.length_nil]; omega)) (fun ds h => by obtain ⟨_, _, _, _, h⟩ := h; cases h) fun ds h => ?_
    obtain ⟨gs, j', g1, g2, h⟩ := h
    cases h
    rw [List.drop_zero] at g1
    obtain ⟨ts', t1, t2, t3, t4, t5⟩ := again_bld all gs (1, 1) g1 g2 hW
    have hbl := bld_len gs all g2
    have h2 := lexAgain_ev (s := bld gs all) (by omega) t1
    have h3 := text_ev t2 (by omega) (by omega)
    rw [t4] at h3
    refine Ev.yes rfl (Ev.bindC h2 ?_)
    intro _ _ h; cases h
    refine ⟨rfl, Ev.yes (and_tt rfl (plain3T t2)) (Ev.yes rfl (Ev.yes (by simp [nth, D.l, t3]) (Ev.bindC h3 ?_)))⟩
    intro _ _ h; cases h
    refine ⟨rfl, Ev.yes rfl (Ev.bindC h1 ?_)⟩
    intro _ _ h; cases h
    exact ⟨rfl, Ev.yes rfl (Ev.ret (by simp [nth, D.s]))⟩
end Go.Proofs.Ytmklmhdgnokcmaa
