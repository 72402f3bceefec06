/- AstSame. -/
import Derived.Test.YtfadegfceobogaaTrD
import Derived.Test.YtfadegfceobogaaTrG
import Derived.Test.YtfadegfceobogaaAjA
namespace Go.Proofs.Ytfadegfceobogaa
open Go.AE
set_option linter.unusedVariables false
set_option linter.unusedSimpArgs false
theorem Ev.exact {t : Nat → Out} {P : Bool × List D → Prop} (h : Ev t P) : ∃ r, P r ∧ Ev t fun x => x = r := by
  obtain ⟨r, hr, N, hN⟩ := h
  exact ⟨r, hr, r, rfl, N, hN⟩
theorem Ev.one {t : Nat → Out} {r s : Bool × List D} (h : Ev t fun x => x = r) (h' : Ev t fun x => x = s) : r = s := by
  obtain ⟨x, hx, _⟩ := Ev.same h h'
  rw [← hx.1, ← hx.2]
theorem sameWords {c x y wp wq : List D} (hp : Str wp) (hq : Str wq) (hl : wp.length ≤ 100000000000) : ∀ (m j : Nat) (e : Bool), wp.length - j = m → (e = true → wp.length = wq.length) → (wp = wq → e = true) →
    Ev (fun n => law09_AstSame_L0 n (.lst 1 c) (.bool e) (.int .i64 (j : Int)) (.lst 7 x) (.lst 7 y) (.lst 1 wp) (.lst 1 wq)) fun r => ∃ e' q, r = (false, [.lst 1 c, .bool e', .int .i64 q, .lst 7 x, .lst 7 y, .lst 1 wp, .lst 1 wq]) ∧ (wp = wq → e' = true) := by
  have stop : ∀ (j : Int) (e : Bool), (wp = wq → e = true) → Ev (fun n => law09_AstSame_L0_j1 n false j wp wq c x y e) fun r => ∃ e' q, r = (false, [.lst 1 c, .bool e', .int .i64 q, .lst 7 x, .lst 7 y, .lst 1 wp, .lst 1 wq]) ∧ (wp = wq → e' = true) :=
    fun j e he => evDf (fun n => law09_AstSame_L0_j1_def n _ _ _ _ _ _ _ _) (Ev.no rfl (Ev.ret ⟨e, j, rfl, he⟩))
  intro m
  induction m with
  | zero =>
    intro j e hm h1 h2
    exact Ev.eq (fun n => law09_AstSame_L0_eq n _ _ _ _ _ _ _) (Ev.no (decide_eq_false (by omega)) (stop _ e h2))
  | succ m ih =>
    intro j e hm h1 h2
    refine Ev.eq (fun n => law09_AstSame_L0_eq n _ _ _ _ _ _ _) (Ev.yes (decide_eq_true (by omega)) ?_)
    cases e with
    | false => exact stop _ _ h2
    | true =>
      have hlen := h1 rfl
      have j1 : j < wp.length := by omega
      have j2 : j < wq.length := by omega
      obtain ⟨s, es⟩ := hp wp[j] (List.getElem_mem j1)
      obtain ⟨s', es'⟩ := hq wq[j] (List.getElem_mem j2)
      refine evDf (fun n => law09_AstSame_L0_j1_def n _ _ _ _ _ _ _ _) (Ev.yes rfl (Ev.yes (in_range j1) ?_))
      rw [get_nat j1, get_nat j2, es, es']
      refine Ev.yes rfl (Ev.yes (in_range j2) (Ev.yes rfl ?_))
      rw [wrap_succ (by omega)]
      refine ih (j + 1) _ (by omega) (fun _ => hlen) fun h => ?_
      subst h
      rw [es] at es'
      cases es'
      exact beq_self_eq_true s
theorem Rl_cons {R : D → D → Prop} {x y : D} {xs ys : List D} (h : R x y) (h' : Rl R xs ys) : Rl R (x :: xs) (y :: ys) :=
  ⟨by simp [h'.1], fun i h1 h2 => by
    cases i with
    | zero => exact h
    | succ i => exact h'.2 i (by simpa using h1) (by simpa using h2)⟩
theorem Rl_uncons {R : D → D → Prop} {x y : D} {xs ys : List D} (h : Rl R (x :: xs) (y :: ys)) : R x y ∧ Rl R xs ys :=
  ⟨h.2 0 (by simp) (by simp), by have := h.1; simpa using this, fun i h1 h2 => by
    have := h.2 (i + 1) (by simpa using h1) (by simpa using h2)
    simpa using this⟩
theorem strs_plain {ws : List D} (hs : Str ws) : (chk ref09_Words.osk [.lst 1 ws] && plainDs ref09_Words.osk [.lst 1 ws]) = true := by
  refine and_tt rfl ?_
  have h : ws.all plainD = true := List.all_eq_true.2 fun w hw => by obtain ⟨s, rfl⟩ := hs w hw; rfl
  show (ws.all plainD && true) = true
  rw [h]; rfl
theorem pos_len (x : D) (xs : List D) : (true && decide (0 < ((x :: xs).length : Int))) = true := by simp
theorem zero_len (l : List D) : (true && true && decide (0 ≤ (l.length : Int))) = true := by simp
/-- The second half: the tree against its own changed copies. -/
theorem changed {c p x r10 : List D} (hc : (nth r10 0).l = c) (hx3 : (nth r10 3).l = x) (hM : Ev (fun n => law09_Make n (.lst 1 c)) fun r => r = (true, [.lst 7 x])) (hp : p ≠ []) (hl : p.length ≤ 3) (hw : ∀ m ∈ p, wfM m) (hO : Rl OM p x) :
    Ev (fun n => law09_AstSame_j1 n false r10) fun r => r = (true, [.bool true]) := by
  refine evDf (fun n => law09_AstSame_j1_def n _ _) (Ev.no rfl ?_)
  rw [hc, hx3]
  refine Ev.bindC hM ?_
  intro _ ds h; cases h; refine ⟨rfl, Ev.yes rfl ?_⟩
  match p, x, hp, hO with
  | p0 :: ps, [], _, hO => have := hO.1; simp at this
  | p0 :: ps, x0 :: xs, _, hO =>
    obtain ⟨h0, hr⟩ := Rl_uncons hO
    obtain ⟨nm, pa, po, it, e, ln, _⟩ := hw p0 (by simp)
    obtain ⟨nm', i, j, l, pa', po', it', pa2, po2, it2, e', rfl, hn, l1, l2, l3, o1, o2, o3⟩ := h0
    rw [e] at e'
    obtain ⟨rfl, rfl, rfl, rfl⟩ := M_inj.1 e'
    have hlen : (p0 :: ps).length ≤ 10 := by omega
    have A7 : Rl OM (p0 :: ps) (AM nm i 7 l pa2 po2 it2 :: xs) := Rl_cons ⟨nm, i, 7, l, pa, po, it, pa2, po2, it2, e, rfl, hn, l1, l2, l3, o1, o2, o3⟩ hr
    have Ax : Rl OM (M (nm ++ [120]) pa po it :: ps) (AM (nm ++ [120]) i 7 l pa2 po2 it2 :: xs) := Rl_cons ⟨nm ++ [120], i, 7, l, pa, po, it, pa2, po2, it2, rfl, rfl, by simp; omega, l1, l2, l3, o1, o2, o3⟩ hr
    have A0 : Rl OM [] [] := ⟨rfl, fun i h => absurd h (by simp)⟩
    refine Ev.yes (pos_len _ _) (Ev.yes rfl (Ev.bindC (mods_same hO A7 hlen) ?_))
    rintro _ _ ⟨b, h, hb⟩; cases h
    obtain rfl := hb.2 rfl
    refine ⟨rfl, Ev.yes rfl (Ev.no rfl (Ev.yes (pos_len _ _) (Ev.yes rfl (Ev.yes rfl (Ev.yes (decide_eq_true (by show nm.length + 1 ≤ maxStr; simp only [maxStr]; omega)) (Ev.yes (pos_len _ _) (Ev.yes rfl (Ev.bindC (mods_same hO Ax hlen) ?_))))))))⟩
    rintro _ _ ⟨b, h, hb⟩; cases h
    have hb : b = false := by
      cases b with
      | false => rfl
      | true =>
        have := (List.cons.inj (hb.1 rfl)).1
        rw [e] at this
        have := congrArg List.length (M_inj.1 this).1
        simp at this
    subst hb
    refine ⟨rfl, Ev.yes rfl (Ev.yes rfl (Ev.yes (zero_len _) (Ev.bindC (mods_same hO A0 hlen) ?_)))⟩
    rintro _ _ ⟨b, h, hb⟩; cases h
    have hb : b = false := by
      cases b with
      | false => rfl
      | true => exact absurd (hb.1 rfl) (by simp)
    subst hb
    exact ⟨rfl, Ev.yes rfl (Ev.ret rfl)⟩
theorem astSame_plain {b1 b2 : List D} (h1 : Bytes b1) (h2 : Bytes b2) : Ev (fun n => law09_AstSame n (.lst 1 b1) (.lst 1 b2)) fun r => r = (true, [.bool true]) := by
  refine Ev.eq (fun n => law09_AstSame_eq n b1 b2) ?_
  refine Ev.bindC awake09 ?_
  intro _ ds h; cases h; refine ⟨rfl, Ev.yes rfl (Ev.no rfl ?_)⟩
  refine Ev.bindC (short_ev h1) ?_
  rintro _ _ ⟨c1, h, hc1, hl1⟩; cases h; refine ⟨rfl, Ev.yes rfl ?_⟩
  refine Ev.bindC (short_ev h2) ?_
  rintro _ _ ⟨c2, h, hc2, hl2⟩; cases h; refine ⟨rfl, Ev.yes rfl ?_⟩
  obtain ⟨_, ⟨p, rfl, hp0, hpl, hpw⟩, Mp⟩ := Ev.exact (make_ev hc1 hl1)
  obtain ⟨_, ⟨q, rfl, hq0, hql, hqw⟩, Mq⟩ := Ev.exact (make_ev hc2 hl2)
  obtain ⟨_, ⟨x, rfl, hx⟩, Ox⟩ := Ev.exact (own_all hpl hpw)
  obtain ⟨_, ⟨y, rfl, hy⟩, Oy⟩ := Ev.exact (own_all hql hqw)
  obtain ⟨_, ⟨wp, rfl, lp, sp⟩, Wp⟩ := Ev.exact (wordsW hpl hpw)
  obtain ⟨_, ⟨wq, rfl, lq, sq⟩, Wq⟩ := Ev.exact (wordsW hql hqw)
  have hwords : p = q → wp = wq := by
    rintro rfl
    have := Ev.one Wp Wq
    cases this
    rfl
  have LM : Ev (fun n => law09_Make n (.lst 1 c1)) fun r => r = (true, [.lst 7 x]) := by
    refine Ev.eq (fun n => law09_Make_eq n c1) (Ev.bindC Mp ?_)
    intro _ ds h; cases h; refine ⟨rfl, Ev.yes rfl (Ev.bindC Ox ?_)⟩
    intro _ ds h; cases h; exact ⟨rfl, Ev.yes rfl (Ev.ret rfl)⟩
  refine Ev.bindC Mp ?_
  intro _ ds h; cases h; refine ⟨rfl, Ev.yes rfl (Ev.bindC Mq ?_)⟩
  intro _ ds h; cases h; refine ⟨rfl, Ev.yes rfl (Ev.bindC Ox ?_)⟩
  intro _ ds h; cases h; refine ⟨rfl, Ev.yes rfl (Ev.bindC Oy ?_)⟩
  intro _ ds h; cases h; refine ⟨rfl, Ev.yes rfl (Ev.bindC Wp ?_)⟩
  intro _ ds h; cases h; refine ⟨rfl, Ev.yes (strs_plain sp) (Ev.bindC Wq ?_)⟩
  intro _ ds h; cases h; refine ⟨rfl, Ev.yes (strs_plain sq) ?_⟩
  refine Ev.bindL (sameWords (c := c1) (x := x) (y := y) sp sq (by omega) wp.length 0 _ rfl (fun h => ?_) fun h => ?_) (fun ds h => by obtain ⟨_, _, h, _⟩ := h; cases h) fun ds h => ?_
  · have h : (((wp.length : Int) == (wq.length : Int)) = true) := h
    have := eq_of_beq h
    omega
  · subst h; exact beq_self_eq_true _
  obtain ⟨e, k, h, he⟩ := h
  cases h
  refine Ev.yes rfl (Ev.bindC (mods_same hx hy (by omega)) ?_)
  rintro _ _ ⟨b, h, hb⟩; cases h
  refine ⟨rfl, Ev.yes rfl (Ev.bindC (mods_same hy hx (by omega)) ?_)⟩
  rintro _ _ ⟨b', h, hb'⟩; cases h
  have hbb : b = b' := by
    have : b = true ↔ b' = true := hb.trans (Iff.trans ⟨Eq.symm, Eq.symm⟩ hb'.symm)
    cases b <;> cases b' <;> simp_all
  subst hbb
  refine ⟨rfl, Ev.yes rfl (Ev.no (by show (!(b == b)) = false; cases b <;> rfl) (Ev.bindC LM ?_))⟩
  intro _ ds h; cases h; refine ⟨rfl, Ev.yes rfl (Ev.bindC (mods_same hx hx (by omega)) ?_)⟩
  rintro _ _ ⟨b2, h, hb2⟩; cases h
  obtain rfl := hb2.2 rfl
  refine ⟨rfl, Ev.yes rfl (Ev.no rfl (Ev.bindC (mods_same hx hy (by omega)) ?_))⟩
  rintro _ _ ⟨b3, h, hb3⟩; cases h
  refine ⟨rfl, Ev.yes rfl (Ev.test (fun ht => ?_) fun _ => changed rfl rfl LM hp0 hpl hpw hx)⟩
  have e1 := he (hwords (hb3.1 ht))
  subst e1
  exact changed rfl rfl LM hp0 hpl hpw hx
end Go.Proofs.Ytfadegfceobogaa
