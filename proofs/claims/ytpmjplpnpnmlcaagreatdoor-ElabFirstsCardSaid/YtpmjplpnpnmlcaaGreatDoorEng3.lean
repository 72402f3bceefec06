import Derived.Test.YtpmjplpnpnmlcaaGreatDoorEng2
import Derived.Defers
import Derived.Laws.IdiomRangeMap
import Derived.LoopN
import Derived.Orders
import Derived.Laws.Externs
import Derived.WideKeyArgs
import Derived.ProofKit
import Derived.OpenShut
import Derived.JoinedCond
import Derived.DataShut
import Derived.Below
import Derived.ChangeSame
set_option linter.all false
namespace Go.AE
open Go.RowKit
def resVal (sl : List (Nat × SV)) (tm : Nat → Value) : Value :=
  match sl.map fun x => tm x.1 with
  | [v] => v
  | vs => .tuple vs.toArray
def CallSpecG (CL : FuncId → Array Value → World → (Ending → World → Prop) → Prop) (c : Cfg) (f : Nat) (sk : Sk) (ds out : List D) : Prop :=
  ∀ fn, c.P.funcs[f]? = some fn → ∀ (u : Nat → Option Obj) (g : G), c.gok g.h → ∀ (args : Array Value) (w : World), args.size = sk.slots.length →
    SimH u (· < sk.objs.length) g (injectE E0 sk ds).h w → (∀ t, VV g ((injectE E0 sk ds).t t) (args.getD t undef) ∧ ((injectE E0 sk ds).t t).uses (· < sk.objs.length)) →
    CL f args w fun e w' => ∃ v, e = .returned v ∧ ∃ g' tm', SimH u (· < (outSk c.P (c.dres f) fn.resultTypes.toList sk).objs.length) g' (injectE E0 (outSk c.P (c.dres f) fn.resultTypes.toList sk) out).h w' ∧
      (∀ t, VV g' ((injectE E0 (outSk c.P (c.dres f) fn.resultTypes.toList sk) out).t t) (tm' t) ∧ ((injectE E0 (outSk c.P (c.dres f) fn.resultTypes.toList sk) out).t t).uses (· < (outSk c.P (c.dres f) fn.resultTypes.toList sk).objs.length)) ∧
      Ext g w g' w' ∧ (∀ l o, lookN (preOf 0 sk.objs) l = some o → g'.blk l = g.blk l ∧ g'.hdr l = g.hdr l ∧ ∀ i v, g.ihdr l i = some v → g'.ihdr l i = some v) ∧ v = resVal (outSk c.P (c.dres f) fn.resultTypes.toList sk).slots tm'
def CallSpec (c : Cfg) (f : Nat) (sk : Sk) (ds out : List D) : Prop := CallSpecG (Calls c.P) c f sk ds out
def Later (P : Program) (f : FuncId) (args : Array Value) (w : World) (R : Ending → World → Prop) : Prop := CallsD P f args .returning w fun e u' w' => u' = .returning ∧ R e w'
def CallSpecD (c : Cfg) (f : Nat) (sk : Sk) (ds out : List D) : Prop := CallSpecG (Later c.P) c f sk ds out
theorem VV_InjV {g : G} {q : Nat → Prop} {x : V} {v : Value} (hs : InjV x) (h : VV g x v) (hu : x.uses q) : VA g x v ∧ x.usesA q := by
  match x, hs, h, hu with
  | .fn _ [], hs, _, _ => exact hs.elim
  | .fn _ (_ :: _), _, h, hu => exact ⟨h, hu⟩
  | .agg _, _, h, hu => exact ⟨h, hu⟩
  | .d _, _, h, _ => exact ⟨h, trivial⟩
  | .ptr .., _, h, hu => exact ⟨h, hu⟩
  | .row _, _, h, hu => exact ⟨h, hu⟩
  | .mp _, _, h, hu => exact ⟨h, hu⟩
  | .bp .., _, h, hu => exact ⟨h, hu⟩
  | .tup _, hs, _, _ => exact hs.elim
theorem outObs_get : ∀ {objs : List SOb} {k : Nat} {s : SOb}, objs[k]? = some s → isPre s = true → (outObs objs)[k]? = some s
  | [], _, _, h, _ => by simp at h
  | s0 :: r, 0, s, h, hp => by
    simp at h; subst h
    cases s0 with
    | var _ => rfl
    | mp _ => rfl
    | it _ _ => rfl
    | gone => cases hp
    | row e sz m =>
      have : m = 1 := beq_iff.1 hp
      subst this
      rfl
    | nst e ie sz m =>
      have : m = 1 := beq_iff.1 hp
      subst this
      rfl
  | s0 :: r, k + 1, s, h, hp => by
    have := outObs_get (objs := r) (k := k) (by simpa using h) hp
    cases s0 <;> simpa [outObs] using this
theorem outSk_objs (P : Program) (dres : DR) (ts : List TypeId) (sk : Sk) : ∃ b, (outSk P dres ts sk).objs = outObs sk.objs ++ b := by
  unfold outSk
  split
  · exact ⟨_, rfl⟩
  · exact ⟨_, rfl⟩
section
variable {u : Nat → Option Obj} {p q : Nat → Prop} {g gF gH g' : G} {st : St} {hold : Nat → Option Ob} {tm tm' : Nat → Value} {w w' : World} {P : Program} {sk osk : Sk} {cf : Cf} {out : List D} {nid : Nat}
theorem merge_ok (M : Meets u p g gF st tm w sk [] cf) (SH : SimH u p gH hold w) (S0 : SimH u p g st.h w) (aH : Agree p g gH) (bH : gH.blk = g.blk) (dH : gH.hdr = g.hdr) (iH : gH.ihdr = g.ihdr) (sub : ∀ b x, gH.h b = some x → gF.h b = some x)
    (hhold : ∀ o x, o ∉ cf.fz → st.h o = some x → hold o = some x) (hnew : ∀ k, k < 24 → ¬ p (nid + k) ∧ q (nid + k)) (hpq : ∀ x, p x → q x)
    (hosk : ∃ b, osk.objs = outObs sk.objs ++ b) (hlen : osk.objs.length ≤ 24)
    (hmode : (∀ b, gF.h b ≠ none → gH.h b ≠ none) ∨ (plainSk P osk = true ∧ plainDs osk out = true)) (hchk : chk osk out = true)
    (S1 : SimH (rest0 (gOf g gF cf.ren) (injectE E0 sk cf.ds).h w) (· < osk.objs.length) g' (injectE E0 osk out).h w')
    (T1 : ∀ t, VV g' ((injectE E0 osk out).t t) (tm' t) ∧ ((injectE E0 osk out).t t).uses (· < osk.objs.length))
    (X1 : Ext (gOf g gF cf.ren) w g' w') (hkeep : ∀ l o, lookN (preOf 0 sk.objs) l = some o → g'.blk l = (gOf g gF cf.ren).blk l ∧ g'.hdr l = (gOf g gF cf.ren).hdr l ∧ ∀ i v, (gOf g gF cf.ren).ihdr l i = some v → g'.ihdr l i = some v) :
    ∃ g2, SimH u q g2 (mergeObs (idmap cf.ren (preOf 0 sk.objs) nid) (inject osk out).h (dropRows sk cf.ren (preOf 0 sk.objs) hold 0 sk.objs) 0 osk.objs) w' ∧ AgreeW p gH g2 ∧ Ext gH w g2 w' ∧ (∀ x, p x → st.h x = none → g2.ihdr x = gH.ihdr x) ∧
      VV g2 (oneV (resList (idmap cf.ren (preOf 0 sk.objs) nid) (inject osk out).t osk.slots)) (resVal osk.slots tm') ∧ (oneV (resList (idmap cf.ren (preOf 0 sk.objs) nid) (inject osk out).t osk.slots)).uses q := by
  obtain ⟨S2, T2⟩ := exp_sim hchk S1 T1
  let f := idmap cf.ren (preOf 0 sk.objs) nid
  let g0 := gOf g gF cf.ren
  have hpre : ∀ l o, lookN (preOf 0 sk.objs) l = some o → ∃ x0 ox x, (injectE E0 sk cf.ds).h l = some x0 ∧ lookN cf.ren l = some ox ∧ st.h ox = some x ∧ f l = ox ∧ p ox := by
    intro l o h
    obtain ⟨_, k, s, hk, hs, hp⟩ := preOf_iff.1 h
    obtain ⟨x0, hx0⟩ := injObs_some (E := E0) (ds := cf.ds) (l0 := 0) (j := (injSlots E0 cf.ds sk.slots 0).2) hs (by cases s <;> first | rfl | cases hp)
    rw [← hk] at hx0
    obtain ⟨_, _, ox, x, h1, h2, _⟩ := M.ob l x0 hx0
    refine ⟨x0, ox, x, hx0, h1, h2, ?_, (S0.use _ _ h2).1⟩
    show idmap cf.ren (preOf 0 sk.objs) nid l = ox
    unfold idmap
    rw [h]
    simp [h1]
  have hfnew : ∀ l, lookN (preOf 0 sk.objs) l = none → f l = nid + l := by
    intro l h
    show idmap cf.ren (preOf 0 sk.objs) nid l = nid + l
    unfold idmap
    rw [h]
  let g2 : G := ⟨fun b => if gF.h b ≠ none ∧ gH.h b = none then none else g'.h b, fun x => if nid ≤ x ∧ x < nid + 24 then g'.blk (x - nid) else gH.blk x, fun x => if nid ≤ x ∧ x < nid + 24 then g'.hdr (x - nid) else gH.hdr x, fun x => if nid ≤ x ∧ x < nid + 24 then g'.ihdr (x - nid) else @dite _ (∃ l o, lookN (preOf 0 sk.objs) l = some o ∧ lookN cf.ren l = some x) (Classical.propDecidable _) (fun h => g'.ihdr h.choose) (fun _ => gH.ihdr x)⟩
  have notnew : ∀ x, p x → ¬ (nid ≤ x ∧ x < nid + 24) := by
    intro x hx ⟨h1, h2⟩
    have := (hnew (x - nid) (by omega)).1
    rw [show nid + (x - nid) = x from by omega] at this
    exact this hx
  have ihl : ∀ l o x, lookN (preOf 0 sk.objs) l = some o → lookN cf.ren l = some x → p x → g2.ihdr x = g'.ihdr l := by
    intro l o x h1 h2 hx
    have hex : ∃ l o, lookN (preOf 0 sk.objs) l = some o ∧ lookN cf.ren l = some x := ⟨l, o, h1, h2⟩
    show (if nid ≤ x ∧ x < nid + 24 then g'.ihdr (x - nid) else @dite _ (∃ l o, lookN (preOf 0 sk.objs) l = some o ∧ lookN cf.ren l = some x) (Classical.propDecidable _) (fun h => g'.ihdr h.choose) (fun _ => gH.ihdr x)) = _
    rw [if_neg (notnew x hx), dif_pos hex]
    obtain ⟨_, _, h3⟩ := hex.choose_spec
    rw [M.one _ _ _ h3 h2]
  have ihn : ∀ x, p x → (¬ ∃ l o, lookN (preOf 0 sk.objs) l = some o ∧ lookN cf.ren l = some x) → g2.ihdr x = gH.ihdr x := by
    intro x hx hex
    show (if nid ≤ x ∧ x < nid + 24 then g'.ihdr (x - nid) else @dite _ (∃ l o, lookN (preOf 0 sk.objs) l = some o ∧ lookN cf.ren l = some x) (Classical.propDecidable _) (fun h => g'.ihdr h.choose) (fun _ => gH.ihdr x)) = _
    rw [if_neg (notnew x hx), dif_neg hex]
  have ha : AgreeW p gH g2 := by
    refine ⟨fun b x h => ?_, fun x hx => ?_, fun x hx => ?_, fun x hx i v hv => ?_⟩
    · show (if gF.h b ≠ none ∧ gH.h b = none then none else g'.h b) = some x
      rw [if_neg (by rw [h]; simp)]
      exact X1.h b x (sub b x h)
    · show (if nid ≤ x ∧ x < nid + 24 then g'.blk (x - nid) else gH.blk x) = gH.blk x
      rw [if_neg (notnew x hx)]
    · show (if nid ≤ x ∧ x < nid + 24 then g'.hdr (x - nid) else gH.hdr x) = gH.hdr x
      rw [if_neg (notnew x hx)]
    · by_cases hex : ∃ l o, lookN (preOf 0 sk.objs) l = some o ∧ lookN cf.ren l = some x
      · obtain ⟨l, o, h1, h2⟩ := hex
        rw [ihl l o x h1 h2 hx]
        refine (hkeep l o h1).2.2 i v ?_
        rw [iH] at hv
        simpa [gOf, h2] using hv
      · rw [ihn x hx hex]; exact hv
  have hsub : ∀ b x, g2.h b = some x → g'.h b = some x := by
    intro b x h
    have h : (if gF.h b ≠ none ∧ gH.h b = none then none else g'.h b) = some x := h
    split at h
    · cases h
    · exact h
  have N : Names osk.objs.length q g' g2 f := by
    have both : ∀ l, l < osk.objs.length → (g2.blk (f l) = g'.blk l ∧ g2.hdr (f l) = g'.hdr l ∧ g2.ihdr (f l) = g'.ihdr l) ∧ q (f l) := by
      intro l hl
      cases hp : lookN (preOf 0 sk.objs) l with
      | some o =>
        obtain ⟨x0, ox, x, h1, h2, h3, h4, h5⟩ := hpre l o hp
        rw [h4]
        obtain ⟨k1, k2, _⟩ := hkeep l o hp
        refine ⟨⟨?_, ?_, ihl l o ox hp h2 h5⟩, hpq _ h5⟩
        · rw [ha.blk ox h5, bH, k1]; simp [gOf, h2]
        · rw [ha.hdr ox h5, dH, k2]; simp [gOf, h2]
      | none =>
        rw [hfnew l hp]
        have hc : nid ≤ nid + l ∧ nid + l < nid + 24 := by omega
        refine ⟨⟨?_, ?_, ?_⟩, (hnew l (by omega)).2⟩
        · show (if nid ≤ nid + l ∧ nid + l < nid + 24 then g'.blk (nid + l - nid) else gH.blk (nid + l)) = _
          rw [if_pos hc, Nat.add_sub_cancel_left]
        · show (if nid ≤ nid + l ∧ nid + l < nid + 24 then g'.hdr (nid + l - nid) else gH.hdr (nid + l)) = _
          rw [if_pos hc, Nat.add_sub_cancel_left]
        · show (if nid ≤ nid + l ∧ nid + l < nid + 24 then g'.ihdr (nid + l - nid) else _) = _
          rw [if_pos hc, Nat.add_sub_cancel_left]
    exact ⟨fun l hl => (both l hl).1.1, fun l hl => (both l hl).1.2.1, fun l hl i => by rw [(both l hl).1.2.2], fun l hl => (both l hl).2⟩
  have same : (∀ b, gF.h b ≠ none → gH.h b ≠ none) → g2.h = g'.h := by
    intro hm
    funext b
    show (if gF.h b ≠ none ∧ gH.h b = none then none else g'.h b) = g'.h b
    rw [if_neg]
    rintro ⟨h1, h2⟩
    exact hm b h1 h2
  have hslots : ∀ t, AllV (Keeps g' g2) ((inject osk out).t t) := by
    intro t
    rcases hmode with hm | ⟨hm, _⟩
    · have e := same hm
      have hk : ∀ d, Keeps g' g2 d := fun d v hv => by rw [e]; exact hv
      have allL : ∀ x, AllL (Keeps g' g2) x := fun x => by cases x <;> first | exact hk _ | trivial
      cases (inject osk out).t t with
      | fn f cs => exact fun y _ => allL y
      | agg cs => exact fun y _ => allL y
      | d _ => exact hk _
      | _ => trivial
    · unfold plainSk at hm
      simp only [Bool.and_eq_true] at hm
      exact (free_slots hm.1 t).mono fun d hd v hv => hd _ _ v hv
  have hobj : ∀ l x, (inject osk out).h l = some x → ObOk g' g2 x := by
    intro l x hx
    rcases hmode with hm | ⟨hm, hm2⟩
    · have e := same hm
      have hk : ∀ d, Keeps g' g2 d := fun d v hv => by rw [e]; exact hv
      have allL : ∀ x, AllL (Keeps g' g2) x := fun x => by cases x <;> first | exact hk _ | trivial
      obtain ⟨_, _, _, _, _, k1, _⟩ := injObs_spec (E := expTy) hx
      cases x with
      | row e' sz xs fz => exact fun h us sz' hh hf => by rw [hh] at hf; rw [e]; exact hf
      | mp kt xs => exact fun x _ => ⟨hk _, hk _⟩
      | it t mo xs => trivial
      | nst _ _ _ _ => exact fun sz ys us _ hf => by rw [e]; exact hf
      | var cs =>
        refine ⟨k1 cs rfl, fun y _ => ?_⟩
        cases y with
        | fn f cs => exact fun y _ => allL y
        | agg cs => exact fun y _ => allL y
        | d _ => exact hk _
        | _ => trivial
    · unfold plainSk at hm
      simp only [Bool.and_eq_true] at hm
      exact injObs_free (P := P) hm2 hm.2 hx
  have hpass : Pass u p (· < sk.objs.length) gH g0 hold (injectE E0 sk cf.ds).h w (fun l o => lookN cf.ren l = some o) := by
    refine ⟨SH, M.sim S0, sub, fun l x0 h0 => ?_⟩
    obtain ⟨_, _, o, x, h1, h2, h3⟩ := M.ob l x0 h0
    refine ⟨o, x, h1, hhold o x (M.lt l o h1).1 h2, fun b hb => ?_⟩
    rw [obk_agree aH.w (S0.use _ _ h2).1 fun i => by rw [iH]]
    exact h3 b hb
  refine ⟨g2, hpass.back S2 X1.h ha hsub hpq (f := f) (fun x ob hx => ?_), ha, ⟨ha.h, X1.os, X1.tape, X1.output, X1.size⟩, fun x hx hn => ihn x hx fun ⟨l, o, hp, hr⟩ => ?_, ?_⟩
  · rcases mergeObs_spec hx with ⟨k, s, ob1, h1, h2, h3, h4, h5⟩ | ⟨h1, h2⟩
    · right
      rw [Nat.zero_add] at h3 h4
      have hk : k < osk.objs.length := (List.getElem?_eq_some_iff.1 h1).1
      obtain ⟨_, _, _, _, _, _, k2⟩ := injObs_spec (E := expTy) h4
      obtain ⟨r1, r2, r3⟩ := renOb_ok N hk (hobj k ob1 h4) k2 (S2.ob _ _ h4) (S2.use _ _ h4).2
      refine ⟨k, ob1, h4, h3, ?_, ?_, ?_, ?_⟩
      · rw [h3, h5]; exact r1
      · rw [h3, h5]; exact r3
      · rw [h3]; exact N.q k hk
      · rw [h5]; exact r2
    · left
      obtain ⟨d1, d2⟩ := dropRows_spec h1
      refine ⟨d1, fun l x0 h0 hr => ?_, fun b hb => ?_, fun i => ?_⟩
      · obtain ⟨k, s, hk, hs, hg, _⟩ := injObs_spec (E := E0) h0
        rw [Nat.zero_add] at hk
        subst hk
        cases hp : lookN (preOf 0 sk.objs) l with
        | some o =>
          obtain ⟨_, ox, _, _, j1, _, j2, _⟩ := hpre l o hp
          rw [hr] at j1
          cases j1
          obtain ⟨_, k', s', hk', hs', hp'⟩ := preOf_iff.1 hp
          rw [Nat.zero_add] at hk'
          subst hk'
          obtain ⟨b, hb⟩ := hosk
          have hget : osk.objs[l]? = some s' := by
            have e1 := outObs_get hs' hp'
            have hlt := (List.getElem?_eq_some_iff.1 e1).1
            rw [hb, List.getElem?_append_left hlt]; exact e1
          have := h2 l s' hget (by cases s' <;> first | rfl | cases hp')
          rw [Nat.zero_add] at this
          exact this j2.symm
        | none =>
          cases s with
          | gone => cases hg
          | var ss =>
            have : lookN (preOf 0 sk.objs) l = some l := preOf_iff.2 ⟨rfl, l, _, by omega, hs, rfl⟩
            rw [hp] at this; cases this
          | mp kt =>
            have : lookN (preOf 0 sk.objs) l = some l := preOf_iff.2 ⟨rfl, l, _, by omega, hs, rfl⟩
            rw [hp] at this; cases this
          | it t l0 =>
            have : lookN (preOf 0 sk.objs) l = some l := preOf_iff.2 ⟨rfl, l, _, by omega, hs, rfl⟩
            rw [hp] at this; cases this
          | row e sz m =>
            have := d2 l _ hs rfl (by rw [Nat.zero_add]; exact hp)
            rw [Nat.zero_add] at this
            exact this hr
          | nst e ie sz m =>
            have := d2 l _ hs rfl (by rw [Nat.zero_add]; exact hp)
            rw [Nat.zero_add] at this
            exact this hr
      · have hsep := (SH.sep x ob b d1 hb).1
        cases e : gF.h b with
        | none => exact .inl e
        | some y =>
          right
          show (if gF.h b ≠ none ∧ gH.h b = none then none else g'.h b) = none
          rw [if_pos ⟨by rw [e]; simp, hsep⟩]
      · rw [ihn x (SH.use _ _ d1).1]
        rintro ⟨l, o, hp, hr⟩
        obtain ⟨_, ox, _, _, j1, _, j2, _⟩ := hpre l o hp
        rw [hr] at j1
        cases j1
        obtain ⟨_, k', s', hk', hs', hp'⟩ := preOf_iff.1 hp
        rw [Nat.zero_add] at hk'
        subst hk'
        obtain ⟨b, hb⟩ := hosk
        have hget : osk.objs[l]? = some s' := by
          have e1 := outObs_get hs' hp'
          have hlt := (List.getElem?_eq_some_iff.1 e1).1
          rw [hb, List.getElem?_append_left hlt]; exact e1
        have := h2 l s' hget (by cases s' <;> first | rfl | cases hp')
        rw [Nat.zero_add] at this
        exact this j2.symm
  · obtain ⟨_, ox, _, _, j1, j2, _⟩ := hpre l o hp
    rw [hr] at j1
    cases j1
    rw [hn] at j2
    cases j2
  · have hone : ∀ t, VA g2 (renV f ((inject osk out).t t)) (tm' t) ∧ (renV f ((inject osk out).t t)).usesA q := by
      intro t
      have hshape : InjV ((inject osk out).t t) := injSlots_shape _ _ _
      obtain ⟨v1, v2⟩ := VV_InjV hshape (T2 t).1 (T2 t).2
      exact renV_ok N hshape (hslots t) v1 v2
    have hlist : ∀ sl : List (Nat × SV), F2 (VA g2) (resList f (inject osk out).t sl) (sl.map fun x => tm' x.1) ∧ ∀ x ∈ resList f (inject osk out).t sl, x.usesA q := by
      intro sl
      induction sl with
      | nil => exact ⟨.nil, fun x hx => by cases hx⟩
      | cons s sl ih =>
        obtain ⟨i, s⟩ := s
        exact ⟨.cons (hone i).1 ih.1, fun x hx => by
          simp only [resList] at hx
          rcases List.mem_cons.1 hx with rfl | hx
          · exact (hone i).2
          · exact ih.2 x hx⟩
    obtain ⟨l1, l2⟩ := hlist osk.slots
    show VV g2 (oneV (resList f (inject osk out).t osk.slots)) _ ∧ (oneV (resList f (inject osk out).t osk.slots)).uses q
    unfold resVal
    generalize resList f (inject osk out).t osk.slots = xs at *
    generalize (osk.slots.map fun x => tm' x.1) = vs at *
    cases l1 with
    | nil => exact ⟨⟨#[], rfl, .nil⟩, fun x hx => by cases hx⟩
    | cons h1 h2 =>
      cases h2 with
      | nil =>
        have e1 : ∀ x : V, oneV [x] = x := fun _ => rfl
        rw [e1] at *
        exact ⟨VV_of_VA h1, uses_of_A (l2 _ (List.mem_singleton.2 rfl))⟩
      | cons h3 h4 => exact ⟨⟨_, rfl, .cons h1 (.cons h3 h4)⟩, l2⟩
theorem argsV_ok {own : Nat → Nat} (hnew : ∀ k, k < 8 → ¬ p (nid + 24 + k)) : ∀ {ts : List TypeId} {i : Nat} {xs : List V} {vals : List Value} {h : Nat → Option Ob} {g : G}, i + ts.length ≤ 8 →
    SimH u (fun x => p x ∨ (nid + 24 ≤ x ∧ x < nid + 24 + i)) g h w → F2 (VV g) xs vals → (∀ x ∈ xs, x.uses fun x => p x ∨ (nid + 24 ≤ x ∧ x < nid + 24 + i)) →
    ∃ g1, SimH u (fun x => p x ∨ (nid + 24 ≤ x ∧ x < nid + 32)) g1 (argsV P own nid i ts xs h).2 w ∧ Agree (fun x => p x ∨ (nid + 24 ≤ x ∧ x < nid + 24 + i)) g g1 ∧ g1.h = g.h ∧ g1.blk = g.blk ∧
      F2 (VV g1) (argsV P own nid i ts xs h).1 vals ∧ (∀ x ∈ (argsV P own nid i ts xs h).1, x.uses fun x => p x ∨ (nid + 24 ≤ x ∧ x < nid + 32)) := by
  intro ts
  induction ts with
  | nil =>
    intro i xs vals h g hi S hF hu
    have e : argsV P own nid i [] xs h = (xs, h) := by cases xs <;> rfl
    rw [e]
    have hm : ∀ x, (p x ∨ (nid + 24 ≤ x ∧ x < nid + 24 + i)) → (p x ∨ (nid + 24 ≤ x ∧ x < nid + 32)) := by
      intro x hx
      rcases hx with hx | hx
      · exact .inl hx
      · simp only [List.length_nil] at hi; exact .inr (by omega)
    exact ⟨g, S.more hm, Agree.refl _ g, rfl, rfl, hF, fun x hx => (hu x hx).mono hm⟩
  | cons t ts ih =>
    intro i xs vals h g hi S hF hu
    simp only [List.length_cons] at hi
    cases hF with
    | nil =>
      have e : argsV P own nid i (t :: ts) [] h = ([], h) := rfl
      rw [e]
      have hm : ∀ x, (p x ∨ (nid + 24 ≤ x ∧ x < nid + 24 + i)) → (p x ∨ (nid + 24 ≤ x ∧ x < nid + 32)) := by
        intro x hx
        rcases hx with hx | hx
        · exact .inl hx
        · exact .inr (by omega)
      exact ⟨g, S.more hm, Agree.refl _ g, rfl, rfl, .nil, fun x hx => by cases hx⟩
    | @cons x v xs vals hx hxs =>
      have hm1 : ∀ x, (p x ∨ (nid + 24 ≤ x ∧ x < nid + 24 + i)) → (p x ∨ (nid + 24 ≤ x ∧ x < nid + 24 + (i + 1))) := by
        intro x hx
        rcases hx with hx | hx
        · exact .inl hx
        · exact .inr (by omega)
      have hmi : ∀ x, (p x ∨ (nid + 24 ≤ x ∧ x < nid + 24 + i)) → (p x ∨ (nid + 24 ≤ x ∧ x < nid + 32)) := by
        intro x hx
        rcases hx with hx | hx
        · exact .inl hx
        · exact .inr (by omega)
      have keep : ∀ x' : V, VV g x' v → x'.uses (fun x => p x ∨ (nid + 24 ≤ x ∧ x < nid + 24 + i)) → ∃ g1, SimH u (fun x => p x ∨ (nid + 24 ≤ x ∧ x < nid + 32)) g1 (argsV P own nid (i + 1) ts xs h).2 w ∧
          Agree (fun x => p x ∨ (nid + 24 ≤ x ∧ x < nid + 24 + i)) g g1 ∧ g1.h = g.h ∧ g1.blk = g.blk ∧ F2 (VV g1) (x' :: (argsV P own nid (i + 1) ts xs h).1) (v :: vals) ∧
          (∀ y ∈ x' :: (argsV P own nid (i + 1) ts xs h).1, y.uses fun x => p x ∨ (nid + 24 ≤ x ∧ x < nid + 32)) := by
        intro x' hx' hux'
        obtain ⟨g1, a1, a2, a3, a4, a5, a6⟩ := ih (i := i + 1) (by omega) (S.more hm1) hxs (fun y hy => (hu y (by simp [hy])).mono hm1)
        have a2' : Agree (fun x => p x ∨ (nid + 24 ≤ x ∧ x < nid + 24 + i)) g g1 := ⟨a2.h, fun o ho => a2.blk o (hm1 o ho), fun o ho => a2.hdr o (hm1 o ho), fun o ho => a2.ihdr o (hm1 o ho)⟩
        refine ⟨g1, a1, a2', a3, a4, .cons (hx'.agree a2' hux') a5, fun y hy => ?_⟩
        rcases List.mem_cons.1 hy with rfl | hy
        · exact hux'.mono hmi
        · exact a6 y hy
      have plain : argsV P own nid i (t :: ts) (x :: xs) h = (x :: (argsV P own nid (i + 1) ts xs h).1, (argsV P own nid (i + 1) ts xs h).2) → ∃ g1, SimH u (fun x => p x ∨ (nid + 24 ≤ x ∧ x < nid + 32)) g1 (argsV P own nid i (t :: ts) (x :: xs) h).2 w ∧
          Agree (fun x => p x ∨ (nid + 24 ≤ x ∧ x < nid + 24 + i)) g g1 ∧ g1.h = g.h ∧ g1.blk = g.blk ∧ F2 (VV g1) (argsV P own nid i (t :: ts) (x :: xs) h).1 (v :: vals) ∧
          (∀ y ∈ (argsV P own nid i (t :: ts) (x :: xs) h).1, y.uses fun x => p x ∨ (nid + 24 ≤ x ∧ x < nid + 32)) := by
        intro e
        rw [e]
        exact keep x hx (hu x (by simp))
      by_cases hnil : ∃ a b, x = .d (.nils a b)
      · obtain ⟨a, b, rfl⟩ := hnil
        cases he : elemT P t with
        | none => exact plain (by simp only [argsV, he])
        | some e =>
          cases ho : Nat.beq (own i) 0 with
          | true =>
            have e1 : argsV P own nid i (t :: ts) (.d (.nils a b) :: xs) h = (.d (.lst (szT P e) []) :: (argsV P own nid (i + 1) ts xs h).1, (argsV P own nid (i + 1) ts xs h).2) := by simp only [argsV, he, ho, cond_true]
            rw [e1]
            refine keep _ ?_ trivial
            have hx : v = .slice none 0 0 := hx
            subst hx
            exact ⟨none, 0, rfl, Nat.le_refl _, Nat.zero_le _, .inl rfl⟩
          | false =>
            cases hz : Nat.blt 0 (szT P e) with
            | false => exact plain (by simp only [argsV, he, ho, hz, cond_false])
            | true =>
              have e1 : argsV P own nid i (t :: ts) (.d (.nils a b) :: xs) h = (.row (nid + 24 + i) :: (argsV P own nid (i + 1) ts xs (fun x => bif Nat.beq x (nid + 24 + i) then some (.row e (szT P e) [] false) else h x)).1,
                  (argsV P own nid (i + 1) ts xs (fun x => bif Nat.beq x (nid + 24 + i) then some (.row e (szT P e) [] false) else h x)).2) := by simp only [argsV, he, ho, hz, cond_true, cond_false]
              rw [e1]
              have hx : v = .slice none 0 0 := hx
              subst hx
              have hsz : 0 < szT P e := by have h1 : Nat.ble 1 (szT P e) = true := hz; exact Nat.le_of_ble_eq_true h1
              have hnp : ¬ (p (nid + 24 + i) ∨ (nid + 24 ≤ nid + 24 + i ∧ nid + 24 + i < nid + 24 + i)) := by
                rintro (k | k)
                · exact hnew i (by omega) k
                · omega
              obtain ⟨g1, b1, b2, b3, b4, b5⟩ := newRow_sim (h' := fun x => bif Nat.beq x (nid + 24 + i) then some (.row e (szT P e) [] false) else h x) S hm1 hnp (.inr (by omega)) (e := e) (sz := szT P e) (xs := []) (v := .slice none 0 0) (us := []) (row := none) (grown_refl w none) (World.ownsRow_nil w 0 e (szT P e)) hsz rfl
                (fun b hb => by cases hb) (fun b hb => by cases hb) (fun o' x hx hne => by rw [beq_false hne] at hx; exact ⟨hx, fun _ _ e => by cases e⟩) (by rw [beq_iff.2 rfl]; rfl)
              obtain ⟨g2, a1, a2, a3, a4, a5, a6⟩ := ih (i := i + 1) (by omega) b5 (F2.mono hxs fun y hy z hz => VV.agree b1 (hu y (by simp [hy])) hz) (fun y hy => (hu y (by simp [hy])).mono hm1)
              have ha : Agree (fun x => p x ∨ (nid + 24 ≤ x ∧ x < nid + 24 + i)) g g2 := ⟨fun b x k => a2.h b x (b1.h b x k), fun o ho => (a2.blk o (hm1 o ho)).trans (b1.blk o ho), fun o ho => (a2.hdr o (hm1 o ho)).trans (b1.hdr o ho), fun o ho => (a2.ihdr o (hm1 o ho)).trans (b1.ihdr o ho)⟩
              refine ⟨g2, a1, ha, a3.trans b2, a4.trans b3, .cons ⟨?_, rfl⟩ a5, fun y hy => ?_⟩
              · rw [a2.hdr _ (.inr (by omega)), b4]
              · rcases List.mem_cons.1 hy with rfl | hy
                · exact .inr (by omega)
                · exact a6 y hy
      · refine plain ?_
        match x, hnil with
        | .d (.nils a b), hnil => exact absurd ⟨a, b, rfl⟩ hnil
        | .d .top, _ | .d (.bool _), _ | .d (.int _ _), _ | .d (.str _), _ | .d (.lst _ _), _ | .d .und, _ | .d (.agg _), _ | .d (.fn _), _ | .d .nilp, _ | .d .nilf, _ | .d .nilm, _ | .d .nili, _ | .d .ub, _ | .d (.iface _ _), _ | .d (.meth ..), _ => simp only [argsV]
        | .ptr .., _ | .el .., _ | .rp .., _ | .row _, _ | .sub .., _ | .agg _, _ | .fn .., _ | .tup _, _ | .mp _, _ | .bp .., _ | .ir .., _ | .irp .., _ => simp only [argsV]
end
end Go.AE
namespace Go.AE
open Go.RowKit
section
variable {u : Nat → Option Obj} {p q : Nat → Prop} {g : G} {st : St} {a : Act} {w : World} {c : Cfg} {o : Oper} {R : Type} {K : V → St → Option R} {r : R} {nid : Nat} {rec : Task → Out}
def RecOk (c : Cfg) (rec : Task → Out) : Prop := ∀ f sk ds out, rec (.call f sk ds) = some (true, out) → CallSpec c f sk ds out ∧ (c.orc f sk ds = none → CallSpecD c f sk ds out)
theorem nthV_F2 : ∀ {xs : List V} {vals : List Value}, F2 (VV g) xs vals → ∀ t, VV g (nthV xs t) (vals.getD t undef)
  | [], _, h, t => by cases h; exact (trivial : VD _ .top _)
  | x :: xs, _, h, t => by
    cases h with
    | cons h1 h2 =>
      cases t with
      | zero => exact h1
      | succ t => exact nthV_F2 h2 t
theorem nthV_uses : ∀ {xs : List V}, (∀ x ∈ xs, x.uses p) → ∀ t, (nthV xs t).uses p
  | [], _, t => trivial
  | x :: xs, h, t => by
    cases t with
    | zero => exact h x (by simp)
    | succ t => exact nthV_uses (xs := xs) (fun y hy => h y (by simp [hy])) t
theorem svSlots_len {h : Nat → Option Ob} {all : List Nat} : ∀ (xs : List V) (i : Nat), (svSlots h all i xs).length = xs.length
  | [], _ => rfl
  | x :: xs, i => by simp [svSlots, svSlots_len xs]
theorem callSk_slots {dep : Nat} {h : Nat → Option Ob} {own : Nat → Nat} {cm : Nat → Nat → Nat} {xs : List V} : (callSk dep h own cm xs).slots.length = xs.length := by
  unfold callSk
  exact svSlots_len xs 0
theorem argsV_h {P : Program} {own : Nat → Nat} {nid y : Nat} : ∀ {ts : List TypeId} {i : Nat} {xs : List V} {h : Nat → Option Ob}, (∀ k, k < i + ts.length → y ≠ nid + 24 + k) → (argsV P own nid i ts xs h).2 y = h y
  | [], i, xs, h, _ => by cases xs <;> simp only [argsV]
  | t :: ts, i, [], h, _ => by simp only [argsV]
  | t :: ts, i, v :: r, h, hy => by
    have hy' : ∀ k, k < i + 1 + ts.length → y ≠ nid + 24 + k := fun k hk => hy k (by simp only [List.length_cons]; omega)
    have rest : ∀ h', (argsV P own nid (i + 1) ts r h').2 y = h' y := fun h' => argsV_h hy'
    by_cases hv : ∃ a b, v = .d (.nils a b)
    · obtain ⟨a, b, rfl⟩ := hv
      simp only [argsV]
      cases elemT P t with
      | none => exact rest h
      | some e =>
        simp only []
        cases Nat.beq (own i) 0 with
        | true => exact rest h
        | false =>
          simp only [cond_false]
          cases Nat.blt 0 (szT P e) with
          | true =>
            simp only [cond_true]
            refine (rest _).trans ?_
            rw [beq_false (hy i (by simp only [List.length_cons]; omega)), cond_false]
          | false => exact rest h
    · have e : argsV P own nid i (t :: ts) (v :: r) h = (v :: (argsV P own nid (i + 1) ts r h).1, (argsV P own nid (i + 1) ts r h).2) := by
        match v, hv with
        | .d (.nils a b), hv => exact absurd ⟨a, b, rfl⟩ hv
        | .d .top, _ | .d (.bool _), _ | .d (.int _ _), _ | .d (.str _), _ | .d (.lst _ _), _ | .d .und, _ | .d (.agg _), _ | .d (.fn _), _ | .d .nilp, _ | .d .nilf, _ | .d .nilm, _ | .d .nili, _ | .d .ub, _ | .d (.iface _ _), _ | .d (.meth ..), _ => simp only [argsV]
        | .ptr .., _ | .el .., _ | .rp .., _ | .row _, _ | .sub .., _ | .agg _, _ | .fn .., _ | .tup _, _ | .mp _, _ | .bp .., _ | .ir .., _ | .irp .., _ => simp only [argsV]
      rw [e]
      exact rest h
def GMono (c : Cfg) : Prop := ∀ h h' : Nat → Option Obj, (∀ b x, h b = some x → h' b = some x) → c.gok h → c.gok h'
theorem doCall_core {CL : FuncId → Array Value → World → (Ending → World → Prop) → Prop} (hmono : ∀ f a w R R', CL f a w R → (∀ e w', R e w' → R' e w') → CL f a w R') {no : Bool} (hm : GMono c) (hg : c.gok g.h) {fid : Nat}
    (hrec : ∀ sk ds out, rec (.call fid sk ds) = some (true, out) → (no = true → c.orc fid sk ds = none) → CallSpecG CL c fid sk ds out) (S : SimH u p g st.h w) (hpq : ∀ x, p x → q x) (hfr : Fresh p q nid) {args0 : List V} {vals : List Value} (hF : F2 (VV g) args0 vals) (hu : ∀ x ∈ args0, x.uses p)
    (h : doCall c rec no fid args0 nid st K = some r) : ∃ fn, c.P.funcs[fid]? = some fn ∧ fn.body.isSome = true ∧ ∃ vv st1, K vv st1 = some r ∧ CL fid vals.toArray w fun e w' => ∃ v, e = .returned v ∧ Res u p q g st w vv st1 v w' := by
  unfold doCall at h
  split at h
  · cases h
  · rename_i fn hfn
    obtain ⟨hb, h⟩ := bif_none_some h
    rw [Bool.not_eq_false', Bool.and_eq_true] at hb
    have hparams : fn.params.toList.length ≤ 8 := by simpa using Nat.le_of_ble_eq_true hb.2
    have hp0 : ∀ x, p x → (p x ∨ (nid + 24 ≤ x ∧ x < nid + 24 + 0)) := fun x hx => .inl hx
    obtain ⟨g1, A1, A2, A3, A4, A5, A6⟩ := argsV_ok (P := c.P) (own := c.own fid) (p := p) (nid := nid) (fun k hk => by have := (hfr (24 + k) (by omega)).1; rwa [← Nat.add_assoc] at this) (ts := fn.params.toList) (i := 0) (xs := args0) (vals := vals) (h := st.h) (g := g) (by omega)
      (S.more hp0) hF (fun x hx => (hu x hx).mono hp0)
    have A2' : Agree p g g1 := ⟨A2.h, fun o ho => A2.blk o (.inl ho), fun o ho => A2.hdr o (.inl ho), fun o ho => A2.ihdr o (.inl ho)⟩
    generalize hargs : argsV c.P (c.own fid) nid 0 fn.params.toList args0 st.h = ah at h A1 A5 A6
    obtain ⟨args, h0⟩ := ah
    simp only [] at h A1 A5 A6
    split at h
    · cases h
    · rename_i cf hcf
      obtain ⟨hno, h⟩ := bif_none_some h
      have hno' : no = true → c.orc fid (callSk c.dep h0 (c.own fid) (c.cm fid) args) cf.ds = none := by
        intro e
        rw [e, Bool.true_and] at hno
        simpa using hno
      unfold bindC at h
      split at h
      · rename_i out hout
        have hspec := hrec _ _ _ hout hno' fn hfn
        generalize hsk : callSk c.dep h0 (c.own fid) (c.cm fid) args = sk at h hcf hout hspec
        obtain ⟨gF, M⟩ := conf_sound (tm := fun t => vals.getD t undef) hcf A1 (nthV_F2 A5) (nthV_uses A6) (fun l l' o h => by cases h)
        have hlen : vals.toArray.size = sk.slots.length := by
          rw [← hsk, callSk_slots]; simp [A5.length]
        let p1 : Nat → Prop := fun x => p x ∨ (nid + 24 ≤ x ∧ x < nid + 32)
        have hpass : Pass u p1 (· < sk.objs.length) gF (gOf g1 gF cf.ren) (freezeH h0 cf.fz) (injectE E0 sk cf.ds).h w (fun l o => lookN cf.ren l = some o) := by
          refine ⟨M.S, M.sim A1, fun _ _ h => h, fun l x0 h0' => ?_⟩
          obtain ⟨_, _, o, x, h1, h2, h3⟩ := M.ob l x0 h0'
          refine ⟨o, x, h1, by rw [freezeH_not _ _ _ (M.lt l o h1).1]; exact h2, fun b hb => ?_⟩
          rw [obk_agree M.a.w (A1.use _ _ h2).1 fun i => by rw [M.ihdr]]
          exact h3 b hb
        have hcalls := hspec (rest0 (gOf g1 gF cf.ren) (injectE E0 sk cf.ds).h w) (gOf g1 gF cf.ren) (hm g.h gF.h (fun b x k => M.a.h b x (A2'.h b x k)) hg) vals.toArray w hlen hpass.sim (fun t => ⟨by simpa using M.tm t, M.nm t⟩)
        let osk := outSk c.P (c.dres fid) fn.resultTypes.toList sk
        obtain ⟨hol, h⟩ := bif_none_some h
        rw [Bool.not_eq_false'] at hol
        have hol : osk.objs.length ≤ 24 := Nat.le_of_ble_eq_true hol
        have hnew : ∀ k, k < 24 → ¬ p1 (nid + k) ∧ q (nid + k) := by
          intro k hk
          refine ⟨?_, (hfr k (by omega)).2⟩
          rintro (k1 | k1)
          · exact (hfr k (by omega)).1 k1
          · omega
        have hpq1 : ∀ x, p1 x → q x := by
          intro x hx
          rcases hx with hx | ⟨k1, k2⟩
          · exact hpq x hx
          · have := (hfr (x - nid) (by omega)).2
            rwa [show nid + (x - nid) = x from by omega] at this
        have fin : ∀ (gH : G) (hold : Nat → Option Ob) (st1 : St), SimH u p1 gH hold w → Agree p1 g1 gH → gH.blk = g1.blk → gH.hdr = g1.hdr → gH.ihdr = g1.ihdr → (∀ b x, gH.h b = some x → gF.h b = some x) →
            (∀ o x, o ∉ cf.fz → h0 o = some x → hold o = some x) → ((∀ b, gF.h b ≠ none → gH.h b ≠ none) ∨ (plainSk c.P osk = true ∧ plainDs osk out = true)) → chk osk out = true →
            st1.h = hold → st1.t = st.t → st1.m = st.m →
            K (merge sk osk cf.ren (preOf 0 sk.objs) nid st1 out).1 (merge sk osk cf.ren (preOf 0 sk.objs) nid st1 out).2 = some r →
              ∃ fn, c.P.funcs[fid]? = some fn ∧ fn.body.isSome = true ∧ ∃ vv st1, K vv st1 = some r ∧ CL fid vals.toArray w fun e w' => ∃ v, e = .returned v ∧ Res u p q g st w vv st1 v w' := by
          intro gH hold st1 SH aH bH dH iH sub hhold hmode hchk e1 e2 e3 hk
          refine ⟨fn, hfn, hb.1, _, _, hk, hmono _ _ _ _ _ hcalls ?_⟩
          rintro e w' ⟨v, rfl, g', tm', S1, T1, X1, hkeep, rfl⟩
          refine ⟨_, rfl, ?_⟩
          obtain ⟨g2, m1, m2, m3, mi, m4, m5⟩ := merge_ok (P := c.P) (osk := osk) (nid := nid) (q := q) M SH A1 aH bH dH iH sub hhold hnew hpq1 (outSk_objs _ _ _ _) hol hmode hchk S1 T1 X1 hkeep
          have hm2 : (merge sk osk cf.ren (preOf 0 sk.objs) nid st1 out).2.h = mergeObs (idmap cf.ren (preOf 0 sk.objs) nid) (inject osk out).h (dropRows sk cf.ren (preOf 0 sk.objs) hold 0 sk.objs) 0 osk.objs := by rw [← e1]; rfl
          refine ⟨g2, by rw [hm2]; exact m1, ⟨fun b x k => m2.h b x (aH.h b x (A2.h b x k)), fun x hx => ?_, fun x hx => ?_, fun x hx i v k => m2.ihdr x (.inl hx) i v (by rw [aH.ihdr x (.inl hx), A2'.ihdr x hx]; exact k)⟩, ⟨fun b x k => m2.h b x (aH.h b x (A2.h b x k)), m3.os, m3.tape, m3.output, m3.size⟩, m4, m5, e2, e3, fun x hx hn => ?_⟩
          · rw [m2.blk x (.inl hx), aH.blk x (.inl hx), A2'.blk x hx]
          · rw [m2.hdr x (.inl hx), aH.hdr x (.inl hx), A2'.hdr x hx]
          · have e9 : h0 x = st.h x := by
              have := argsV_h (P := c.P) (own := c.own fid) (nid := nid) (y := x) (ts := fn.params.toList) (i := 0) (xs := args0) (h := st.h) fun k hk e => (hfr (24 + k) (by omega)).1 (by rw [← Nat.add_assoc, ← e]; exact hx)
              rw [hargs] at this
              exact this
            rw [mi x (.inl hx) (e9.trans hn), aH.ihdr x (.inl hx), A2'.ihdr x hx]
        have gFh : ∀ b x, g1.h b = some x → gF.h b = some x := M.a.h
        cases hfz : cf.fz.isEmpty with
        | true =>
          rw [hfz] at h
          simp only [cond_true] at h
          obtain ⟨hchk, h⟩ := bif_some h
          have hnil : cf.fz = [] := by simpa using hfz
          have hS : SimH u p1 gF h0 w := by have := M.S; rw [hnil] at this; exact this
          exact fin gF h0 { st with h := h0 } hS M.a M.blk M.hdr M.ihdr (fun _ _ h => h) (fun _ _ _ h => h) (.inl fun _ h => h) hchk rfl rfl rfl h
        | false =>
          rw [hfz] at h
          simp only [cond_false] at h
          cases hpl : plainSk c.P (outSk c.P (c.dres fid) fn.resultTypes.toList sk) with
          | true =>
            rw [hpl] at h
            simp only [cond_true] at h
            obtain ⟨hchk, h⟩ := bif_some h
            simp only [Bool.and_eq_true] at hchk
            exact fin g1 h0 { st with h := h0 } A1 (Agree.refl _ g1) rfl rfl rfl gFh (fun _ _ _ h => h) (.inr ⟨hpl, hchk.2⟩) hchk.1 rfl rfl rfl h
          | false =>
            rw [hpl] at h
            simp only [cond_false] at h
            obtain ⟨hchk, h⟩ := bif_some h
            exact fin gF (freezeH h0 cf.fz) (St.freeze { st with h := h0 } cf.fz) M.S M.a M.blk M.hdr M.ihdr (fun _ _ h => h) (fun o x ho hx => by rw [freezeH_not _ _ _ ho]; exact hx) (.inl fun _ h => h) hchk rfl rfl rfl h
      · cases h
theorem doCall_ok (hm : GMono c) (hg : c.gok g.h) (hrec : RecOk c rec) (S : At u p g st a w) (hpq : ∀ x, p x → q x) (hfr : Fresh p q nid) {fid : Nat} {args0 : List V} {vals : List Value} (hF : F2 (VV g) args0 vals) (hu : ∀ x ∈ args0, x.uses p)
    (hrun : ∀ fn, c.P.funcs[fid]? = some fn → fn.body.isSome = true → (execOp a.eval o).run c.P w = .ok (.enter fid vals.toArray) w)
    (h : doCall c rec false fid args0 nid st K = some r) : Goal u p q g st a w c.P o K r := by
  obtain ⟨fn, hfn, hb, vv, st1, hk, hc⟩ := doCall_core (CL := Calls c.P) (fun f a w R R' h hr => h.mono hr) hm hg (fun sk ds out h _ => (hrec _ _ _ _ h).1) S.hp hpq hfr hF hu h
  exact ⟨vv, st1, hk, .inr (.inr ⟨fid, vals.toArray, w, hrun fn hfn hb, hc⟩)⟩
end
end Go.AE
namespace Go.AE
open Go.RowKit
section
variable {u : Nat → Option Obj} {p q : Nat → Prop} {g : G} {st : St} {a : Act} {w : World} {c : Cfg} {o : Oper} {R : Type} {K : V → St → Option R} {r : R} {nid : Nat} {rec : Task → Out}
def ExtSpec (c : Cfg) : Prop := ∀ (f : Nat) (ds r : List D), c.ext f ds = some (true, r) → ∀ (g : G) (vals : Array Value) (w : World), F2 (VV g) (ds.map V.d) vals.toList →
  ∃ v, (callFunc f vals).run c.P w = .ok (.value v) w ∧ VV g (oneV (r.map V.d)) v
def GlobSpec (c : Cfg) : Prop := ∀ (n : Nat) (xs : List D), c.glob n = some xs → ∀ h, c.gok h → VDr h 1 xs ⟨n, 0, none⟩
def CcSpec (c : Cfg) : Prop := ∀ f, c.cc f = true → ∀ e off, c.bld e = some off → ∀ (w : World) (b : Nat) (cells : Array Value) (v0 : Value), w.heap[b]? = some (.cells cells e (0, 0)) → cells.size = szT c.P e → cells.toList[off]? = some v0 →
  (v0 = .pointer none ∨ v0 = .pointer (some ⟨b, off, none⟩)) → (∃ fn, c.P.funcs[f]? = some fn ∧ fn.body.isSome = true) ∧ Calls c.P f #[.pointer (some ⟨b, off, none⟩)] w fun ex w' => ex = .returned (.tuple #[]) ∧
    (w' = w ∨ w' = w.setRow b (cells.setIfInBounds off (.pointer (some ⟨b, off, none⟩))))
def BstrSpec (c : Cfg) : Prop := ∀ f, c.bstr f = true → ∀ e off, c.bld e = some off → ∀ (w : World) (b : Nat) (cells : Array Value) (v : Value) (l : List UInt8), w.heap[b]? = some (.cells cells e (0, 0)) → cells.toList[off + 1]? = some v →
  w.ownsRow 0 c.bty 1 v l.length (l.map fun x => Value.int .u8 x.toNat) → v.ownBlock ≠ some b → l.length ≤ maxLen →
  (∃ fn, c.P.funcs[f]? = some fn ∧ fn.body.isSome = true) ∧ Calls c.P f #[.pointer (some ⟨b, off, none⟩)] w fun ex w' => ex = .returned (.string ⟨l.toArray⟩) ∧ w'.os = w.os ∧ w'.tape = w.tape ∧ w'.output = w.output ∧ w.heap.size ≤ w'.heap.size ∧
    ∀ k, k < w.heap.size → some k ≠ v.ownBlock → w'.heap[k]? = w.heap[k]?
def ClnSpec (c : Cfg) : Prop := ∀ f, c.cln f = true → ∀ w : World, (∃ fn, c.P.funcs[f]? = some fn ∧ fn.body.isSome = true) ∧ Calls c.P f #[.slice none 0 0] w fun ex w' => ex = .returned (.slice none 0 0) ∧ w' = w
def NamesOk (c : Cfg) : Prop := (∀ (f : Nat) (fn : Func), c.P.funcs[f]? = some fn → (fn.name == "runtime.NumGoroutine") = false) ∧ ExtSpec c ∧ GMono c ∧ GlobSpec c ∧ CcSpec c ∧ BstrSpec c ∧ ClnSpec c
theorem ev_F2 (S : At u p g st a w) : ∀ xs : List Operand, F2 (VV g) (xs.map (evalV st)) (xs.map a.eval)
  | [] => .nil
  | x :: xs => .cons (S.ev x) (ev_F2 S xs)
theorem run_enter (hn : NamesOk c) {fid : Nat} {fn : Func} (hf : c.P.funcs[fid]? = some fn) (hb : fn.body.isSome = true) {q : Call} {fo : Operand} (ho : o.op = .call q) (hc : q.callee = .value fo) {caps : Array Value} (hv : a.eval fo = .func (.func fid) #[] caps) :
    (execOp a.eval o).run c.P w = .ok (.enter fid (q.args.map a.eval ++ caps)) w := by
  have hname := hn.1 fid fn hf
  have hname : fn.name ≠ "runtime.NumGoroutine" := by simpa using hname
  have hbn : fn.body ≠ none := by intro h; rw [h] at hb; cases hb
  simp only [execOp, ho, resolve, hc, hv, Deferred.ofValue]
  simp [invoke, callFunc, hf, hname, hbn]
theorem F2.setR {α β : Type} {R : α → β → Prop} {zs : List α} {bs : List β} (h : F2 R zs bs) : ∀ {j : Nat} {a : α} {b : β}, zs[j]? = some a → R a b → F2 R zs (bs.set j b) := by
  induction h with
  | nil => intro j a b hb; simp at hb
  | cons hr hs ih =>
    intro j a b hb ha
    cases j with
    | zero => simp at hb; subst hb; exact .cons ha hs
    | succ j => exact .cons hr (ih (by simpa using hb) ha)
theorem okBytes_cells : ∀ {xs : List D} {us : List Value} {h : Nat → Option Obj}, okBytes xs = true → VDf h 1 xs us → us = (xs.map toByte).map fun x => Value.int .u8 x.toNat
  | [], us, h, _, hv => by cases hv; rfl
  | .int .u8 n :: xs, us, h, hb, hv => by
    simp only [okBytes, Bool.and_eq_true, decide_eq_true_eq] at hb
    obtain ⟨v, r, rfl, _, _, hv1, hv2⟩ := hv
    have hv1 : v = .int .u8 n := hv1
    subst hv1
    have e : ((UInt8.ofNat n.toNat).toNat : Int) = n := by
      rw [UInt8.toNat_ofNat_of_lt' (by show n.toNat < 256; omega)]
      omega
    rw [okBytes_cells hb.2 hv2]
    simp only [List.map_cons, toByte, e]
    rfl
theorem specK_ok (hcc : CcSpec c) (hbs : BstrSpec c) (hcl : ClnSpec c) (S : SimH u p g st.h w) (hpq : ∀ x, p x → q x) {fid : Nat} {args : List V} {vals : List Value} {vv : V} {st' : St} (hF : F2 (VV g) args vals) (hx : specK c fid args st = some (true, vv, st')) :
    (∃ fn, c.P.funcs[fid]? = some fn ∧ fn.body.isSome = true) ∧ Calls c.P fid vals.toArray w fun ex w' => ∃ v, ex = .returned v ∧ Res u p q g st w vv st' v w' := by
  unfold specK at hx
  split at hx
  · rename_i o off
    split at hx
    · rename_i cs hcs
      split at hx
      · rename_i t o' f hbp
        replace hx := bif_some hx
        obtain ⟨hb, hx⟩ := hx
        simp only [Bool.and_eq_true] at hb
        obtain ⟨⟨⟨hb1, hb2⟩, hb3⟩, hb4⟩ := hb
        have ho : o' = o := Nat.eq_of_beq_eq_true hb1
        have hf : f = off := Nat.eq_of_beq_eq_true hb2
        subst ho; subst hf
        have hbld : c.bld t = some f := by
          split at hb3
          · rename_i k hk
            rw [hk, Nat.eq_of_beq_eq_true hb3]
          · cases hb3
        obtain ⟨cells, e, hbk, hFc, h1, h2⟩ := S.ob _ _ hcs
        have he : e = t := h2 _ _ _ (List.mem_of_getElem? hbp)
        subst he
        have hsz : cells.size = szT c.P e := by rw [← Array.length_toList, ← hFc.length]; exact Nat.eq_of_beq_eq_true hb4
        obtain ⟨v0, hv0, hr0⟩ := hFc.get f _ hbp
        have hr0 : v0 = .pointer none ∨ v0 = .pointer (some ⟨g.blk o', f, none⟩) := hr0
        cases hF with
        | cons ha hF =>
        cases hF
        have ha := VV_ptr ha
        subst ha
        have hpo : p o' := (S.use _ _ hcs).1
        cases hc1 : c.cc fid with
        | true =>
          rw [hc1] at hx
          simp only [cond_true, Option.some.injEq, Prod.mk.injEq, true_and] at hx
          obtain ⟨rfl, rfl⟩ := hx
          obtain ⟨hfn, hcall⟩ := hcc fid hc1 e f hbld w (g.blk o') cells v0 hbk hsz hv0 hr0
          refine ⟨hfn, hcall.mono fun ex w' ⟨hex, hw⟩ => ⟨_, hex, ?_⟩⟩
          have hV : VV g (.tup []) (.tuple #[]) := ⟨#[], rfl, .nil⟩
          rcases hw with rfl | rfl
          · exact ⟨g, S.more hpq, Agree.refl p g, Ext.refl g _, hV, (fun z hz => by cases hz), rfl, rfl, fun _ _ _ => rfl⟩
          · have hn : VA g (.bp e o' f) (.pointer (some ⟨g.blk o', f, none⟩)) := Or.inr rfl
            have hsim := var_update (h' := st.h) (cs' := cs) (c' := cells.setIfInBounds f (.pointer (some ⟨g.blk o', f, none⟩))) S hcs hbk (by rw [Array.toList_setIfInBounds]; exact hFc.setR hbp hn)
              (by
                intro y hy
                rw [Array.toList_setIfInBounds] at hy
                rcases List.mem_or_eq_of_mem_set hy with hy | rfl
                · exact h1 y hy
                · rfl) (S.use _ _ hcs).2 h2 (fun x => by
                  by_cases e : x = o'
                  · subst e; rw [if_pos rfl]; exact hcs
                  · rw [if_neg e])
            exact ⟨g, hsim.more hpq, Agree.refl p g, ext_setRow (Agree.refl p g) _ _, hV, (fun z hz => by cases hz), rfl, rfl, fun _ _ _ => rfl⟩
        | false =>
          rw [hc1] at hx
          simp only [cond_false] at hx
          cases hc2 : c.bstr fid with
          | false => rw [hc2] at hx; cases hx
          | true =>
            rw [hc2] at hx
            simp only [cond_true] at hx
            split at hx
            · rename_i ro hro
              split at hx
              · rename_i e2 sz xs hrow
                simp only [Option.some.injEq, Prod.mk.injEq, Bool.and_eq_true] at hx
                obtain ⟨hb, hx⟩ := hx
                obtain ⟨⟨k1, k2⟩, k3⟩ := hb
                have k2 : sz = 1 := Nat.eq_of_beq_eq_true k2
                have k3 : e2 = c.bty := Nat.eq_of_beq_eq_true k3
                subst k2; subst k3
                obtain ⟨rfl, rfl⟩ := hx
                obtain ⟨v1, hv1, hr1⟩ := hFc.get (f + 1) _ hro
                have hr1 : v1 = g.hdr ro := hr1.1
                subst hr1
                obtain ⟨us, hpos, hown, hf⟩ := S.ob _ _ hrow
                have hus := okBytes_cells k1 hf
                subst hus
                have hne : (g.hdr ro).ownBlock ≠ some (g.blk o') := by
                  intro e
                  have := S.inj ro o' _ _ (g.blk o') hrow hcs e rfl
                  subst this
                  rw [hrow] at hcs; cases hcs
                have hml : xs.length ≤ maxLen := by
                  rcases ownsRow_form hown with ⟨_, h0, _⟩ | ⟨_, cap, _, _, _, _, h4, h5, _⟩
                  · rw [h0]; exact Nat.zero_le _
                  · omega
                obtain ⟨hfn, hcall⟩ := hbs fid hc2 e f hbld w (g.blk o') cells _ (xs.map toByte) hbk hv1 (by rw [List.length_map]; exact hown) hne (by rw [List.length_map]; exact hml)
                refine ⟨hfn, hcall.mono fun ex w' ⟨hex, a1, a2, a3, a4, a5⟩ => ⟨_, hex, g, ?_, Agree.refl p g, ⟨fun _ _ h => h, a1, a2, a3, a4⟩, ⟨_, rfl, rfl⟩, trivial, rfl, rfl, fun _ _ _ => rfl⟩⟩
                refine S.update (Agree.refl p g) rfl (g.hdr ro).ownBlock a5 (fun b hb => S.sep ro _ b hrow hb) hpq ro ?_ ?_
                · intro o1 x hx hne1
                  rw [setH_eq, if_neg hne1] at hx
                  exact ⟨hx, fun b hb e => hne1 (S.inj o1 ro _ _ b hx hrow hb e.symm)⟩
                · intro x hx
                  rw [setH_eq, if_pos rfl] at hx
                  cases hx
              · cases hx
            · cases hx
      · cases hx
    · cases hx
  · rename_i x y
    obtain ⟨hc, hx⟩ := bif_some hx
    simp only [Option.some.injEq, Prod.mk.injEq, true_and] at hx
    obtain ⟨rfl, rfl⟩ := hx
    cases hF with
    | cons ha hF =>
    cases hF
    have ha : _ = Value.slice none 0 0 := ha
    subst ha
    obtain ⟨hfn, hcall⟩ := hcl fid hc w
    refine ⟨hfn, hcall.mono fun ex w' ⟨hex, hw⟩ => ⟨_, hex, ?_⟩⟩
    subst hw
    exact ⟨g, S.more hpq, Agree.refl p g, Ext.refl g _, rfl, trivial, rfl, rfl, fun _ _ _ => rfl⟩
  · cases hx
theorem op_call (hn : NamesOk c) (hg : c.gok g.h) (hrec : RecOk c rec) (S : At u p g st a w) (hpq : ∀ x, p x → q x) (hfr : Fresh p q nid) {q' : Call} {fo : Operand} (ho : o.op = .call q') (hc : q'.callee = .value fo)
    (h : callK c rec (evalV st fo) (q'.args.toList.map (evalV st)) nid st K = some r) : Goal u p q g st a w c.P o K r := by
  have hvf := S.ev fo
  have huf := S.ev_uses fo
  have hargs := ev_F2 S q'.args.toList
  have hua : ∀ x ∈ q'.args.toList.map (evalV st), x.uses p := fun x hx => by obtain ⟨y, _, rfl⟩ := List.mem_map.1 hx; exact S.ev_uses y
  unfold callK at h
  split at h
  · rename_i fid he
    rw [he] at hvf
    split at h
    · rename_i b1 vv1 st1 hx
      obtain ⟨hb1, h⟩ := bif_some h
      subst hb1
      obtain ⟨⟨fn, hfn, hbd⟩, hc1⟩ := specK_ok hn.2.2.2.2.1 hn.2.2.2.2.2.1 hn.2.2.2.2.2.2 S.hp hpq (vals := q'.args.toList.map a.eval) hargs hx
      refine ⟨vv1, st1, h, .inr (.inr ⟨fid, (q'.args.toList.map a.eval).toArray, w, ?_, hc1⟩)⟩
      rw [run_enter hn hfn hbd ho hc hvf]
      congr 2
      apply Array.ext'
      simp
    split at h
    · rename_i b r' hx
      split at hx
      · rename_i ds hds
        obtain ⟨hb, h⟩ := bif_some h
        subst hb
        have hl := allD_map hds
        rw [hl] at hargs
        obtain ⟨v, h1, h2⟩ := hn.2.1 fid ds r' hx g (q'.args.map a.eval) w (by simpa using hargs)
        refine Goal.val S hpq h (v := v) ?_ h2 ?_
        · simp only [execOp, ho, resolve, hc, show a.eval fo = _ from hvf, Deferred.ofValue]
          simp [invoke, h1]
        · cases r' with
          | nil => intro z hz; cases hz
          | cons x r' => cases r' with
            | nil => trivial
            | cons y r' => intro z hz; obtain ⟨d, _, rfl⟩ := List.mem_map.1 (show z ∈ (x :: y :: r').map V.d from hz); trivial
      · cases hx
    refine doCall_ok hn.2.2.1 hg hrec S hpq hfr hargs hua (fun fn hf hb => ?_) h
    rw [run_enter hn hf hb ho hc hvf]
    congr 2
    apply Array.ext'
    simp
  · rename_i fid caps he
    rw [he] at hvf huf
    have hcaps : ∃ us : Array Value, a.eval fo = .func (.func fid) #[] us ∧ F2 (VV g) caps us.toList ∧ ∀ x ∈ caps, x.uses p := by
      cases caps with
      | nil => exact ⟨#[], hvf, .nil, fun x hx => by cases hx⟩
      | cons c0 caps =>
        obtain ⟨us, h1, h2⟩ := hvf
        refine ⟨us, h1, h2.mono fun _ _ _ h => VV_of_VA (VA_of_VL h), fun x hx => ?_⟩
        obtain ⟨b, _, hb⟩ := h2.mem x hx
        exact uses_of_A (VL_usesA hb (huf x hx))
    obtain ⟨us, h1, h2, h3⟩ := hcaps
    refine doCall_ok hn.2.2.1 hg hrec S hpq hfr (hargs.append h2) (fun x hx => ?_) (fun fn hf hb => ?_) h
    · rcases List.mem_append.1 hx with hx | hx
      · exact hua x hx
      · exact h3 x hx
    · rw [run_enter hn hf hb ho hc h1]
      congr 2
      apply Array.ext'
      simp
  · cases h
theorem op_builtin (S : At u p g st a w) (hpq : ∀ x, p x → q x) (hfr : Fresh p q nid) {q' : Call} {b : Builtin} (ho : o.op = .call q') (hc : q'.callee = .builtin b)
    (h : builtinK c b q'.argTypes (q'.args.toList.map (evalV st)) nid st K = some r) : Goal u p q g st a w c.P o K r := by
  unfold builtinK at h
  have one : ∀ v, q'.args.toList.map (evalV st) = [v] → ∃ x, q'.args = #[x] ∧ evalV st x = v := by
    intro v hv
    cases ha : q'.args.toList with
    | nil => rw [ha] at hv; cases hv
    | cons x xs =>
      rw [ha] at hv
      simp only [List.map_cons, List.cons.injEq, List.map_eq_nil_iff] at hv
      obtain ⟨h1, h2⟩ := hv
      subst h2
      exact ⟨x, by apply Array.ext'; simpa using ha, h1⟩
  have two : ∀ v v', q'.args.toList.map (evalV st) = [v, v'] → ∃ x y, q'.args = #[x, y] ∧ evalV st x = v ∧ evalV st y = v' := by
    intro v v' hv
    cases ha : q'.args.toList with
    | nil => rw [ha] at hv; cases hv
    | cons x xs =>
      rw [ha] at hv
      simp only [List.map_cons, List.cons.injEq] at hv
      obtain ⟨h1, h2⟩ := hv
      cases xs with
      | nil => cases h2
      | cons y ys =>
        simp only [List.map_cons, List.cons.injEq, List.map_eq_nil_iff] at h2
        obtain ⟨h2, h3⟩ := h2
        subst h3
        exact ⟨x, y, by apply Array.ext'; simpa using ha, h1, h2⟩
  split at h
  · rename_i x hx
    obtain ⟨x', h1, rfl⟩ := one _ hx
    split at h
    · rename_i t ht
      exact op_len S hpq ho hc h1 rfl ht h
    · cases h
  · rename_i s x hx
    obtain ⟨x', y', h1, rfl, rfl⟩ := two _ _ hx
    split at h
    · rename_i t t' hts
      cases htb : Nat.beq t t' with
      | true =>
        rw [htb] at h
        simp only [cond_true] at h
        have htt : t = t' := beq_iff.1 htb
        rw [← htt] at hts
        exact op_append S hpq hfr ho hc h1 (by apply Array.ext'; simpa using hts) h
      | false =>
        rw [htb] at h
        simp only [cond_false] at h
        obtain ⟨hst, h⟩ := bif_some h
        split at h
        · rename_i s' hs'
          have hu : c.P.underlying t' = some .string := by
            split at hst
            · rename_i k; exact k
            · cases hst
          exact op_appendS S hpq hfr ho hc h1 (by apply Array.ext'; simpa using hts) hu hs' h
        · cases h
    · cases h
  · rename_i d x hx
    obtain ⟨x', y', h1, rfl, rfl⟩ := two _ _ hx
    split at h
    · rename_i t t' hts
      split at h
      · rename_i e he
        obtain ⟨hb, h⟩ := bif_some h
        simp only [Bool.and_eq_true] at hb
        exact op_copy S hpq ho hc h1 rfl (by apply Array.ext'; simpa using hts) he hb.1 h (beq_iff.1 hb.2)
      · cases h
    · cases h
  · rename_i x hx
    obtain ⟨x', h1, rfl⟩ := one _ hx
    split at h
    · rename_i t hts
      exact op_clear S hpq ho hc h1 (by apply Array.ext'; simpa using hts) h
    · cases h
  · rename_i k n k' m hx
    obtain ⟨x', y', h1, h2, h3⟩ := two _ _ hx
    obtain ⟨hb, h⟩ := bif_some h
    exact (op_minmax S hpq ho hc h1 h2 h3 (of_decide_eq_true hb)).1 rfl h
  · rename_i k n k' m hx
    obtain ⟨x', y', h1, h2, h3⟩ := two _ _ hx
    obtain ⟨hb, h⟩ := bif_some h
    exact (op_minmax S hpq ho hc h1 h2 h3 (of_decide_eq_true hb)).2 rfl h
  · cases h
theorem op_globIdx (hn : GlobSpec c) (hg : c.gok g.h) (S : At u p g st a w) (hpq : ∀ x, p x → q x) {x i : Operand} {t : TypeId} (ho : o.op = .indexAddr t x i)
    (h : globIdxK c t x (evalV st x) (evalV st i) st K = some r) : Goal u p q g st a w c.P o K r := by
  unfold globIdxK at h
  split at h
  · rename_i n
    have hvi := S.ev i
    split at h
    · rename_i xs len e k m hx ht hi
      obtain ⟨hb, h⟩ := bif_some h
      simp only [Bool.and_eq_true, decide_eq_true_eq] at hb
      obtain ⟨⟨⟨⟨h1, h2⟩, h3⟩, h4⟩, h5⟩ := hb
      rw [hi] at hvi
      have hvi := VV_int hvi
      obtain ⟨d, info, hd, hinfo, _, hsz⟩ := tOk_spec h1
      have hl : len = xs.length := Nat.eq_of_beq_eq_true h3
      have hs : szT c.P e = 1 := Nat.eq_of_beq_eq_true h2
      have hE : c.P.elem t = e := by simp [Program.elem, ht]
      have hL : c.P.arrayLen t = len := by simp [Program.arrayLen, ht]
      have run : (execOp a.eval o).run c.P w = .ok (.value (.pointer (some ((⟨n, 0, none⟩ : Addr).add (m.toNat * 1))))) w := by
        have e0 : a.eval (.global n) = .pointer (some ⟨n, 0, none⟩) := rfl
        simp only [execOp, ho, e0, hvi]
        simp [run_indexAt_array w t ⟨n, 0, none⟩ k m (by rw [hL, hE]; exact ht), h4, hL, hl, h5, hE, run_sizeOf' hinfo, ← hsz, hs]
      refine Goal.val S hpq h run ?_ trivial
      exact ⟨⟨n, 0, none⟩, hn n xs hx _ hg, by omega, by rw [Nat.add_zero]⟩
    · cases h
  · split at h
    · rename_i vo off k m hx hi
      have hvx := S.ev x
      have hux := S.ev_uses x
      have hvi := S.ev i
      rw [hx] at hvx hux
      rw [hi] at hvi
      have hvi := VV_int hvi
      have hvx : a.eval x = .pointer (some ⟨g.blk vo, off, none⟩) := hvx
      unfold arrIdxK at h
      split at h
      · rename_i len e ht
        obtain ⟨hb, h⟩ := bif_some h
        simp only [Bool.and_eq_true, decide_eq_true_eq] at hb
        obtain ⟨⟨h1, h4⟩, h5⟩ := hb
        obtain ⟨d, info, hd, hinfo, _, hsz⟩ := tOk_spec h1
        have hE : c.P.elem t = e := by simp [Program.elem, ht]
        have hL : c.P.arrayLen t = len := by simp [Program.arrayLen, ht]
        have run : (execOp a.eval o).run c.P w = .ok (.value (.pointer (some ((⟨g.blk vo, off, none⟩ : Addr).add (m.toNat * szT c.P e))))) w := by
          simp only [execOp, ho, hvx, hvi]
          simp [run_indexAt_array w t ⟨g.blk vo, off, none⟩ k m (by rw [hL, hE]; exact ht), h4, hL, h5, hE, run_sizeOf' hinfo, ← hsz]
        rw [addr_add_plain] at run
        exact Goal.val S hpq h run rfl hux
      · cases h
    · exact op_indexAddr S hpq ho h
theorem methF_spec {P : Program} {t f : Nat} {nm : String} (h : methF P t nm = some f) : ∃ i d m, P.info? t = some i ∧ P.underlying t = some d ∧ (∀ e, d ≠ .pointer e) ∧ i.methods.find? (·.name == nm) = some m ∧ m.path = #[] ∧ m.func = some (f, false) := by
  unfold methF at h
  split at h
  · cases h
  · rename_i i d hnp hi hd
    split at h
    · rename_i m hm
      obtain ⟨hp, h⟩ := bif_some h
      split at h
      · rename_i f' hf
        cases h
        exact ⟨i, d, m, hi, hd, fun e he => hnp e he, hm, by simpa using hp, hf⟩
      · cases h
    · cases h
  · cases h
theorem run_method0 {P : Program} {t f k : Nat} {nm : String} {v : Value} {w : World} {i : TypeInfo} {m : Method} {d : TypeDesc} (hd : P.underlying t = some d) (hnp : ∀ e, d ≠ .pointer e) (hi : P.info? t = some i) (hm : i.methods.find? (·.name == nm) = some m) (hp : m.path = #[]) (hf : m.func = some (f, false)) : (method (k + 1) t v nm).run P w = .ok (f, v) w := by
  have ht : (typeInfo t).run P w = .ok i w := by simp [typeInfo, hi]
  have h1 : ∀ x, (receiverAt t (.val v) false x).run P w = .ok v w := by
    intro x
    unfold receiverAt
    simp only [Sem.run_bind, run_underlying hd, Result.andThen_ok]
    cases d with
    | pointer e => exact absurd rfl (hnp e)
    | _ => rfl
  have h2 : (follow m.path.toList t (Place.val v)).run P w = .ok (t, Place.val v) w := by rw [hp]; rfl
  unfold method
  rw [Sem.run_bind, ht]
  simp only [Result.andThen_ok, hm]
  rw [Sem.run_bind, h2]
  simp only [Result.andThen_ok, hf]
  rw [Sem.run_bind, h1]
  rfl
theorem run_nilAhead0 {P : Program} {t f k : Nat} {nm : String} {v : Value} {w : World} {i : TypeInfo} {m : Method} {d : TypeDesc} (hd : P.underlying t = some d) (hnp : ∀ e, d ≠ .pointer e) (hi : P.info? t = some i) (hm : i.methods.find? (·.name == nm) = some m) (hp : m.path = #[]) (hf : m.func = some (f, false)) : (nilAhead (k + 1) t v nm).run P w = .ok (some false) w := by
  have ht : (typeInfo t).run P w = .ok i w := by simp [typeInfo, hi]
  have h2 : (followBlind m.path.toList t (some v)).run P w = .ok (.ok (t, some v)) w := by rw [hp]; rfl
  unfold nilAhead
  rw [Sem.run_bind, ht]
  simp only [Result.andThen_ok, hm]
  rw [Sem.run_bind, h2]
  simp only [Result.andThen_ok, hf]
  rw [Sem.run_bind, run_underlying hd]
  simp only [Result.andThen_ok]
  cases d with
  | pointer e => exact absurd rfl (hnp e)
  | _ => rfl
theorem run_method {P : Program} {t f k : Nat} {nm : String} {v : Value} (h : methF P t nm = some f) : (method (k + 1) t v nm).run P w = .ok (f, v) w := by
  obtain ⟨i, d, m, hi, hd, hnp, hm, hp, hf⟩ := methF_spec h
  exact run_method0 hd hnp hi hm hp hf
theorem run_nilAhead {P : Program} {t f k : Nat} {nm : String} {v : Value} (h : methF P t nm = some f) : (nilAhead (k + 1) t v nm).run P w = .ok (some false) w := by
  obtain ⟨i, d, m, hi, hd, hnp, hm, hp, hf⟩ := methF_spec h
  exact run_nilAhead0 hd hnp hi hm hp hf
theorem op_method (S : At u p g st a w) (hpq : ∀ x, p x → q x) {nm : String} {first captured : Array Operand} (ho : o.op = .makeFunc (.method nm) first captured) {r0 : Operand} (hf : first.toList = [r0]) (hc : captured.isEmpty = true) {t : Nat} {d : D} (hx : evalV st r0 = .d (.iface t d))
    (h : K (.d (.meth t nm d)) st = some r) : Goal u p q g st a w c.P o K r := by
  have hv := S.ev r0
  rw [hx] at hv
  obtain ⟨u', hu, hd⟩ := hv
  have e1 : first = #[r0] := by apply Array.ext'; simpa using hf
  have e2 : captured = #[] := by simpa using hc
  have run : (execOp a.eval o).run c.P w = .ok (.value (.func (.method nm) #[.iface t u'] #[])) w := by
    simp only [execOp, ho, e1, e2]
    simp [Instr.makeFunc, hu]
  exact Goal.val S hpq h run ⟨u', rfl, hd⟩ trivial
theorem op_methCheck (S : At u p g st a w) (hpq : ∀ x, p x → q x) {x : Operand} (ho : o.op = .nilCheck x) {t : Nat} {nm : String} {d : D} (hx : evalV st x = .d (.meth t nm d)) (hm : (methF c.P t nm).isSome = true)
    (h : K (.d (.meth t nm d)) st = some r) : Goal u p q g st a w c.P o K r := by
  have hv := S.ev x
  rw [hx] at hv
  obtain ⟨u', hu, hd⟩ := hv
  obtain ⟨f, hf⟩ := Option.isSome_iff_exists.1 hm
  have run : (execOp a.eval o).run c.P w = .ok (.value (a.eval x)) w := by
    have hn := run_nilAhead (w := w) (k := c.P.types.size + (Made.depth - 1)) (v := u') hf
    have e : c.P.types.size + (Made.depth - 1) + 1 = c.P.types.size + Made.depth := by simp [Made.depth]
    rw [e] at hn
    simp only [execOp, ho, hu]
    simp [hn]
  rw [hu] at run
  exact Goal.val S hpq h run ⟨u', rfl, hd⟩ trivial
theorem run_enterI (hn : NamesOk c) {fid t : Nat} {fn : Func} {nm : String} {u' : Value} (hf : c.P.funcs[fid]? = some fn) (hb : fn.body.isSome = true) {q : Call} {x : Operand} (ho : o.op = .call q) (hc : q.callee = .invoke x nm) (hv : a.eval x = .iface t u') (hm : methF c.P t nm = some fid) :
    (execOp a.eval o).run c.P w = .ok (.enter fid (#[u'] ++ q.args.map a.eval)) w := by
  have hname := hn.1 fid fn hf
  have hname : fn.name ≠ "runtime.NumGoroutine" := by simpa using hname
  have hbn : fn.body ≠ none := by intro h; rw [h] at hb; cases hb
  have hr := run_method (w := w) (k := c.P.types.size + (Made.depth - 1)) (v := u') hm
  have e : c.P.types.size + (Made.depth - 1) + 1 = c.P.types.size + Made.depth := by simp [Made.depth]
  rw [e] at hr
  have h0 : (#[Value.iface t u'] ++ Array.map a.eval q.args)[0]? = some (.iface t u') := by
    rw [Array.getElem?_append_left (by simp)]; rfl
  simp only [execOp, ho, resolve, hc, hv]
  simp only [Sem.run_bind, Sem.run_pure, Result.andThen_ok, invoke, h0]
  have hx : (q.args.map a.eval).extract 0 q.args.size = q.args.map a.eval := by
    apply Array.ext'
    simp only [Array.toList_extract, Array.toList_map, List.extract_eq_take_drop, List.drop_zero, Nat.sub_zero]
    exact List.take_of_length_le (by simp)
  simp [callMethod, hr, callFunc, hf, hname, hbn, hx]
theorem op_invoke (hn : NamesOk c) (hg : c.gok g.h) (hrec : RecOk c rec) (S : At u p g st a w) (hpq : ∀ x, p x → q x) (hfr : Fresh p q nid) {q' : Call} {x : Operand} {nm : String} (ho : o.op = .call q') (hc : q'.callee = .invoke x nm) {t fid : Nat} {d : D} (hx : evalV st x = .d (.iface t d)) (hm : methF c.P t nm = some fid)
    (h : doCall c rec false fid (.d d :: q'.args.toList.map (evalV st)) nid st K = some r) : Goal u p q g st a w c.P o K r := by
  have hv := S.ev x
  rw [hx] at hv
  obtain ⟨u', hu, hd⟩ := hv
  have hargs := ev_F2 S q'.args.toList
  have hua : ∀ x ∈ q'.args.toList.map (evalV st), x.uses p := fun x hx => by obtain ⟨y, _, rfl⟩ := List.mem_map.1 hx; exact S.ev_uses y
  refine doCall_ok (vals := u' :: q'.args.toList.map a.eval) hn.2.2.1 hg hrec S hpq hfr (.cons (show VV g (.d d) u' from hd) hargs) (fun y hy => ?_) (fun fn hf hb => ?_) h
  · rcases List.mem_cons.1 hy with rfl | hy
    · trivial
    · exact hua y hy
  · rw [run_enterI hn hf hb ho hc hu hm]
    congr 2
    apply Array.ext'
    simp
theorem op_iface (S : At u p g st a w) (hpq : ∀ x, p x → q x) {x : Operand} {t : TypeId} (ho : o.op = .makeInterface t x) {d : D} {ds : TypeDesc} (ht : c.P.underlying t = some ds) (hni : ∀ i, ds ≠ .interface i) (hx : evalV st x = .d d)
    (h : K (.d (.iface t d)) st = some r) : Goal u p q g st a w c.P o K r := by
  have hv := S.ev x
  rw [hx] at hv
  have run : (execOp a.eval o).run c.P w = .ok (.value (.iface t (a.eval x))) w := by
    simp only [execOp, ho]
    have : (Instr.makeInterface t (a.eval x)).run c.P w = .ok (.iface t (a.eval x)) w := by
      simp only [Instr.makeInterface, Sem.run_bind, run_underlying ht, Result.andThen_ok]
      cases ds <;> first | rfl | exact absurd rfl (hni _)
    simp [this]
  exact Goal.val S hpq h run ⟨_, rfl, hv⟩ trivial
theorem op_ifaceV (S : At u p g st a w) (hpq : ∀ x, p x → q x) {x : Operand} {t : TypeId} (ho : o.op = .makeInterface t x) {d : D} {fz : List Nat} {ds : TypeDesc} (ht : c.P.underlying t = some ds) (hni : ∀ i, ds ≠ .interface i) (hx : toD st.h (evalV st x) = some (d, fz))
    (h : K (.d (.iface t d)) (st.freeze fz) = some r) : Goal u p q g st a w c.P o K r := by
  have run : (execOp a.eval o).run c.P w = .ok (.value (.iface t (a.eval x))) w := by
    simp only [execOp, ho]
    have : (Instr.makeInterface t (a.eval x)).run c.P w = .ok (.iface t (a.eval x)) w := by
      simp only [Instr.makeInterface, Sem.run_bind, run_underlying ht, Result.andThen_ok]
      cases ds <;> first | rfl | exact absurd rfl (hni _)
    simp [this]
  obtain ⟨g1, a1, b1, c1, s1, i1, j1⟩ := S.hp.freeze fz
  have hv := toD_sound' (S.ev x) (S.ev_uses x) hx (fun o ho => ho) a1 s1 i1
  exact Goal.res h run (s1.more hpq) a1 ⟨a1.h, rfl, rfl, rfl, Nat.le_refl _⟩ ⟨_, rfl, hv⟩ trivial rfl rfl
theorem op_sound (hn : NamesOk c) (hg : c.gok g.h) (hrec : RecOk c rec) (S : At u p g st a w) (hpq : ∀ x, p x → q x) (hfr : Fresh p q nid) (h : opK c rec o nid st K = some r) : Goal u p q g st a w c.P o K r := by
  unfold opK at h
  simp only [] at h
  split at h
  · rename_i x ho
    rw [force_some] at h
    exact ⟨_, _, h, op_move S hpq (.inl ho)⟩
  · rename_i x ho; exact op_assign S hpq hfr ho h
  · rename_i x y z ho
    split at h
    · rename_i b hb
      have hp := op_pick (P := c.P) S hpq ho hb
      cases b with
      | true => simp only [cond_true] at h; rw [force_some] at h; exact ⟨_, _, h, by simpa using hp⟩
      | false => simp only [cond_false] at h; rw [force_some] at h; exact ⟨_, _, h, by simpa using hp⟩
    · cases h
  · rename_i t ho; exact op_alloc S hpq hfr ho h
  · rename_i t x ho; exact op_box S hpq hfr ho h
  · rename_i t ps ho; exact op_build S hpq ho h
  · rename_i t n ps ho; exact op_buildSlice S hpq hfr ho h
  · rename_i t x ho; exact op_load S hpq ho h
  · rename_i t x y ho; exact op_store S hpq hfr ho h
  · rename_i x ho
    split at h
    · rename_i q f he; have := op_nilCheck (P := c.P) S hpq ho (.inl ⟨q, f, he⟩); rw [he] at this; exact ⟨_, _, h, this⟩
    · rename_i sz xs i f he; have := op_nilCheck (P := c.P) S hpq ho (.inr (.inl ⟨sz, xs, i, f, he⟩)); rw [he] at this; exact ⟨_, _, h, this⟩
    · rename_i q sz i f he; have := op_nilCheck (P := c.P) S hpq ho (.inr (.inr (.inl ⟨q, sz, i, f, he⟩))); rw [he] at this; exact ⟨_, _, h, this⟩
    · rename_i f he; have := op_nilCheck (P := c.P) S hpq ho (.inr (.inr (.inr (.inl ⟨f, he⟩)))); rw [he] at this; exact ⟨_, _, h, this⟩
    · rename_i f cs he; have := op_nilCheck (P := c.P) S hpq ho (.inr (.inr (.inr (.inr ⟨f, cs, he⟩)))); rw [he] at this; exact ⟨_, _, h, this⟩
    · rename_i t nm d he
      obtain ⟨hm, h⟩ := bif_some h
      exact op_methCheck S hpq ho he hm h
    · cases h
  · rename_i op t x y z ho
    split at h
    · rename_i d e hx hy; exact op_binOp (b := true) S hpq ⟨z, ho⟩ hx hy (nneK_bin h)
    · rename_i q' i' m1 m2 hx hy; exact op_irNil (b := true) S hpq ⟨z, ho⟩ hx hy h
    · cases h
  · rename_i op t x ho
    split at h
    · rename_i d hx; exact op_unOp S hpq ho hx h
    · cases h
  · rename_i src dst x ho; exact op_convert S hpq ho h
  · rename_i nm first captured ho
    split at h
    · rename_i r0 hf
      obtain ⟨hc, h⟩ := bif_some h
      split at h
      · rename_i t d hx
        exact op_method S hpq ho hf hc hx h
      · cases h
    · cases h
  · rename_i f first captured ho; exact op_makeFunc S hpq ho h
  · rename_i t x k ho
    split at h
    · rename_i off ft hf
      obtain ⟨hb, h⟩ := bif_some h
      exact op_fieldAddr S hpq ho hf hb h
    · cases h
  · rename_i t x k ho
    split at h
    · rename_i off ft hf
      obtain ⟨hb, h⟩ := bif_none_some h
      exact op_field S hpq ho hf (by simpa using hb) h
    · cases h
  · rename_i t x i ho; exact op_globIdx hn.2.2.2.1 hg S hpq ho h
  · rename_i t x i ho
    split at h
    · rename_i s k n ht hx hi
      obtain ⟨hb, h⟩ := bif_some h
      exact op_index_str S hpq ho ht hx hi hb h
    · cases h
  · rename_i t x y ho
    cases hn : c.nst t with
    | true => rw [hn] at h; exact op_makeN S hpq hfr ho h
    | false => rw [hn] at h; exact op_make S hpq hfr ho h
  · rename_i t r' ho
    split at h
    · exact op_makeMap S hpq hfr ho h
    · cases h
  · rename_i t x y ok ho; exact op_lookup S hpq ho h
  · rename_i t x y ho; exact op_mapEntry S hpq ho h
  · rename_i t x y z ho; exact op_entryStore S hpq ho h
  · rename_i t x ho; exact op_range S hpq hfr ho h
  · rename_i x ho; exact op_entry S hpq ho h
  · rename_i t x y z ho; exact op_mapUpdate S hpq ho h
  · rename_i t x lo hi mx ho
    cases hb : (c.trn t && lo.isNone && hi.isSome) with
    | false => rw [hb] at h; exact op_slice S hpq ho h
    | true =>
      rw [hb] at h
      simp only [Bool.and_eq_true] at hb
      have hlo : lo = none := by cases lo with | none => rfl | some _ => exact absurd hb.1.2 (by simp)
      subst hlo
      cases mx with
      | none => exact op_trunc S hpq hfr ho h
      | some _ => cases h
  · rename_i t x ho
    split at h
    · cases h
    · rename_i ds d hni ht hx
      exact op_iface S hpq ho ht (fun i e => hni i e) hx h
    · rename_i ds hni ht hnd
      split at h
      · rename_i d fz hx
        exact op_ifaceV S hpq ho ht (fun i e => hni i e) hx h
      · cases h
    · cases h
  · rename_i x k ho
    split at h
    · rename_i vs hx
      obtain ⟨hk, h⟩ := bif_some h
      rw [force_some] at h
      have hk : Nat.ble (k + 1) vs.length = true := hk
      exact op_extract S hpq ho hx (Nat.le_of_ble_eq_true hk) h
    · cases h
  · rename_i q' ho
    split at h
    · rename_i f hc; exact op_call hn hg hrec S hpq hfr ho hc h
    · rename_i b hc; exact op_builtin S hpq hfr ho hc h
    · rename_i x nm hc
      split at h
      · rename_i t d hx
        split at h
        · rename_i fid hm
          exact op_invoke hn hg hrec S hpq hfr ho hc hx hm h
        · cases h
      · cases h
  · cases h
end
end Go.AE
namespace Go.AE
open Go.RowKit
mutual
theorem D.eq_sound : ∀ (x y : D), D.eq x y = true → x = y
  | .top, y, h => by cases y <;> first | rfl | cases h
  | .bool _, y, h => by cases y <;> first | cases h; done | (simp only [D.eq, beq_iff_eq] at h; rw [h])
  | .int _ _, y, h => by cases y <;> first | cases h; done | (simp only [D.eq, Bool.and_eq_true, beq_iff_eq, decide_eq_true_eq] at h; rw [h.1, h.2])
  | .str _, y, h => by cases y <;> first | cases h; done | (simp only [D.eq, beq_iff_eq] at h; rw [h])
  | .lst _ xs, y, h => by cases y <;> first | cases h; done | (simp only [D.eq, Bool.and_eq_true] at h; rw [Nat.eq_of_beq_eq_true h.1, D.eqs_sound xs _ h.2])
  | .nils _ _, y, h => by cases y <;> first | cases h; done | (simp only [D.eq, Bool.and_eq_true] at h; rw [Nat.eq_of_beq_eq_true h.1, Nat.eq_of_beq_eq_true h.2])
  | .und, y, h => by cases y <;> first | rfl | cases h
  | .agg xs, y, h => by cases y <;> first | cases h; done | (simp only [D.eq] at h; rw [D.eqs_sound xs _ h])
  | .fn _, y, h => by cases y <;> first | cases h; done | (simp only [D.eq] at h; rw [Nat.eq_of_beq_eq_true h])
  | .nilp, y, h => by cases y <;> first | rfl | cases h
  | .nilf, y, h => by cases y <;> first | rfl | cases h
  | .nilm, y, h => by cases y <;> first | rfl | cases h
  | .nili, y, h => by cases y <;> first | rfl | cases h
  | .ub, y, h => by cases y <;> first | rfl | cases h
  | .iface _ x, y, h => by cases y <;> first | cases h; done | (simp only [D.eq, Bool.and_eq_true] at h; rw [Nat.eq_of_beq_eq_true h.1, D.eq_sound x _ h.2])
  | .meth _ _ x, y, h => by cases y <;> first | cases h; done | (simp only [D.eq, Bool.and_eq_true, beq_iff_eq] at h; rw [Nat.eq_of_beq_eq_true h.1.1, h.1.2, D.eq_sound x _ h.2])
theorem D.eqs_sound : ∀ (xs ys : List D), D.eqs xs ys = true → xs = ys
  | [], ys, h => by cases ys <;> first | rfl | cases h
  | x :: xs, ys, h => by
    cases ys with
    | nil => cases h
    | cons y ys =>
      simp only [D.eqs, Bool.and_eq_true] at h
      rw [D.eq_sound x y h.1, D.eqs_sound xs ys h.2]
end
theorem agree_some {a b : Out} {r : Bool × List D} (h : agree a b = some r) : a = some r ∧ b = some r := by
  unfold agree at h
  split at h
  · rename_i x xs y ys
    obtain ⟨h1, h2⟩ := bif_some h
    simp only [Bool.and_eq_true, beq_iff_eq] at h1
    cases h2
    obtain ⟨rfl, h1⟩ := h1
    rw [D.eqs_sound _ _ h1]
    exact ⟨rfl, rfl⟩
  · cases h
theorem agreeL_some {r : Bool × List D} : ∀ {l : List Out}, agreeL l = some r → ∀ x ∈ l, x = some r
  | [], h, _, _ => by cases h
  | [x], h, y, hy => by
    rcases List.mem_cons.1 hy with rfl | hy
    · exact h
    · cases hy
  | x :: y :: l, h, z, hz => by
    obtain ⟨h1, h2⟩ := agree_some (show agree x (agreeL (y :: l)) = some r from h)
    rcases List.mem_cons.1 hz with rfl | hz
    · exact h1
    · exact agreeL_some h2 z hz
theorem pickL_some {r : Bool × List D} {l : List Nat} {x : Out} {f : Nat → Out} (h : pickL l x f = some r) : (l = [] ∧ x = some r) ∨ ∀ j ∈ l, f j = some r := by
  unfold pickL at h
  split at h
  · exact .inl ⟨rfl, h⟩
  · exact .inr fun j hj => agreeL_some h _ (List.mem_map.2 ⟨j, hj, rfl⟩)
section
variable {P : Program} {w : World}
theorem run_setObj {r b c : Nat} {m : Option Nat} {ns : Array Nat} {y : Obj} (h : w.heap[r]? = some (.mapIter m b ns c)) : (setObj r y).run P w = .ok () { w with heap := w.heap.setIfInBounds r y } := by
  simp only [setObj, Sem.run, h]
theorem run_next {r m n : Nat} {ty : TypeId} {ns : List Nat} {es : Array MapEntry} (hr : w.heap[r]? = some (.mapIter (some m) n ns.toArray n)) (hm : w.heap[m]? = some (.map es n)) (hB : Born es n) :
    ((∀ j, j < n → j ∈ ns) ∧ (Instr.next (.pointer (some ⟨r, 0, none⟩)) false ty).run P w = .ok (.tuple #[.bool false]) w) ∨
    ∃ j k v d, j < n ∧ j ∉ ns ∧ (Instr.next (.pointer (some ⟨r, 0, none⟩)) false ty).run P w = .ok (.tuple #[.bool true, k, v]) { w with heap := w.heap.setIfInBounds r (.mapIter (some m) n (ns ++ [j]).toArray n), drawn := d } := by
  have hn : n = es.size := hB.1
  have hold : ∀ x ∈ es.toList, x.born < n := fun x hx => by
    obtain ⟨j, hj, rfl⟩ := List.mem_iff_getElem.1 hx
    have hj' : j < es.size := by simpa using hj
    rw [hB.2 j _ (by rw [← Array.getElem?_toList]; exact List.getElem?_eq_getElem hj)]
    omega
  simp only [Instr.next, getObj, Sem.run_bind, Sem.run, hr, hm, Result.andThen, next_test_false ns.toArray es n n hold (Nat.le_refl _), Bool.false_eq_true, if_false]
  have hmem : ∀ x ∈ (Array.filter (fun e => !ns.toArray.contains e.born) es).toList, x.born < n ∧ x.born ∉ ns ∧ x ∈ es.toList := fun x hx => by
    simp at hx
    exact ⟨hold x (by simpa using hx.1), hx.2, by simpa using hx.1⟩
  have hall : (Array.filter (fun e => !ns.toArray.contains e.born) es).size = 0 → ∀ j, j < n → j ∈ ns := fun h0 j hj => by
    have he : Array.filter (fun e => !ns.toArray.contains e.born) es = #[] := Array.eq_empty_of_size_eq_zero h0
    rw [Array.filter_eq_empty_iff] at he
    have hj' : j < es.size := by omega
    have := he es[j] (Array.getElem_mem hj')
    rw [hB.2 j _ (Array.getElem?_eq_getElem hj')] at this
    simpa using this
  generalize Array.filter (fun e => !ns.toArray.contains e.born) es = L at hmem hall ⊢
  have e1 : L.filter (fun x => decide (x.born < n)) = L := Array.filter_eq_self.2 (fun x hx => by simpa using (hmem x (by simpa using hx)).1)
  have e2 : L.filter (fun x => decide (x.born ≥ n)) = #[] := by
    rw [Array.filter_eq_empty_iff]
    intro x hx
    have := (hmem x (by simpa using hx)).1
    simp
    omega
  simp only [e1, e2, Array.append_empty]
  by_cases h0 : L.size = 0
  · left
    have : L = #[] := Array.eq_empty_of_size_eq_zero h0
    refine ⟨hall h0, ?_⟩
    subst this
    simp [choose, Sem.run, Question.forced]
  · right
    have hne : L.isEmpty = false := by simp [Array.isEmpty, h0]
    simp only [hne, Bool.false_eq_true, if_false, Array.empty_append, Array.size_map]
    have hch : ∃ (j d : Nat), j < L.size ∧ (choose (Question.mapNext L.size)).run P w = .ok j { w with drawn := d } := by
      by_cases hf : L.size ≤ 1
      · exact ⟨0, w.drawn, by omega, by simp [choose, Sem.run, Question.forced, hf]⟩
      · exact ⟨_, _, Nat.mod_lt _ (by omega), by
          simp only [choose, Sem.run, Question.forced, decide_eq_true_eq, hf, if_false, Question.cut]
          rfl⟩
    obtain ⟨j, d, hj, hrun⟩ := hch
    have hb := hmem L[j] (by simp)
    refine ⟨L[j].born, L[j].key, L[j].val, d, hb.1, hb.2.1, ?_⟩
    simp only [hrun, Array.getElem?_map, Array.getElem?_eq_getElem hj, Option.map_some, Sem.run_bind]
    rw [run_setObj (w := { w with drawn := d }) (m := some m) (ns := ns.toArray) (b := n) (c := n) hr]
    simp only [Result.andThen]
    have : ns.toArray.push L[j].born = (ns ++ [L[j].born]).toArray := by simp
    rw [this]
    rfl
end
theorem leftM_spec {n j : Nat} {ns : List Nat} : j ∈ leftM n (ns.map fun k => D.int .i64 (k : Nat)) ↔ j < n ∧ j ∉ ns := by
  unfold leftM
  rw [List.mem_filter, List.mem_range]
  refine and_congr_right fun _ => ?_
  rw [Bool.not_eq_true', List.any_map, ← Bool.not_eq_true, List.any_eq_true]
  constructor
  · intro h hm
    exact h ⟨j, hm, by simp [D.i]⟩
  · rintro h ⟨x, hx, e⟩
    simp only [Function.comp, D.i, beq_iff_eq] at e
    have : x = j := by omega
    exact h (this ▸ hx)
section
variable {u : Nat → Option Obj} {p q : Nat → Prop} {g : G} {st : St} {a : Act} {w : World} {P : Program} {o : Oper}
theorem SimH.setIt {h : Nat → Option Ob} (S : SimH u p g h w) (hpq : ∀ x, p x → q x) {no t mo n d : Nat} {ns ns' : List Nat} {xs ys : List D} (hno : h no = some (.it t mo xs)) (k1 : w.heap[g.blk no]? = some (.mapIter (some (g.blk mo)) n ns.toArray n)) (hI : ItOk n ns' ys) :
    SimH u q g (fun x => bif Nat.beq x no then some (.it t mo ys) else h x) { w with heap := w.heap.setIfInBounds (g.blk no) (.mapIter (some (g.blk mo)) n ns'.toArray n), drawn := d } := by
  obtain ⟨m1, m2⟩ := MapKept.heap_set (o' := Obj.mapIter (some (g.blk mo)) n ns'.toArray n) k1
  refine (S.update (Agree.refl p g) rfl (some (g.blk no)) (fun b _ hb => m2 b (fun e => hb (by rw [e]))) (fun b hb => ?_) hpq no ?_ ?_)
  · cases hb
    exact S.sep no _ _ hno rfl
  · intro o' x hx hne
    have : Nat.beq o' no = false := by
      cases k : Nat.beq o' no with
      | false => rfl
      | true => exact absurd (Nat.eq_of_beq_eq_true k) hne
    rw [this] at hx
    refine ⟨hx, fun b hb e => ?_⟩
    cases e
    exact hne (S.inj o' no _ _ _ hx hno hb rfl)
  · intro x hx
    rw [show Nat.beq no no = true from Nat.beq_refl no] at hx
    simp only [cond_true, Option.some.injEq] at hx
    subst hx
    refine ⟨⟨n, ns', hI, m1⟩, fun b hb => ?_, hpq _ (S.use _ _ hno).1, hpq _ (S.use _ _ hno).2⟩
    · simp only [obk] at hb
      exact .inl (by rw [hb])
theorem SimH.tellIt {h : Nat → Option Ob} (S : SimH u p g h w) (hpq : ∀ x, p x → q x) {no t mo n : Nat} {ns : List Nat} {xs ys : List D} (hno : h no = some (.it t mo xs)) (k1 : w.heap[g.blk no]? = some (.mapIter (some (g.blk mo)) n ns.toArray n)) (hI : ItOk n ns ys) :
    SimH u q g (fun x => bif Nat.beq x no then some (.it t mo ys) else h x) w := by
  have := S.setIt hpq (d := w.drawn) hno k1 hI
  have e : ({ w with heap := w.heap.setIfInBounds (g.blk no) (.mapIter (some (g.blk mo)) n ns.toArray n), drawn := w.drawn } : World) = w := by
    have : w.heap.setIfInBounds (g.blk no) (.mapIter (some (g.blk mo)) n ns.toArray n) = w.heap := by
      apply Array.ext_getElem?
      intro i
      rw [Array.getElem?_setIfInBounds]
      split
      · rename_i e; subst e
        split
        · exact k1.symm
        · rename_i hlt; rw [Array.getElem?_eq_none (by omega)]
      · rfl
    rw [this]
  rwa [e] at this
theorem nextOf_ok {q' t mo d m : Nat} {xs : List D} (S : At u p g st a w) (hpq : ∀ x, p x → q x) (h : nextOf st o = some (q', t, mo, xs, d, m)) (hb : ((nth xs 0).i == (m : Int)) = true) :
    o.guard = none ∧ o.dst = some d ∧
    ((leftM (nth xs 0).i.toNat (xs.drop 2) = [] ∧ (execOp a.eval o).run P w = .ok (.value (.tuple #[.bool false])) w ∧ SimH u q g (st.setH q' (some (.it t mo (overM xs)))).h w) ∨
      ∃ j ∈ leftM (nth xs 0).i.toNat (xs.drop 2), ∃ k v w', (execOp a.eval o).run P w = .ok (.value (.tuple #[.bool true, k, v])) w' ∧ SimH u q g (st.setH q' (some (.it t mo (stepM xs j)))).h w' ∧ Ext g w g w') := by
  unfold nextOf at h
  split at h
  · rename_i x ho
    split at h
    · rename_i no d' hx hg hd
      split at h
      · rename_i t' mo' xs' hno
        split at h
        · rename_i kt es0 hmo
          cases h
          have hvx := S.ev x
          rw [hx] at hvx
          have hvx : a.eval x = .pointer (some ⟨g.blk q', 0, none⟩) := hvx
          refine ⟨hg, hd, ?_⟩
          obtain ⟨n, ns, hI, k1⟩ := S.hp.ob _ _ hno
          obtain ⟨last, ks, rfl, i1, i2, i3⟩ := hI
          obtain ⟨es, clock, m1, m2, kb⟩ := S.hp.ob _ _ hmo
          have hlen : es0.length = es.size := by rw [m2.length]; simp
          have hn : clock = n := by
            have := eq_of_beq hb
            simp only [nth, D.i] at this
            rw [kb.1]; omega
          subst hn
          have hl : ∀ j, j ∈ leftM (nth (D.int .i64 (clock : Int) :: last :: ks.map fun k => D.int .i64 (k : Nat)) 0).i.toNat ((D.int .i64 (clock : Int) :: last :: ks.map fun k => D.int .i64 (k : Nat)).drop 2) ↔ j < clock ∧ j ∉ ks := fun j => leftM_spec (n := clock)
          rcases run_next (P := P) (ty := o.type) k1 m1 kb with ⟨r1, r2⟩ | ⟨j, k, v, dd, r1, r2, r3⟩
          · refine .inl ⟨?_, by simp only [execOp, ho, hvx]; simp [r2], S.hp.tellIt hpq hno k1 ⟨.top, List.range clock, by simp [overM, nth, D.i], fun k => ?_, fun k hk => List.mem_range.1 hk, fun _ _ h => (by cases h)⟩⟩
            · rw [List.eq_nil_iff_forall_not_mem]
              intro j hj
              obtain ⟨j1, j2⟩ := (hl j).1 hj
              exact j2 ((i1 j).1 (r1 j j1))
            · rw [List.mem_range]
              exact ⟨fun hk => i2 k ((i1 k).1 hk), fun hk => r1 k hk⟩
          · refine .inr ⟨j, (hl j).2 ⟨r1, fun hk => r2 ((i1 j).2 hk)⟩, k, v, { w with heap := w.heap.setIfInBounds (g.blk q') (.mapIter (some (g.blk mo)) clock (ns ++ [j]).toArray clock), drawn := dd }, by simp only [execOp, ho, hvx]; simp [r3], S.hp.setIt hpq hno k1 ⟨.int .i64 j, ks ++ [j], by simp [stepM, nth], fun k => ?_, fun k hk => ?_, fun _ _ h => ?_⟩, ⟨fun _ _ h => h, rfl, rfl, rfl, by simp⟩⟩
            · rw [List.mem_append, List.mem_append, i1 k]
            · rcases List.mem_append.1 hk with hk | hk
              · exact i2 k hk
              · rw [List.mem_singleton.1 hk]; exact r1
            · cases h
              exact ⟨j, rfl, by simp⟩
        · cases h
      · cases h
    · cases h
  · cases h
end
end Go.AE
namespace Go.AE
section
variable {R : Type} {c : Cfg} {rec : Task → Out} {P : Program} {st : St} {nid : Nat}
theorem bif_bind {α β : Type} {b : Bool} {x y : Option α} {k : α → Option β} : (bif b then x else y).bind k = bif b then x.bind k else y.bind k := by cases b <;> rfl
theorem ownK_par (t : TypeId) (o : Nat) (v : V) (st : St) (K : V → St → Option R) : ownK P t o v st K = (ownK P t o v st fun v s => some (v, s)).bind fun p => K p.1 p.2 := by
  unfold ownK
  split
  · split
    · rw [bif_bind]; rfl
    · rfl
  · rfl
theorem force_par (v : V) (K : V → Option R) : force v K = K v := by cases v <;> rfl
theorem nilK_bind {α β : Type} {t : TypeId} {x : D} {k : D → Option α} {l : Option α} {f : α → Option β} : (nilK P t x k l).bind f = nilK P t x (fun y => (k y).bind f) (l.bind f) := by
  unfold nilK
  split
  · rw [bif_bind]
  · rfl
theorem loadK_par (t : TypeId) (p : V) (K : V → St → Option R) : loadK P t p st K = (loadK P t p st fun v s => some (v, s)).bind fun p => K p.1 p.2 := by
  unfold loadK typed
  simp only [force_par, bif_bind, Option.bind_none]
  congr 1
  cases p with
  | ptr o off =>
    simp only []
    split
    · simp only [bif_bind, Option.bind_none, Option.bind_some]
      congr 1
      split <;> rfl
    · rfl
  | el sz xs i off => simp only [bif_bind, nilK_bind, Option.bind_none, Option.bind_some]
  | rp o sz i off =>
    simp only []
    split
    · simp only [bif_bind, nilK_bind, Option.bind_none, Option.bind_some]
    · simp only [bif_bind, Option.bind_none, Option.bind_some]
    · rfl
  | irp o i sz j =>
    simp only []
    split
    · simp only [bif_bind, Option.bind_none, Option.bind_some]
    · rfl
  | _ => rfl
theorem storeK_par (ow : Bool) (t : TypeId) (p v : V) (K : V → St → Option R) : storeK P ow t p v nid st K = (storeK P ow t p v nid st fun v s => some (v, s)).bind fun p => K p.1 p.2 := by
  unfold storeK
  simp only [bif_bind, Option.bind_none]
  congr 1
  split
  · split
    · simp only [bif_bind, Option.bind_none, Option.bind_some]
      congr 2
      congr 1
      rw [ownK_par]
      conv => rhs; rw [ownK_par]
      simp [Option.bind_assoc]
    · rfl
  · split
    · rw [bif_bind]
      split <;> simp only [bif_bind, Option.bind_none, Option.bind_some]
    · rw [bif_bind]
      congr 1
      split
      · split
        · rw [bif_bind]; rfl
        · rfl
      · rfl
      · rfl
    · rfl
  · split
    · split
      · rw [bif_bind]; rfl
      · rfl
    · rfl
  · rfl
theorem appendK_par (t : TypeId) (x y : V) (K : V → St → Option R) : appendK P t x y nid st K = (appendK P t x y nid st fun v s => some (v, s)).bind fun p => K p.1 p.2 := by
  unfold appendK
  split
  · rfl
  · split
    · rfl
    · simp only [bif_bind, Option.bind_none]
      congr 1
      split
      · simp only [bif_bind, Option.bind_none, Option.bind_some]
      · split
        · simp only [bif_bind, Option.bind_none, Option.bind_some]
        · rfl
      · rfl
theorem makeK_par (t : TypeId) (x y : V) (K : V → St → Option R) : makeK P t x y nid st K = (makeK P t x y nid st fun v s => some (v, s)).bind fun p => K p.1 p.2 := by
  unfold makeK
  split
  · split
    · simp only [bif_bind, Option.bind_none, Option.bind_some]
    · rfl
  · rfl
theorem makeNK_par (t : TypeId) (x y : V) (K : V → St → Option R) : makeNK P t x y nid st K = (makeNK P t x y nid st fun v s => some (v, s)).bind fun p => K p.1 p.2 := by
  unfold makeNK
  split
  · simp only [bif_bind, Option.bind_none, Option.bind_some]
  · rfl
theorem copyK_par (x y : V) (K : V → St → Option R) : copyK P x y st K = (copyK P x y st fun v s => some (v, s)).bind fun p => K p.1 p.2 := by
  unfold copyK
  split
  · split
    · rw [bif_bind]; rfl
    · rfl
  · rfl
theorem lenK_par (t : TypeId) (x : V) (K : V → St → Option R) : (lenK P t st x fun n => K (.d (.int .i64 n)) st) = (lenK P t st x fun n => some (V.d (.int .i64 n), st)).bind fun p => K p.1 p.2 := by
  unfold lenK
  split
  · split <;> rfl
  · split
    · rfl
    · split
      · split <;> rfl
      · rfl
  · split
    · split <;> rfl
    · rfl
    · rfl
  · rfl
theorem newMapK_par (t : TypeId) (K : V → St → Option R) : newMapK P t nid st K = (newMapK P t nid st fun v s => some (v, s)).bind fun p => K p.1 p.2 := by
  unfold newMapK
  split
  · rw [bif_bind]; rfl
  · rfl
theorem lookupK_par (t : TypeId) (x i : V) (ok : Bool) (K : V → St → Option R) : lookupK P t x i ok st K = (lookupK P t x i ok st fun v s => some (v, s)).bind fun p => K p.1 p.2 := by
  unfold lookupK
  split
  · split
    · unfold typed
      rw [bif_bind, bif_bind]
      cases ok <;> rfl
    · rfl
  · rfl
theorem mapSetK_par (t : TypeId) (x i y : V) (K : V → St → Option R) : mapSetK P t x i y st K = (mapSetK P t x i y st fun v s => some (v, s)).bind fun p => K p.1 p.2 := by
  unfold mapSetK
  split
  · split
    · rw [bif_bind]; rfl
    · rfl
  · rfl
theorem mapEntK_par (t : TypeId) (x i : V) (K : V → St → Option R) : mapEntK P t x i st K = (mapEntK P t x i st fun v s => some (v, s)).bind fun p => K p.1 p.2 := by
  unfold mapEntK
  split
  · split
    · unfold typed
      rw [bif_bind]
      congr 1
      rw [bif_bind]; rfl
    · rfl
  · rfl
theorem entSetK_par (t : TypeId) (x i y : V) (K : V → St → Option R) : entSetK P t x i y st K = (entSetK P t x i y st fun v s => some (v, s)).bind fun p => K p.1 p.2 := by
  unfold entSetK
  split
  · split
    · rw [bif_bind]; rfl
    · rfl
  · rfl
theorem rangeK_par (t : TypeId) (x : V) (K : V → St → Option R) : rangeK P t x nid st K = (rangeK P t x nid st fun v s => some (v, s)).bind fun p => K p.1 p.2 := by
  unfold rangeK
  split
  · split <;> rfl
  · rfl
theorem entryK_par (x : V) (K : V → St → Option R) : entryK P x st K = (entryK P x st fun v s => some (v, s)).bind fun p => K p.1 p.2 := by
  unfold entryK
  split
  · split
    · split
      · split
        · unfold typed
          rw [bif_bind]
          congr 1
          rw [bif_bind]
          congr 1
          rw [bif_bind]; rfl
        · rfl
      · rfl
    · rfl
  · rfl
theorem indexAddrK_par (t : TypeId) (x i : V) (K : V → St → Option R) : indexAddrK P t x i st K = (indexAddrK P t x i st fun v s => some (v, s)).bind fun p => K p.1 p.2 := by
  unfold indexAddrK
  rw [bif_bind]
  congr 1
  split
  · split
    · rw [bif_bind]; rfl
    · split
      · rw [bif_bind]; rfl
      · rw [bif_bind]; rfl
      · rfl
    · split
      · rw [bif_bind]; rfl
      · rfl
    · split
      · rw [bif_bind]; rfl
      · rfl
    · rfl
  · rfl
theorem globIdxK_par (t : TypeId) (x : Operand) (vx i : V) (K : V → St → Option R) : globIdxK c t x vx i st K = (globIdxK c t x vx i st fun v s => some (v, s)).bind fun p => K p.1 p.2 := by
  unfold globIdxK
  split
  · split
    · rw [bif_bind]; rfl
    · rfl
  · split
    · unfold arrIdxK
      split
      · rw [bif_bind]; rfl
      · rfl
    · exact indexAddrK_par _ _ _ _
theorem sliceK_par (t : TypeId) (x : V) (lo hi mx : Option V) (K : V → St → Option R) : sliceK P t x lo hi mx st K = (sliceK P t x lo hi mx st fun v s => some (v, s)).bind fun p => K p.1 p.2 := by
  unfold sliceK
  split
  · rfl
  · rw [bif_bind]
    congr 1
    split
    · split
      · rw [bif_bind]; rfl
      · rfl
    · split
      · rw [bif_bind]; rfl
      · rfl
    · split
      · rw [bif_bind]
        congr 1
        split
        · rw [bif_bind]; rfl
        · rfl
      · rfl
    · rfl
theorem truncK_par (t : TypeId) (x : V) (hi : Option V) (K : V → St → Option R) : truncK P t x hi nid st K = (truncK P t x hi nid st fun v s => some (v, s)).bind fun p => K p.1 p.2 := by
  unfold truncK
  split
  · split
    · rw [bif_bind]; rfl
    · rfl
  · rfl
theorem clearK_par (t : TypeId) (x : V) (K : V → St → Option R) : clearK P t x st K = (clearK P t x st fun v s => some (v, s)).bind fun p => K p.1 p.2 := by
  unfold clearK
  split
  · split
    · rw [bif_bind]; rfl
    · rfl
  · rfl
theorem intOp_par (op : BinOp) (k : IntKind) (a b : Int) (K : V → St → Option R) : (intOp op k a b fun z => K (.d z) st) = (intOp op k a b fun z => some (V.d z, st)).bind fun p => K p.1 p.2 := by
  cases op <;> simp only [intOp] <;> first | rfl | (rw [bif_bind]; rfl)
theorem strOp_par (op : BinOp) (a b : List UInt8) (K : V → St → Option R) : (strOp op a b fun z => K (.d z) st) = (strOp op a b fun z => some (V.d z, st)).bind fun p => K p.1 p.2 := by
  cases op <;> simp only [strOp] <;> first | rfl | (rw [bif_bind]; rfl)
theorem binOpK_par (op : BinOp) (t : TypeId) (x y : D) (K : V → St → Option R) : (binOpK P op t x y fun z => K (.d z) st) = (binOpK P op t x y fun z => some (V.d z, st)).bind fun p => K p.1 p.2 := by
  unfold binOpK
  split
  · split
    · rw [bif_bind]; rfl
    · rw [bif_bind]; rfl
    · rw [bif_bind, intOp_par]; rfl
  · exact strOp_par _ _ _ _
  · split
    · split <;> rfl
    · rfl
  · rw [bif_bind]
    congr 1
    split <;> rfl
  · rw [bif_bind]
    congr 1
    split
    · rw [bif_bind]; rfl
    · rw [bif_bind]; rfl
    · rfl
  · rw [bif_bind]
    congr 1
    split <;> rfl
  · rfl
theorem nneK_par (n : Bool) (op : BinOp) (t : TypeId) (x y : D) (K : V → St → Option R) : (nneK P n op t x y fun z => K (.d z) st) = (nneK P n op t x y fun z => some (V.d z, st)).bind fun p => K p.1 p.2 := by
  unfold nneK
  rw [bif_bind]
  congr 1
  · rw [bif_bind]
    congr 1
    split <;> rfl
  · exact binOpK_par _ _ _ _ _
theorem unOpK_par (op : UnOp) (x : D) (K : V → St → Option R) : (unOpK op x fun z => K (.d z) st) = (unOpK op x fun z => some (V.d z, st)).bind fun p => K p.1 p.2 := by
  unfold unOpK
  split <;> rfl
theorem bindC_par (r : Out) (k : List D → Option R) (k' : List D → Option (V × St)) (K : V × St → Option R) (h : ∀ ds, k ds = (k' ds).bind K) : bindC r k = (bindC r k').bind K := by
  unfold bindC
  split
  · exact h _
  · rfl
theorem bif_congr {α : Type} {c : Bool} {x x' y y' : α} (h1 : x = x') (h2 : y = y') : (bif c then x else y) = bif c then x' else y' := by rw [h1, h2]
theorem doCall_par (no : Bool) (f : Nat) (args : List V) (K : V → St → Option R) : doCall c rec no f args nid st K = (doCall c rec no f args nid st fun v s => some (v, s)).bind fun p => K p.1 p.2 := by
  unfold doCall
  split
  · rfl
  · rw [bif_bind]
    refine bif_congr rfl ?_
    simp only []
    generalize callSk _ _ _ _ _ = sk
    split
    · rfl
    · rw [bif_bind]
      congr 1
      refine bindC_par _ _ _ _ fun ds => ?_
      simp only [bif_bind, Option.bind_none, Option.bind_some]
theorem appendSK_par (t : TypeId) (x : V) (s : List UInt8) (K : V → St → Option R) : appendSK P t x s nid st K = (appendSK P t x s nid st fun v s => some (v, s)).bind fun p => K p.1 p.2 := by
  unfold appendSK
  split
  · split
    · rw [bif_bind]; rfl
    · rfl
  · rfl
theorem boxK_par (t : Nat) (cs : List V) (K : V → St → Option R) : boxK c t nid cs st K = (boxK c t nid cs st fun v s => some (v, s)).bind fun p => K p.1 p.2 := by
  unfold boxK
  rw [bif_bind]
  congr 1
  · rw [bif_bind]; rfl
  · split <;> rfl
theorem callK_par (f : V) (args : List V) (K : V → St → Option R) : callK c rec f args nid st K = (callK c rec f args nid st fun v s => some (v, s)).bind fun p => K p.1 p.2 := by
  unfold callK
  split
  · split
    · rw [bif_bind]; rfl
    · split
      · rw [bif_bind]; rfl
      · exact doCall_par _ _ _ _
  · exact doCall_par _ _ _ _
  · rfl
theorem builtinK_par (b : Builtin) (ts : Array TypeId) (args : List V) (K : V → St → Option R) : builtinK c b ts args nid st K = (builtinK c b ts args nid st fun v s => some (v, s)).bind fun p => K p.1 p.2 := by
  unfold builtinK
  split
  · split
    · exact lenK_par _ _ _
    · rfl
  · split
    · rw [bif_bind, appendK_par, bif_bind]
      congr 2
      split
      · exact appendSK_par _ _ _ _
      · rfl
    · rfl
  · split
    · split
      · rw [bif_bind, copyK_par]; rfl
      · rfl
    · rfl
  · split
    · exact clearK_par _ _ _
    · rfl
  · rw [bif_bind]; rfl
  · rw [bif_bind]; rfl
  · rfl
theorem opK_par (o : Oper) (K : V → St → Option R) : opK c rec o nid st K = (opK c rec o nid st fun v s => some (v, s)).bind fun p => K p.1 p.2 := by
  unfold opK
  simp only [force_par]
  split
  · rfl
  · split
    · rw [bif_bind, bif_bind, ownK_par]; rfl
    · rfl
  · split
    · rw [bif_bind]; rfl
    · rfl
  · split
    · rw [bif_bind, bif_bind, ownK_par]
      conv => rhs; rw [ownK_par]
      rw [boxK_par]
      simp [Option.bind_assoc]
    · rfl
  · rw [bif_bind, bif_bind, bif_bind, ownK_par]
    conv => rhs; rw [ownK_par]
    rw [boxK_par]
    simp [Option.bind_assoc]
  · split
    · rw [bif_bind]
      congr 1
      split <;> rfl
    · rfl
  · split
    · split
      · rw [bif_bind]
        congr 1
        split <;> rfl
      · rfl
    · rfl
  · exact loadK_par _ _ _
  · exact storeK_par _ _ _ _ _
  · split <;> first | rfl | (rw [bif_bind]; rfl)
  · split
    · exact nneK_par _ _ _ _ _ _
    · rw [bif_bind]
      congr 1
      split <;> rfl
    · rfl
  · split
    · exact unOpK_par _ _ _
    · rfl
  · split
    · rfl
    · rw [bif_bind]; rfl
    · rfl
    · split
      · split
        · rw [bif_bind]; rfl
        · rfl
      · rfl
    · rfl
  · split
    · rw [bif_bind]
      congr 1
      split <;> rfl
    · rfl
  · rw [bif_bind, bif_bind]; rfl
  · split
    · rw [bif_bind]
      congr 1
      split <;> rfl
    · rfl
  · split
    · rw [bif_bind]
      congr 1
      split
      · rw [bif_bind, bif_bind]
        congr 2
        split <;> rfl
      · rw [bif_bind, bif_bind]
        congr 2
        split <;> rfl
      · rfl
    · rfl
  · exact globIdxK_par _ _ _ _ _
  · split
    · rw [bif_bind]; rfl
    · rfl
  · rw [bif_bind]
    congr 1
    · exact makeNK_par _ _ _ _
    · exact makeK_par _ _ _ _
  · split
    · exact newMapK_par _ _
    · rfl
  · exact lookupK_par _ _ _ _ _
  · exact mapEntK_par _ _ _ _
  · exact entSetK_par _ _ _ _ _
  · exact rangeK_par _ _ _
  · exact entryK_par _ _
  · exact mapSetK_par _ _ _ _ _
  · rw [bif_bind]
    congr 1
    · split
      · exact truncK_par _ _ _ _
      · rfl
    · exact sliceK_par _ _ _ _ _ _
  · split
    · rfl
    · rfl
    · split <;> rfl
    · rfl
  · split
    · rw [bif_bind]; rfl
    · rfl
  · split
    · exact callK_par _ _ _
    · exact builtinK_par _ _ _ _
    · split
      · split
        · exact doCall_par _ _ _ _
        · rfl
      · rfl
  · rfl
end
end Go.AE
namespace Go.AE
section
variable {c : Cfg} {rec : Task → Out} {P : Program} {st st' : St} {nid : Nat} {v : V}
def Own (nid : Nat) (st st' : St) : Prop := ∀ x, ¬ (nid ≤ x ∧ x < nid + 32) → st'.h x = st.h x
theorem Own.refl (nid : Nat) (st : St) : Own nid st st := fun _ _ => rfl
theorem Own.setH {o : Nat} {ob : Option Ob} (h : Own nid st st') (ho : nid ≤ o ∧ o < nid + 32) : Own nid st (st'.setH o ob) := fun x hx => by
  have hne : x ≠ o := fun e => hx (by rw [e]; exact ho)
  rw [setH_eq, if_neg hne]; exact h x hx
theorem ownK_own {t : TypeId} {o : Nat} (ho : nid ≤ o ∧ o < nid + 32) {v v' : V} (h : ownK P t o v st (fun v s => some (v, s)) = some (v', st')) : Own nid st st' := by
  unfold ownK at h
  split at h
  · split at h
    · obtain ⟨_, h⟩ := bif_some h
      cases h
      exact (Own.refl nid st).setH ho
    · cases h
  · cases h; exact Own.refl nid st
theorem bindSome {α β : Type} {x : Option α} {k : α → Option β} {y : β} (h : x.bind k = some y) : ∃ a, x = some a ∧ k a = some y := by
  cases x with
  | none => cases h
  | some a => exact ⟨a, rfl, h⟩
theorem loadK_own {t : TypeId} {p : V} (h : loadK P t p st (fun v s => some (v, s)) = some (v, st')) : st' = st := by
  unfold loadK typed at h
  simp only [force_par] at h
  replace h := (bif_none_some h).2
  split at h
  · split at h
    · cases hb : isAggT P t with
      | true => rw [hb] at h; obtain ⟨_, h⟩ := bif_some h; cases h; rfl
      | false =>
        rw [hb] at h
        simp only [cond_false] at h
        split at h
        · cases h; rfl
        · cases h
    · cases h
  · rename_i sz xs i off
    cases hb : (Nat.beq off 0 && Nat.beq (szT P t) sz) with
    | true =>
      rw [hb, cond_true] at h
      rcases nilK_some h with ⟨_, _, _, h⟩ | h
      · cases h; rfl
      · obtain ⟨_, h⟩ := bif_some h; cases h; rfl
    | false => rw [hb] at h; simp only [cond_false] at h; obtain ⟨_, h⟩ := bif_some h; obtain ⟨_, h⟩ := bif_some h; obtain ⟨_, h⟩ := bif_some h; cases h; rfl
  · rename_i o sz i off
    split at h
    · obtain ⟨_, h⟩ := bif_some h
      cases hb : (Nat.beq off 0 && Nat.beq (szT P t) sz) with
      | true =>
        rw [hb, cond_true] at h
        rcases nilK_some h with ⟨_, _, _, h⟩ | h
        · cases h; rfl
        · obtain ⟨_, h⟩ := bif_some h; cases h; rfl
      | false => rw [hb] at h; simp only [cond_false] at h; obtain ⟨_, h⟩ := bif_some h; obtain ⟨_, h⟩ := bif_some h; obtain ⟨_, h⟩ := bif_some h; cases h; rfl
    · rename_i f ie z xs _
      replace h := (bif_some h).2
      cases hb : isNilD (xs[i]?.getD .top) with
      | true => rw [hb] at h; cases h; rfl
      | false => rw [hb] at h; cases h; rfl
    · cases h
  · split at h
    · replace h := (bif_some h).2
      replace h := (bif_some h).2
      cases h; rfl
    · cases h
  · cases h
theorem intOp_own {op : BinOp} {k : IntKind} {a b : Int} (h : (intOp op k a b fun z => some (V.d z, st)) = some (v, st')) : st' = st := by
  rw [intOp_par (K := fun v s => some (v, s))] at h
  obtain ⟨p, h1, h2⟩ := bindSome h
  cases h2
  cases op <;> simp only [intOp] at h1 <;> first | (cases h1; done) | (cases h1; rfl) | (obtain ⟨_, h1⟩ := bif_none_some h1; cases h1; rfl)
theorem strOp_own {op : BinOp} {a b : List UInt8} (h : (strOp op a b fun z => some (V.d z, st)) = some (v, st')) : st' = st := by
  cases op <;> simp only [strOp] at h <;> first | (cases h; done) | (cases h; rfl) | (obtain ⟨_, h⟩ := bif_some h; cases h; rfl)
theorem binOpK_own {op : BinOp} {t : TypeId} {x y : D} (h : (binOpK P op t x y fun z => some (V.d z, st)) = some (v, st')) : st' = st := by
  unfold binOpK at h
  split at h
  · split at h
    · replace h := (bif_none_some h).2; cases h; rfl
    · replace h := (bif_none_some h).2; cases h; rfl
    · exact intOp_own (bif_some h).2
  · exact strOp_own h
  · split at h
    · split at h <;> first | (cases h; done) | (cases h; rfl)
    · cases h
  · replace h := (bif_some h).2
    split at h <;> first | (cases h; done) | (cases h; rfl)
  · rename_i sz xs e1 e2
    replace h := (bif_some h).2
    cases he : xs.isEmpty with
    | true => simp only [he, cond_true] at h; split at h <;> first | (cases h; done) | (cases h; rfl)
    | false => simp only [he, cond_false] at h; split at h <;> first | (cases h; done) | (cases h; rfl)
  · replace h := (bif_some h).2
    split at h <;> first | (cases h; done) | (cases h; rfl)
  · cases h
theorem unOpK_own {op : UnOp} {x : D} (h : (unOpK op x fun z => some (V.d z, st)) = some (v, st')) : st' = st := by
  unfold unOpK at h
  split at h <;> first | (cases h; done) | (cases h; rfl)
theorem lenK_own {t : TypeId} {x : V} (h : (lenK P t st x fun n => some (V.d (.int .i64 n), st)) = some (v, st')) : st' = st := by
  unfold lenK at h
  split at h
  · split at h <;> first | (cases h; done) | (cases h; rfl)
  · split at h
    · cases h; rfl
    · split at h
      · split at h <;> first | (cases h; done) | (cases h; rfl)
      · cases h
  · split at h
    · split at h <;> first | (cases h; done) | (cases h; rfl)
    · cases h; rfl
    · cases h
  · cases h
theorem lookupK_own {t : TypeId} {x i : V} {ok : Bool} (h : lookupK P t x i ok st (fun v s => some (v, s)) = some (v, st')) : st' = st := by
  unfold lookupK at h
  split at h
  · split at h
    · replace h := (bif_some h).2
      unfold typed at h
      replace h := (bif_some h).2
      cases ok <;> (cases h; rfl)
    · cases h
  · cases h
theorem indexAddrK_own {t : TypeId} {x i : V} (h : indexAddrK P t x i st (fun v s => some (v, s)) = some (v, st')) : st' = st := by
  unfold indexAddrK at h
  replace h := (bif_none_some h).2
  split at h
  · split at h
    · replace h := (bif_some h).2; cases h; rfl
    · split at h
      · replace h := (bif_some h).2; cases h; rfl
      · replace h := (bif_some h).2; cases h; rfl
      · cases h
    · split at h
      · replace h := (bif_some h).2; cases h; rfl
      · cases h
    · split at h
      · replace h := (bif_some h).2; cases h; rfl
      · cases h
    · cases h
  · cases h
theorem globIdxK_own {t : TypeId} {x : Operand} {vx i : V} (h : globIdxK c t x vx i st (fun v s => some (v, s)) = some (v, st')) : st' = st := by
  unfold globIdxK at h
  split at h
  · split at h
    · replace h := (bif_some h).2; cases h; rfl
    · cases h
  · split at h
    · unfold arrIdxK at h
      split at h
      · replace h := (bif_some h).2; cases h; rfl
      · cases h
    · exact indexAddrK_own h
theorem sliceK_own {t : TypeId} {x : V} {lo hi mx : Option V} (h : sliceK P t x lo hi mx st (fun v s => some (v, s)) = some (v, st')) : st' = st := by
  unfold sliceK at h
  split at h
  · cases h
  · replace h := (bif_none_some h).2
    split at h
    · split at h
      · replace h := (bif_some h).2; cases h; rfl
      · cases h
    · split at h
      · replace h := (bif_some h).2; cases h; rfl
      · cases h
    · split at h
      · replace h := (bif_none_some h).2
        split at h
        · replace h := (bif_some h).2; cases h; rfl
        · cases h
      · cases h
    · cases h
theorem boxK_own {c : Cfg} {t : Nat} {cs : List V} {v : V} (h : boxK c t nid cs st (fun v s => some (v, s)) = some (v, st')) : Own nid st st' := by
  unfold boxK at h
  cases hw : c.wty t 0 with
  | true =>
    rw [hw] at h
    simp only [cond_true] at h
    obtain ⟨hm, h⟩ := bif_some h
    have hm : (widenCells (c.wty t) cs (nid + 1)).2.2 ≤ nid + 32 := Nat.le_of_ble_eq_true hm
    cases h
    refine Own.setH (st' := { st with h := putObs st.h (widenCells (c.wty t) cs (nid + 1)).2.1 }) ?_ ⟨Nat.le_refl _, by omega⟩
    intro x hx
    refine putObs_not fun e he ex => hx ?_
    have := widenCells_in he
    omega
  | false =>
  rw [hw] at h
  simp only [cond_false] at h
  split at h
  · rename_i cs' h' hb
    cases h
    refine Own.setH (st' := { st with h := h' }) ?_ ⟨Nat.le_refl _, by omega⟩
    unfold bldCells at hb
    split at hb
    · cases hb; exact Own.refl nid st
    · split at hb
      · replace hb := (bif_some hb).2
        cases hb
        intro x hx
        have hn : Nat.beq x (nid + 1) = false := by
          rw [← Bool.not_eq_true]
          intro hc
          have := Nat.eq_of_beq_eq_true hc
          exact hx (by omega)
        show (bif Nat.beq x (nid + 1) then _ else _) = _
        rw [hn]; rfl
      · cases hb
  · cases h
theorem opK_own {o : Oper} (hro : isRO o.op = true) (h : opK c rec o nid st (fun v s => some (v, s)) = some (v, st')) : Own nid st st' := by
  have same : st' = st → Own nid st st' := fun e => by rw [e]; exact Own.refl nid st
  unfold opK at h
  simp only [force_par] at h
  split at h
  · cases h; exact Own.refl nid _
  · split at h
    · rename_i ho _ _ _ _
      cases hs : isSliceT c.P o.type with
      | true =>
        rw [hs] at h
        cases hn : c.nas o.type with
        | true => rw [hn] at h; cases h; exact Own.refl nid _
        | false => rw [hn] at h; exact ownK_own ⟨Nat.le_refl _, by omega⟩ h
      | false => rw [hs] at h; cases h; exact Own.refl nid _
    · cases h; exact Own.refl nid _
  · split at h
    · rename_i b _
      cases b <;> (cases h; exact Own.refl nid _)
    · cases h
  · rename_i t ho
    split at h
    · rename_i z hz
      replace h := (bif_some h).2
      cases hs : isSliceT c.P t with
      | true =>
        rw [hs] at h
        simp only [cond_true] at h
        rw [ownK_par] at h
        obtain ⟨⟨v1, s1⟩, h1, h2⟩ := bindSome h
        cases h2
        exact (ownK_own (nid := nid) ⟨by omega, by omega⟩ h1).setH ⟨Nat.le_refl _, by omega⟩
      | false => rw [hs] at h; exact boxK_own h
    · cases h
  · rename_i t x ho
    replace h := (bif_none_some h).2
    cases hs : isSliceT c.P t with
    | true =>
      rw [hs] at h
      simp only [cond_true] at h
      rw [ownK_par] at h
      obtain ⟨⟨v1, s1⟩, h1, h2⟩ := bindSome h
      cases h2
      exact (ownK_own (nid := nid) ⟨by omega, by omega⟩ h1).setH ⟨Nat.le_refl _, by omega⟩
    | false => rw [hs] at h; replace h := (bif_some h).2; exact boxK_own h
  · split at h
    · replace h := (bif_none_some h).2
      split at h
      · cases h; exact Own.refl nid _
      · cases h
    · cases h
  · rename_i ho; rw [ho] at hro; cases hro
  · exact same (loadK_own h)
  · rename_i ho; rw [ho] at hro; cases hro
  · split at h <;> first | (cases h; done) | (cases h; exact Own.refl nid _) | (replace h := (bif_some h).2; cases h; exact Own.refl nid _)
  · split at h
    · exact same (binOpK_own (nneK_bin h))
    · replace h := (bif_some h).2
      split at h <;> first | (cases h; done) | (cases h; exact Own.refl nid _)
    · cases h
  · split at h
    · exact same (unOpK_own h)
    · cases h
  · split at h
    · cases h; exact Own.refl nid _
    · replace h := (bif_some h).2; cases h; exact Own.refl nid _
    · cases h; exact Own.refl nid _
    · split at h
      · split at h
        · replace h := (bif_some h).2; cases h; exact Own.refl nid _
        · cases h
      · cases h
    · cases h
  · split at h
    · replace h := (bif_some h).2
      split at h
      · cases h; exact Own.refl nid _
      · cases h
    · cases h
  · rename_i f first captured ho
    cases hb : (captured.isEmpty && first.isEmpty) with
    | true => rw [hb] at h; cases h; exact Own.refl nid _
    | false => rw [hb] at h; replace h := (bif_some h).2; cases h; exact Own.refl nid _
  · split at h
    · replace h := (bif_some h).2
      split at h <;> first | (cases h; done) | (cases h; exact Own.refl nid _)
    · cases h
  · split at h
    · rename_i off ft _
      replace h := (bif_none_some h).2
      split at h
      · replace h := (bif_some h).2
        cases hag : isAggT c.P ft with
        | true => rw [hag] at h; cases h; exact Own.refl nid _
        | false =>
          rw [hag] at h
          simp only [cond_false] at h
          split at h <;> first | (cases h; done) | (cases h; exact Own.refl nid _)
      · replace h := (bif_some h).2
        cases hag : isAggT c.P ft with
        | true => rw [hag] at h; cases h; exact Own.refl nid _
        | false =>
          rw [hag] at h
          simp only [cond_false] at h
          split at h <;> first | (cases h; done) | (cases h; exact Own.refl nid _)
      · cases h
    · cases h
  · exact same (globIdxK_own h)
  · split at h
    · replace h := (bif_some h).2; cases h; exact Own.refl nid _
    · cases h
  · rename_i t _ _ _
    cases hn : c.nst t with
    | true =>
      rw [hn] at h
      simp only [cond_true] at h
      unfold makeNK at h
      split at h
      · replace h := (bif_some h).2
        replace h := (bif_some h).2
        cases h
        exact (Own.refl nid st).setH ⟨Nat.le_refl _, by omega⟩
      · cases h
    | false =>
      rw [hn] at h
      simp only [cond_false] at h
      unfold makeK at h
      split at h
      · split at h
        · replace h := (bif_some h).2
          replace h := (bif_some h).2
          cases h
          exact (Own.refl nid st).setH ⟨Nat.le_refl _, by omega⟩
        · cases h
      · cases h
  · split at h
    · unfold newMapK at h
      split at h
      · replace h := (bif_some h).2
        cases h
        exact (Own.refl nid st).setH ⟨Nat.le_refl _, by omega⟩
      · cases h
    · cases h
  · exact same (lookupK_own h)
  · rename_i ho; rw [ho] at hro; cases hro
  · rename_i ho; rw [ho] at hro; cases hro
  · rename_i ho; rw [ho] at hro; cases hro
  · rename_i ho; rw [ho] at hro; cases hro
  · rename_i ho; rw [ho] at hro; cases hro
  · rename_i t x lo hi mx ho
    rw [ho] at hro
    have hb : (c.trn t && lo.isNone && hi.isSome) = false := by
      simp only [isRO] at hro
      cases lo <;> cases hi <;> simp_all
    rw [hb] at h
    exact same (sliceK_own h)
  · rename_i ho; rw [ho] at hro; cases hro
  · split at h
    · replace h := (bif_some h).2; cases h; exact Own.refl nid _
    · cases h
  · rename_i q' ho
    rw [ho] at hro
    simp only [isRO] at hro
    split at h
    · rename_i f hc; rw [hc] at hro; cases hro
    · rename_i b hc
      rw [hc] at hro
      unfold builtinK at h
      split at h
      · split at h
        · exact same (lenK_own h)
        · cases h
      · cases hro
      · cases hro
      · cases hro
      · replace h := (bif_some h).2; cases h; exact Own.refl nid _
      · replace h := (bif_some h).2; cases h; exact Own.refl nid _
      · cases h
    · rename_i x nm hc
      rw [hc] at hro
      cases hro
  · cases h
end
end Go.AE
namespace Go.AE
section
variable {Rs Vl : Type} (m0 : Rs → Vl) (wr : Nat → Rs → Bool) (e : Nat → Rs → Vl)
def foldW (L : Nat → Bool) : Nat → Rs → Vl
  | 0 => m0
  | i + 1 => fun x => bif L i && wr i x then e i x else foldW L i x
theorem foldW_congr {L L' : Nat → Bool} {x : Rs} : ∀ n, (∀ i, i < n → L i = L' i ∨ wr i x = false) → foldW m0 wr e L n x = foldW m0 wr e L' n x
  | 0, _ => rfl
  | n + 1, h => by
    have ih := foldW_congr (L := L) (L' := L') n fun i hi => h i (by omega)
    simp only [foldW]
    rcases h n (by omega) with k | k
    · rw [k, ih]
    · rw [k, Bool.and_false, Bool.and_false, ih]
theorem foldW_cut {L : Nat → Bool} {x : Rs} {j : Nat} : ∀ n, j ≤ n → (∀ i, j ≤ i → i < n → L i = false ∨ wr i x = false) → foldW m0 wr e L n x = foldW m0 wr e L j x
  | 0, hj, _ => by have : j = 0 := by omega
                   subst this; rfl
  | n + 1, hj, h => by
    by_cases hn : j = n + 1
    · subst hn; rfl
    · simp only [foldW]
      have ih := foldW_cut (L := L) (x := x) (j := j) n (by omega) fun i h1 h2 => h i h1 (by omega)
      rcases h n (by omega) (by omega) with k | k
      · rw [k, Bool.false_and, cond_false, ih]
      · rw [k, Bool.and_false, cond_false, ih]
theorem foldW_read {L : Nat → Bool} {x : Rs} {j n : Nat} (hj : j < n) (hL : L j = false) (hb : ∀ i, i < j → L i = true ∨ wr i x = false) (ha : ∀ i, j < i → i < n → L i = false ∨ wr i x = false) :
    foldW m0 wr e L n x = foldW m0 wr e (fun _ => true) j x := by
  rw [foldW_cut m0 wr e (j := j) n (by omega) fun i h1 h2 => by
    rcases Nat.eq_or_lt_of_le h1 with k | k
    · subst k; exact .inl hL
    · exact ha i k h2]
  exact foldW_congr m0 wr e j fun i hi => hb i hi
theorem foldW_add {L : Nat → Bool} {x : Rs} {j : Nat} : ∀ n, j < n → (∀ i, j < i → i < n → L i = false ∨ wr j x = false ∨ wr i x = false) →
    foldW m0 wr e (fun i => bif Nat.beq i j then true else L i) n x = bif wr j x then e j x else foldW m0 wr e L n x
  | 0, hj, _ => by omega
  | n + 1, hj, h => by
    by_cases hn : j = n
    · subst hn
      simp only [foldW]
      have e1 : Nat.beq j j = true := Nat.beq_refl j
      rw [e1, cond_true, Bool.true_and]
      cases hw : wr j x with
      | true => rfl
      | false =>
        rw [Bool.and_false, cond_false, cond_false, cond_false]
        refine foldW_congr m0 wr e j fun i hi => .inl ?_
        have : Nat.beq i j = false := by
          cases k : Nat.beq i j with
          | true => have := Nat.eq_of_beq_eq_true k; omega
          | false => rfl
        rw [this]; rfl
    · have ih := foldW_add (L := L) (x := x) (j := j) n (by omega) fun i h1 h2 => h i h1 (by omega)
      simp only [foldW]
      have e1 : Nat.beq n j = false := by
        cases k : Nat.beq n j with
        | true => have := Nat.eq_of_beq_eq_true k; omega
        | false => rfl
      rw [e1, cond_false, ih]
      rcases h n (by omega) (by omega) with k | k | k
      · rw [k, Bool.false_and, cond_false, cond_false]
      · rw [k, cond_false, cond_false]
      · rw [k, Bool.and_false, cond_false, cond_false]
end
end Go.AE
namespace Go.AE
open Go.RowKit
structure FX where
  c : Cfg
  fn : Func
  u : Nat → Option Obj
  osk : Sk
  pre : List (Nat × Nat)
  g0 : G
  w0 : World
def dls (g0 : G) (df : List (Nat × List (Nat × Nat))) : List Deferred := df.map fun d => ⟨.fn (.func d.1) #[], (d.2.map fun l => Value.pointer (some ⟨g0.blk l.1, l.2, none⟩)).toArray⟩
def Keep (pre : List (Nat × Nat)) (g0 g : G) : Prop := ∀ l o, lookN pre l = some o → g.blk l = g0.blk l ∧ g.hdr l = g0.hdr l ∧ ∀ i v, g0.ihdr l i = some v → g.ihdr l i = some v
structure Now (X : FX) (p : Nat → Prop) (g : G) (st : St) (a : Act) (w : World) : Prop where
  at_ : At X.u p g st a w
  size : X.fn.ntmps ≤ a.tmps.size
  def_ : a.defers = dls X.g0 st.m.df ∧ ∀ d ∈ st.m.df, ∀ l ∈ d.2, lookN X.pre l.1 = some l.1
  ext : Ext X.g0 X.w0 g w
  keep : Keep X.pre X.g0 g
  pre : ∀ l o, lookN X.pre l = some o → p l
section
variable {X : FX} {p q : Nat → Prop} {g g' : G} {st st' : St} {a a' : Act} {w w' : World} {rec : Task → Out} {r : Bool × List D} {Q : Exit → Act → World → Prop}
theorem Keep.agree (h : Keep X.pre X.g0 g) (ha : AgreeW p g g') (hp : ∀ l o, lookN X.pre l = some o → p l) : Keep X.pre X.g0 g' := fun l o hl => by
  rw [ha.blk l (hp l o hl), ha.hdr l (hp l o hl)]; exact ⟨(h l o hl).1, (h l o hl).2.1, fun i v k => ha.ihdr l (hp l o hl) i v ((h l o hl).2.2 i v k)⟩
theorem set_t (st : St) (d : Nat) (v : V) (t : Nat) : (st.set d v).t t = if t = d then v else st.t t := by
  simp only [St.set]
  by_cases e : t = d
  · rw [if_pos e, beq_iff.2 e]; rfl
  · rw [if_neg e, beq_false e]; rfl
theorem set_self {st : St} {d : Nat} {v : V} (h : st.t d = v) : st.set d v = st := by
  have : (st.set d v).t = st.t := by
    funext t
    rw [set_t]
    split
    · rename_i e; rw [e, h]
    · rfl
  show (⟨(st.set d v).t, st.h, st.m⟩ : St) = st
  rw [this]
theorem getD_set {tm : Array Value} {d : Nat} {v : Value} (hd : d < tm.size) (t : Nat) : (tm.setIfInBounds d v).getD t undef = if t = d then v else tm.getD t undef := by
  by_cases e : t = d
  · subst e
    rw [if_pos rfl]
    simp [Array.getD_eq_getD_getElem?, hd]
  · rw [if_neg e]
    simp [Array.getD_eq_getD_getElem?, Array.getElem?_setIfInBounds, Ne.symm e]
theorem Now.put (N : Now X p g st a w) {dst : Option Tmp} (hd : (match dst with | some d => Nat.blt d X.fn.ntmps | none => true) = true) {vv : V} {st1 : St} {v : Value} (hpq : ∀ x, p x → q x) (S : SimH X.u q g' st1.h w') (ha : AgreeW p g g') (he : Ext g w g' w')
    (hv : VV g' vv v) (hu : vv.uses q) (ht : st1.t = st.t) (hm : st1.m = st.m) : Now X q g' (st1.put dst vv) (a.put dst v) w' := by
  have hb : ∀ t, VV g' (st.t t) (a.tmps.getD t undef) := fun t => (N.at_.tm t).agree ha (N.at_.nm t)
  have hb2 : ∀ t, (st.t t).uses q := fun t => (N.at_.nm t).mono hpq
  cases dst with
  | none =>
    refine ⟨⟨S, fun t => ?_, fun t => ?_⟩, N.size, (by show a.defers = dls X.g0 st1.m.df ∧ ∀ d ∈ st1.m.df, ∀ l ∈ d.2, lookN X.pre l.1 = some l.1; rw [hm]; exact N.def_), N.ext.trans he, N.keep.agree ha N.pre, fun l o h => hpq _ (N.pre l o h)⟩
    · show VV g' (st1.t t) _
      rw [ht]; exact hb t
    · show (st1.t t).uses q
      rw [ht]; exact hb2 t
  | some d =>
    have hd : Nat.ble (d + 1) X.fn.ntmps = true := hd
    have hd := Nat.le_of_ble_eq_true hd
    have hlt : d < a.tmps.size := Nat.lt_of_lt_of_le hd N.size
    refine ⟨⟨S, fun t => ?_, fun t => ?_⟩, ?_, (by show a.defers = dls X.g0 st1.m.df ∧ ∀ d ∈ st1.m.df, ∀ l ∈ d.2, lookN X.pre l.1 = some l.1; rw [hm]; exact N.def_), N.ext.trans he, N.keep.agree ha N.pre, fun l o h => hpq _ (N.pre l o h)⟩
    · show VV g' ((st1.set d vv).t t) ((a.tmps.setIfInBounds d v).getD t undef)
      rw [set_t, getD_set hlt, ht]
      split
      · exact hv
      · exact hb t
    · show ((st1.set d vv).t t).uses q
      rw [set_t, ht]
      split
      · exact hu
      · exact hb2 t
    · show X.fn.ntmps ≤ (a.tmps.setIfInBounds d v).size
      simpa using N.size
theorem yielded_of {ops : Array Oper} {j d : Nat} {b : Bool} (hd : (ops[j]?).bind (·.dst) = some d) (hv : a.tmps.getD d undef = .bool b) : yielded ops a.tmps j = some b := by
  unfold yielded
  rw [hd]
  simp only [Option.bind_some]
  rw [Array.getD_eq_getD_getElem?] at hv
  cases e : a.tmps[d]? with
  | none => rw [e] at hv; simp [undef] at hv
  | some x => rw [e] at hv; simp at hv; subst hv; rfl
theorem yielded_und {ops : Array Oper} {j d : Nat} (hd : (ops[j]?).bind (·.dst) = some d) (hv : a.tmps.getD d undef = undef) : yielded ops a.tmps j = none := by
  unfold yielded
  rw [hd]
  simp only [Option.bind_some]
  rw [Array.getD_eq_getD_getElem?] at hv
  cases e : a.tmps[d]? with
  | none => rfl
  | some x => rw [e] at hv; simp at hv; subst hv; rfl
theorem labels_ok {S : At X.u p g st a w} (hk : Keep X.pre X.g0 g) : ∀ {xs : List V} {vals : List Value} {zs : List (Nat × Nat)}, F2 (VV g) xs vals → labels X.pre xs = some zs →
    vals = (zs.map fun l => Value.pointer (some ⟨X.g0.blk l.1, l.2, none⟩)) ∧ ∀ l ∈ zs, lookN X.pre l.1 = some l.1
  | [], _, zs, h, e => by
    cases h
    simp only [labels, Option.some.injEq] at e
    subst e
    exact ⟨rfl, fun l hl => by cases hl⟩
  | x :: xs, _, zs, h, e => by
    cases h with
    | cons h1 h2 =>
      cases x <;> simp only [labels] at e <;> try (cases e; done)
      split at e
      · rename_i o off _ _ o' zs' e1 e2
        obtain ⟨hb, e⟩ := bif_some e
        cases e
        have ho : o = o' := beq_iff.1 hb
        subst ho
        obtain ⟨r1, r2⟩ := labels_ok (S := S) hk h2 e2
        have h1 := VV_ptr h1
        rw [(hk _ _ e1).1] at h1
        refine ⟨by rw [h1, r1]; rfl, fun l hl => ?_⟩
        rcases List.mem_cons.1 hl with rfl | hl
        · exact e1
        · exact r2 l hl
      · cases e
theorem deferOf_ok {o : Oper} {d : Nat × List (Nat × Nat)} (N : Now X p g st a w) (h : deferOf X.pre st o = some d) :
    (execOp a.eval o).run X.c.P w = .ok (.defer ⟨.fn (.func d.1) #[], (d.2.map fun l => Value.pointer (some ⟨X.g0.blk l.1, l.2, none⟩)).toArray⟩) w ∧ o.guard = none ∧ o.dst = none ∧ ∀ l ∈ d.2, lookN X.pre l.1 = some l.1 := by
  unfold deferOf at h
  split at h
  · rename_i q' ho
    split at h
    · rename_i f hc hg hdst
      split at h
      · rename_i gid he
        split at h
        · rename_i zs hl
          cases h
          have hv := N.at_.ev f
          rw [he] at hv
          have hv : a.eval f = .func (.func gid) #[] #[] := hv
          obtain ⟨r1, r2⟩ := labels_ok (S := N.at_) N.keep (ev_F2 N.at_ q'.args.toList) hl
          refine ⟨?_, hg, hdst, r2⟩
          simp only [execOp, ho, resolve, hc, hv, Deferred.ofValue]
          have e : q'.args.map a.eval = (zs.map fun l => Value.pointer (some ⟨X.g0.blk l.1, l.2, none⟩)).toArray := by
            apply Array.ext'
            simpa using r1
          simp [e]
        · cases h
      · cases h
    · cases h
  · cases h
theorem opsK_sound (hn : NamesOk X.c) (hg0 : X.c.gok X.g0.h) (hrec : RecOk X.c rec) {ops : Array Oper} {st0 : Nat} : ∀ (os : List Oper) (i : Nat) {st : St} {a : Act} {w : World} {g : G} {K : St → Out}, opsK X.c rec X.fn.ntmps X.pre ops.toList st0 i os st K = some r →
    Now X (· < st0 + 32 * i) g st a w → st.n = st0 →
    (∀ st' a' w' g', K st' = some r → Now X (· < st0 + 32 * (i + os.length)) g' st' a' w' → st'.n = st0 → Q .normal a' w') → wpList X.c.P ops Q os a w
  | [], i, st, a, w, g, K, h, N, hst, hK => hK st a w g h (by simpa using N) hst
  | o :: os, i, st, a, w, g, K, h, N, hst, hK => by
    have hfr : Fresh (fun x => x < st0 + 32 * i) (fun x => x < st0 + 32 * (i + 1)) (st0 + 32 * i) := fun k hk => ⟨by omega, by omega⟩
    have hpq : ∀ x, x < st0 + 32 * i → x < st0 + 32 * (i + 1) := fun x hx => by omega
    have hK' : ∀ st' a' w' g', K st' = some r → Now X (· < st0 + 32 * ((i + 1) + os.length)) g' st' a' w' → st'.n = st0 → Q .normal a' w' := by
      intro st' a' w' g' h1 h2
      refine hK st' a' w' g' h1 ?_
      rw [show i + (o :: os).length = i + 1 + os.length from by simp; omega]
      exact h2
    have on : Region.wanted o (yielded ops a.tmps) = true → (bif (match o.dst with | some d => Nat.blt d X.fn.ntmps | none => true) then opK X.c rec o (st0 + 32 * i) st fun v st' => opsK X.c rec X.fn.ntmps X.pre ops.toList st0 (i + 1) os (st'.put o.dst v) K else none) = some r →
        wpList X.c.P ops Q (o :: os) a w := by
      intro hw h
      obtain ⟨hd, h⟩ := bif_some h
      obtain ⟨vv, st1, hk, hop⟩ := op_sound hn (hn.2.2.1 _ _ N.ext.h hg0) hrec N.at_ hpq hfr h
      refine wpList_step fun KK hKK => ?_
      rw [if_pos hw]
      refine hop.wp fun v w' ⟨g', s1, s2, s3, s4, s5, s6, s7, s8⟩ => hKK _ _ ?_
      refine opsK_sound hn hg0 hrec os (i + 1) hk (N.put hd hpq s1 s2 s3 s4 s5 s6 s7) ?_ hK'
      cases o.dst <;> (show st1.m.k = st0; rw [s7]; exact hst)
    have off : Region.wanted o (yielded ops a.tmps) = false → (bif (match o.dst with | some d => Nat.blt d X.fn.ntmps | none => true) then opsK X.c rec X.fn.ntmps X.pre ops.toList st0 (i + 1) os (st.put o.dst (.d .und)) K else none) = some r → wpList X.c.P ops Q (o :: os) a w := by
      intro hw h
      obtain ⟨hd, h⟩ := bif_some h
      refine wpList_step fun KK hKK => ?_
      rw [if_neg (by rw [hw]; simp)]
      refine hKK _ _ ?_
      refine opsK_sound hn hg0 hrec os (i + 1) h (N.put (vv := .d .und) hd hpq (N.at_.hp.more hpq) (Agree.refl _ g).w (Ext.refl g w) rfl trivial rfl rfl) ?_ hK'
      cases o.dst <;> exact hst
    simp only [opsK] at h
    split at h
    · rename_i d hd
      obtain ⟨hop, hg, hdst, hlab⟩ := deferOf_ok N hd
      refine wpList_step fun KK hKK => ?_
      rw [if_pos (by simp [Region.wanted, hg])]
      unfold Oper.wp
      rw [hop, Oper.upon_defer, hdst]
      refine hKK _ _ ?_
      refine opsK_sound hn hg0 hrec os (i + 1) h (st := { st with m := ⟨st.m.k, d :: st.m.df⟩ }) ⟨⟨N.at_.hp.more hpq, N.at_.tm, fun t => (N.at_.nm t).mono hpq⟩, N.size, ⟨?_, ?_⟩, N.ext, N.keep, fun l o h => hpq _ (N.pre l o h)⟩ hst hK'
      · show _ :: a.defers = _ :: dls X.g0 st.m.df
        rw [N.def_.1]
      · intro d' hd' l hl
        rcases List.mem_cons.1 hd' with rfl | hd'
        · exact hlab l hl
        · exact N.def_.2 d' hd' l hl
    split at h
    · rename_i q' t mo ns d m hnx
      obtain ⟨hd, h⟩ := bif_some h
      simp only [Bool.and_eq_true] at hd
      obtain ⟨hd, hb⟩ := hd
      obtain ⟨hg, hdst, hrun⟩ := nextOf_ok (P := X.c.P) N.at_ hpq hnx hb
      refine wpList_step fun KK hKK => ?_
      rw [if_pos (by simp [Region.wanted, hg])]
      rcases hrun with ⟨hl, hr, hs⟩ | ⟨j, hj, k, v, w', hr, hs, he⟩
      · rw [hl] at h
        have h : opsK X.c rec X.fn.ntmps X.pre ops.toList st0 (i + 1) os ((st.setH q' (some (.it t mo (overM ns)))).set d (.tup [.d (.bool false)])) K = some r := h
        unfold Oper.wp
        rw [hr]
        show KK (a.put o.dst _) _
        rw [hdst]
        refine hKK _ _ ?_
        exact opsK_sound hn hg0 hrec os (i + 1) h (N.put (dst := some d) hd (vv := .tup [.d (.bool false)]) (v := .tuple #[.bool false]) (st1 := st.setH q' (some (.it t mo (overM ns)))) hpq hs (Agree.refl _ g).w (Ext.refl g w) ⟨_, rfl, .cons rfl .nil⟩ (fun x hx => by
          rcases List.mem_cons.1 hx with rfl | hx
          · trivial
          · cases hx) rfl rfl) hst hK'
      · have h : opsK X.c rec X.fn.ntmps X.pre ops.toList st0 (i + 1) os ((st.setH q' (some (.it t mo (stepM ns j)))).set d (.tup [.d (.bool true), .top, .top])) K = some r := by
          rcases pickL_some h with ⟨e, _⟩ | h
          · rw [e] at hj; cases hj
          · exact h j hj
        unfold Oper.wp
        rw [hr]
        show KK (a.put o.dst _) _
        rw [hdst]
        refine hKK _ _ ?_
        exact opsK_sound hn hg0 hrec os (i + 1) h (N.put (dst := some d) hd (vv := .tup [.d (.bool true), .top, .top]) (v := .tuple #[.bool true, k, v]) (st1 := st.setH q' (some (.it t mo (stepM ns j)))) hpq hs (Agree.refl _ g).w he ⟨_, rfl, .cons rfl (.cons (trivial : VD _ .top _) (.cons (trivial : VD _ .top _) .nil))⟩ (fun x hx => by
          simp only [List.mem_cons, List.not_mem_nil, or_false] at hx
          rcases hx with rfl | rfl | rfl <;> trivial) rfl rfl) hst hK'
    split at h
    · rename_i hg
      exact on (by simp [Region.wanted, hg]) h
    · rename_i j want hg
      split at h
      · cases h
      · rename_i d hd
        rw [Array.getElem?_toList] at hd
        have htm := N.at_.tm d
        split at h
        · rename_i he
          rw [he] at htm
          exact off (by simp [Region.wanted, hg, yielded_und hd htm]) h
        · rename_i b he
          rw [he] at htm
          have hy := yielded_of hd (VV_bool htm)
          cases b with
          | true =>
            simp only [cond_true] at h
            rw [set_self he] at h
            cases want with
            | true => exact on (by simp [Region.wanted, hg, hy]) h
            | false => exact off (by simp [Region.wanted, hg, hy]) h
          | false =>
            simp only [cond_false] at h
            rw [set_self he] at h
            cases want with
            | true => exact off (by simp [Region.wanted, hg, hy]) h
            | false => exact on (by simp [Region.wanted, hg, hy]) h
        · cases h
theorem widenCells_ok {u : Nat → Option Obj} {sel : Nat → Bool} {cs : List V} {m : Nat} {g : G} {h : Nat → Option Ob} {vals : List Value} (S : SimH u (· < m) g h w) (hF : F2 (VA g) cs vals) (hu : ∀ c ∈ cs, c.usesA (· < m)) :
    ∃ g', Agree (· < m) g g' ∧ g'.h = g.h ∧ g'.blk = g.blk ∧ F2 (VA g') (widenCells sel cs m).1 vals ∧ (∀ c ∈ (widenCells sel cs m).1, c.usesA (· < (widenCells sel cs m).2.2)) ∧ m ≤ (widenCells sel cs m).2.2 ∧
      (∀ e ∈ (widenCells sel cs m).2.1, m ≤ e.1) ∧ SimH u (· < (widenCells sel cs m).2.2) g' (putObs h (widenCells sel cs m).2.1) w := by
  have S0 : SimH u (fun x => x < m ∨ (m ≤ x ∧ x < m)) g h w := ⟨S.frz, S.unt, S.ob, S.sep, S.inj, fun o x ho => ⟨.inl (S.use o x ho).1, (S.use o x ho).2.mono fun x hx => .inl hx⟩, S.dj⟩
  obtain ⟨g', a1, a2, a3, a4, a5, a6, a7, a8⟩ := widenCells_gen (sel := sel) (Nat.le_refl m) (fun x h1 _ => by omega) S0 hF (fun y hy => (hu y hy).mono fun x hx => .inl hx)
  have back : ∀ x, (x < m ∨ (m ≤ x ∧ x < (widenCells sel cs m).2.2)) → x < (widenCells sel cs m).2.2 := fun x hx => by omega
  exact ⟨g', ⟨a1.h, fun o ho => a1.blk o (.inl ho), fun o ho => a1.hdr o (.inl ho), fun o ho => a1.ihdr o (.inl ho)⟩, a2, a3, a4, fun y hy => (a5 y hy).mono back, a6, fun e he => (a7 e he).1, ⟨a8.frz, a8.unt, a8.ob, a8.sep, a8.inj, fun o x ho => ⟨back o (a8.use o x ho).1, (a8.use o x ho).2.mono back⟩, a8.dj⟩⟩
theorem widenObs_ok : ∀ (os : List Nat) {st : St} {g : G}, SimH X.u (· < st.n) g st.h w → ∃ g', Agree (· < st.n) g g' ∧ g'.h = g.h ∧ st.n ≤ (widenObs os st).n ∧ SimH X.u (· < (widenObs os st).n) g' (widenObs os st).h w ∧ (widenObs os st).t = st.t
  | [], st, g, S => ⟨g, Agree.refl _ g, rfl, Nat.le_refl _, S, rfl⟩
  | o :: os, st, g, S => by
    simp only [widenObs]
    split
    · rename_i c cs ho
      obtain ⟨cc, ee, k1, k2, k3, k4⟩ := S.ob _ _ ho
      obtain ⟨g1, a1, a2, a3, a4, a5, a6, a7, a8⟩ := widenCells_ok S k2 (S.use _ _ ho).2
      have hon : o < st.n := (S.use _ _ ho).1
      have hnew : ∀ e ∈ (widenCells (fun _ => true) (c :: cs) st.n).2.1, e.1 ≠ o := fun e he => by have := a7 e he; omega
      have hb1 : w.heap[g1.blk o]? = some (.cells cc ee (0, 0)) := by rw [a3]; exact k1
      have hset := setRow_self w (g1.blk o) cc ee (0, 0) hb1
      have S2 := var_update (h' := putObs (fun x => bif Nat.beq x o then some (.var (widenCells (fun _ => true) (c :: cs) st.n).1) else st.h x) (widenCells (fun _ => true) (c :: cs) st.n).2.1) (c' := cc) a8 (by rw [putObs_not hnew]; exact ho) hb1 a4 k3 a5 (fun t o' f hm => k4 t o' f (widenCells_bp hm)) (fun x => by
        rw [putObs_comm x hnew]
        by_cases e : x = o
        · rw [if_pos e, beq_iff.2 e]; rfl
        · rw [if_neg e, beq_false e]; rfl)
      rw [hset] at S2
      obtain ⟨g2, b1, b2, b3, b4, b5⟩ := widenObs_ok os (st := { st with h := putObs (fun x => bif Nat.beq x o then some (.var (widenCells (fun _ => true) (c :: cs) st.n).1) else st.h x) (widenCells (fun _ => true) (c :: cs) st.n).2.1, m := ⟨(widenCells (fun _ => true) (c :: cs) st.n).2.2, st.m.df⟩ }) S2
      have hle : ∀ x, x < st.n → x < (widenCells (fun _ => true) (c :: cs) st.n).2.2 := fun x hx => Nat.lt_of_lt_of_le hx a6
      exact ⟨g2, ⟨fun b x k => b1.h b x (a1.h b x k), fun x hx => (b1.blk x (hle x hx)).trans (a1.blk x hx), fun x hx => (b1.hdr x (hle x hx)).trans (a1.hdr x hx), fun x hx => (b1.ihdr x (hle x hx)).trans (a1.ihdr x hx)⟩, b2.trans a2, Nat.le_trans a6 b3, b4, b5⟩
    · exact widenObs_ok os S
theorem widenObs_df : ∀ (os : List Nat) (st : St), (widenObs os st).m.df = st.m.df
  | [], _ => rfl
  | o :: os, st => by
    simp only [widenObs]
    split
    · rw [widenObs_df os]
    · exact widenObs_df os st
theorem widenObs_now (N : Now X (· < st.n) g st a w) (os : List Nat) : ∃ g', Now X (· < (widenObs os st).n) g' (widenObs os st) a w := by
  obtain ⟨g', a1, a2, a3, a4, a5⟩ := widenObs_ok (X := X) os N.at_.hp
  have hle : ∀ x, x < st.n → x < (widenObs os st).n := fun x hx => Nat.lt_of_lt_of_le hx a3
  have hdf : (widenObs os st).m.df = st.m.df := widenObs_df _ st
  refine ⟨g', ⟨a4, fun t => ?_, fun t => ?_⟩, N.size, (by rw [hdf]; exact N.def_), N.ext.trans ⟨a1.h, rfl, rfl, rfl, Nat.le_refl _⟩, N.keep.agree a1 N.pre, fun l o h => hle _ (N.pre l o h)⟩
  · show VV g' ((widenObs _ st).t t) _
    rw [a5]
    exact (N.at_.tm t).agree a1 (N.at_.nm t)
  · show ((widenObs _ st).t t).uses _
    rw [a5]
    exact (N.at_.nm t).mono hle
theorem widen_ok (N : Now X (· < st.n) g st a w) (pre keep : List Nat) : ∃ g', Now X (· < (widen X.c.dep st pre keep).n) g' (widen X.c.dep st pre keep) a w := widenObs_now N _
theorem conf_now (N : Now X (· < st.n) g st a w) (hid : ∀ l o, lookN X.pre l = some o → o = l) {sk : Sk} {cf : Cf} (hc : conf sk X.pre st = some cf) :
    ∃ g', Now X (· < sk.objs.length) g' ((injectE E0 sk cf.ds).later st.m.df) a w := by
  have hone : OneR X.pre := fun l l' o h h' => by rw [← hid l o h, ← hid l' o h']
  obtain ⟨gF, M⟩ := conf_sound (tm := fun t => a.tmps.getD t undef) hc N.at_.hp N.at_.tm N.at_.nm hone
  refine ⟨gOf g gF cf.ren, ⟨M.sim N.at_.hp, M.tm, M.nm⟩, N.size, N.def_, N.ext.trans ⟨M.a.h, rfl, rfl, rfl, Nat.le_refl _⟩, fun l o h => ?_, fun l o h => (M.lt l o (M.pre l o h)).2⟩
  have h1 := M.pre l o h
  have h2 := hid l o h
  subst h2
  obtain ⟨k1, k2⟩ := N.keep o o h
  exact ⟨by simp only [gOf, h1, Option.getD_some]; exact k1, by simp only [gOf, h1, Option.getD_some]; exact k2⟩
theorem exp_now {sk : Sk} {ds : List D} {df : List (Nat × List (Nat × Nat))} (N : Now X (· < sk.objs.length) g ((injectE E0 sk ds).later df) a w) (hc : chk sk ds = true) : Now X (· < ((inject sk ds).later df).n) g ((inject sk ds).later df) a w := by
  obtain ⟨h1, h2⟩ := exp_sim (tm := fun t => a.tmps.getD t undef) hc N.at_.hp (fun t => ⟨N.at_.tm t, N.at_.nm t⟩)
  exact ⟨⟨h1, fun t => (h2 t).1, fun t => (h2 t).2⟩, N.size, N.def_, N.ext, N.keep, N.pre⟩
end
end Go.AE
namespace Go.AE
open Go.RowKit
theorem memN_iff {x : Nat} {xs : List Nat} : memN x xs = true ↔ x ∈ xs := by
  unfold memN
  rw [List.any_eq_true]
  exact ⟨fun ⟨y, h1, h2⟩ => by rw [beq_iff.1 h2]; exact h1, fun h => ⟨x, h, beq_iff.2 rfl⟩⟩
theorem memN_false {x : Nat} {xs : List Nat} : memN x xs = false ↔ x ∉ xs := by
  rw [← memN_iff]; simp
theorem inIds_iff {nid x : Nat} : inIds nid x = true ↔ nid ≤ x ∧ x < nid + 32 := by
  unfold inIds
  rw [Bool.and_eq_true]
  constructor
  · rintro ⟨h1, h2⟩
    have h2 : Nat.ble (x + 1) (nid + 32) = true := h2
    exact ⟨Nat.le_of_ble_eq_true h1, Nat.le_of_ble_eq_true h2⟩
  · rintro ⟨h1, h2⟩
    exact ⟨Nat.ble_eq_true_of_le h1, (Nat.ble_eq_true_of_le h2 : Nat.ble (x + 1) (nid + 32) = true)⟩
theorem mem_addNew : ∀ {ys xs : List Nat} {x : Nat}, x ∈ addNew xs ys → x ∈ xs ∨ x ∈ ys
  | [], _, _, h => .inl h
  | o :: os, xs, x, h => by
    simp only [addNew] at h
    rcases mem_addNew h with h | h
    · cases hb : xs.any (Nat.beq o) with
      | true => rw [hb] at h; exact .inl h
      | false =>
        rw [hb] at h
        simp only [cond_false] at h
        rcases List.mem_append.1 h with h | h
        · exact .inl h
        · simp at h; subst h; exact .inr (by simp)
    · exact .inr (by simp [h])
theorem mem_ancOf {ancs : List (List Nat)} : ∀ {es : List Edge} {j : Nat}, j ∈ ancOf ancs es → ∃ e ∈ es, bindsAny e = true ∧ (j = e.on ∨ j ∈ (ancs[e.on]?).getD [])
  | [], _, h => by cases h
  | e :: es, j, h => by
    simp only [ancOf] at h
    cases hb : bindsAny e with
    | false =>
      rw [hb] at h
      obtain ⟨e', h1, h2⟩ := mem_ancOf (es := es) h
      exact ⟨e', by simp [h1], h2⟩
    | true =>
      rw [hb] at h
      simp only [cond_true] at h
      rcases mem_addNew h with h | h
      · rcases mem_addNew h with h | h
        · simp at h; exact ⟨e, by simp, hb, .inl h⟩
        · exact ⟨e, by simp, hb, .inr h⟩
      · obtain ⟨e', h1, h2⟩ := mem_ancOf (es := es) h
        exact ⟨e', by simp [h1], h2⟩
theorem binds_any (e : Edge) : Region.binds .any e = bindsAny e := by
  unfold Region.binds bindsAny
  cases e.ground <;> rfl
theorem edgesOk_lt {i : Nat} : ∀ {es : List Edge} {e : Edge}, edgesOk i es = true → e ∈ es → bindsAny e = true → e.on < i
  | [], _, _, h, _ => by cases h
  | e :: es, e', h, hm, hb => by
    simp only [edgesOk, Bool.and_eq_true] at h
    rcases List.mem_cons.1 hm with rfl | hm
    · have h1 := h.1
      rw [hb] at h1
      have h1 : Nat.blt e'.on i = true := by simpa only [Bool.not_true, Bool.false_or] using h1
      have h1 : Nat.ble (e'.on + 1) i = true := h1
      exact Nat.le_of_ble_eq_true h1
    · exact edgesOk_lt h.2 hm hb
theorem apartAll_at {st0 : Nat} {anc : List Nat} {b : Foot} : ∀ {fs : List Foot} {j0 : Nat}, apartAll st0 anc b j0 fs = true → ∀ k a, fs[k]? = some a → j0 + k ∈ anc ∨ clash (st0 + 32 * (j0 + k)) a b = false
  | [], _, _, k, a, h => by simp at h
  | f :: fs, j0, h, k, a, hk => by
    simp only [apartAll, Bool.and_eq_true] at h
    cases k with
    | zero =>
      simp only [List.getElem?_cons_zero, Option.some.injEq] at hk
      subst hk
      have h1 := h.1
      rw [Bool.or_eq_true] at h1
      rcases h1 with h1 | h1
      · exact .inl (memN_iff.1 h1)
      · exact .inr (by simpa using h1)
    | succ k =>
      have := apartAll_at h.2 k a (by simpa using hk)
      rw [show j0 + 1 + k = j0 + (k + 1) by omega] at this
      exact this
section
variable {c : Cfg} {rec : Task → Out} {nt st0 : Nat} {all : List Oper}
structure StepD (c : Cfg) (rec : Task → Out) (all : List Oper) (st0 i : Nat) (o : Oper) (st : St) (on : Bool) (v : V) (st' : St) (ft : Foot) : Prop where
  t : st'.t = (st.put o.dst v).t
  n : st'.m = st.m
  dst : ft.dst = o.dst
  guard : ∀ j want, o.guard = some (j, want) → ∃ d, (all[j]?).bind (·.dst) = some d ∧ d ∈ ft.temps ∧ ((st.t d = .d .und ∧ on = false) ∨ ∃ b, st.t d = .d (.bool b) ∧ on = (b == want))
  free : o.guard = none → on = true
  yes : on = true → ∃ st1, (∀ t ∈ tempsOf o.op.operands.toList, t ∈ ft.temps) ∧ ft.writes = (bif isRO o.op then [] else ft.objs) ∧ (∀ x ∈ ft.objs, x < st0 + 32 * i) ∧
    opK c rec o (st0 + 32 * i) (restr (tempsOf o.op.operands.toList) ft.objs st) (fun v s => some (v, s)) = some (v, st1) ∧ st'.h = joinH ft.objs (st0 + 32 * i) st.h st1.h
  no : on = false → v = .d .und ∧ st'.h = st.h
structure GoodD (c : Cfg) (rec : Task → Out) (nt : Nat) (all : List Oper) (st0 i : Nat) (o : Oper) (s : Nat → St) (v : Nat → V) (ft : Nat → Foot) (an : Nat → List Nat) (on : Nat → Bool) : Prop where
  okd : (match o.dst with | some d => Nat.blt d nt | none => true) = true
  edges : ∀ e ∈ o.after.toList, bindsAny e = true → e.on < i
  anc : ∀ j ∈ an i, ∃ e ∈ o.after.toList, bindsAny e = true ∧ (j = e.on ∨ j ∈ an e.on)
  apart : ∀ j, j < i → j ∈ an i ∨ clash (st0 + 32 * j) (ft j) (ft i) = false
  held : on i = true → ∀ j q off u, j < i → (ft j).ld = some (q, off, u) → j ∈ an i ∨ q ∉ (ft i).writes ∨ vsame (cellV (s (i + 1)).h q off) u = true
  ldok : ∀ q off u, (ft i).ld = some (q, off, u) → on i = true ∧ u = v i ∧ ldOf c.P (s i) o = some (q, off)
  step : StepD c rec all st0 i o (s i) (on i) (v i) (s (i + 1)) (ft i)
def ovr {α : Type} (f : Nat → α) (i : Nat) (x : α) : Nat → α := fun k => if k = i then x else f k
theorem ovr_self {α : Type} (f : Nat → α) (i : Nat) (x : α) : ovr f i x i = x := by simp [ovr]
theorem ovr_ne {α : Type} (f : Nat → α) {i k : Nat} (x : α) (h : k ≠ i) : ovr f i x k = f k := by simp [ovr, h]
theorem steady_at {h : Nat → Option Ob} {anc : List Nat} {b : Foot} : ∀ {fs : List Foot} {j0 : Nat}, steady h anc b j0 fs = true → ∀ k a, fs[k]? = some a → ∀ q off u, a.ld = some (q, off, u) → j0 + k ∈ anc ∨ q ∉ b.writes ∨ vsame (cellV h q off) u = true
  | [], _, _, k, a, hk => by simp at hk
  | f :: fs, j0, hs, k, a, hk => by
    intro q off u hl
    simp only [steady, Bool.and_eq_true] at hs
    cases k with
    | zero =>
      simp only [List.getElem?_cons_zero, Option.some.injEq] at hk
      subst hk
      have h1 := hs.1
      rw [hl] at h1
      simp only [] at h1
      cases hm : memN j0 anc with
      | true => exact .inl (memN_iff.1 hm)
      | false =>
        cases hw : memN q b.writes with
        | false => exact .inr (.inl (memN_false.1 hw))
        | true => rw [hm, hw] at h1; exact .inr (.inr h1)
    | succ k =>
      have := steady_at hs.2 k a (by simpa using hk) q off u hl
      rw [show j0 + 1 + k = j0 + (k + 1) by omega] at this
      exact this
theorem apartAll_ld {anc : List Nat} {T : List Nat} {d : Option Nat} {F W : List Nat} {x y : Option (Nat × Nat × V)} : ∀ {fs : List Foot} {j : Nat}, apartAll st0 anc ⟨T, d, F, W, x⟩ j fs = apartAll st0 anc ⟨T, d, F, W, y⟩ j fs
  | [], _ => rfl
  | f :: fs, j => by
    show (_ && apartAll st0 anc _ (j + 1) fs) = (_ && apartAll st0 anc _ (j + 1) fs)
    rw [apartAll_ld (x := x) (y := y) (fs := fs)]
    rfl
theorem steady_ld {h : Nat → Option Ob} {anc : List Nat} {T : List Nat} {d : Option Nat} {F W : List Nat} {x y : Option (Nat × Nat × V)} : ∀ {fs : List Foot} {j : Nat}, steady h anc ⟨T, d, F, W, x⟩ j fs = steady h anc ⟨T, d, F, W, y⟩ j fs
  | [], _ => rfl
  | f :: fs, j => by
    show (_ && steady h anc _ (j + 1) fs) = (_ && steady h anc _ (j + 1) fs)
    rw [steady_ld (x := x) (y := y) (fs := fs)]
theorem drawK_spec {r : Bool × List D} {K : St → Out} : ∀ (os : List Oper) (i : Nat) (fs : List Foot) (ancs : List (List Nat)) (st : St), fs.length = i → ancs.length = i → drawK c rec nt all st0 i os fs ancs st K = some r →
    ∃ (s : Nat → St) (v : Nat → V) (ft : Nat → Foot) (an : Nat → List Nat) (on : Nat → Bool), s i = st ∧ (∀ j, j < i → fs[j]? = some (ft j)) ∧ (∀ j, j < i → ancs[j]? = some (an j)) ∧
      (∀ k o, os[k]? = some o → GoodD c rec nt all st0 (i + k) o s v ft an on) ∧ K (s (i + os.length)) = some r
  | [], i, fs, ancs, st, hf, ha, h => by
    refine ⟨fun _ => st, fun _ => .top, fun j => (fs[j]?).getD ⟨[], none, [], [], none⟩, fun j => (ancs[j]?).getD [], fun _ => true, rfl, fun j hj => ?_, fun j hj => ?_, fun k o hk => by simp at hk, h⟩
    · show fs[j]? = some ((fs[j]?).getD _)
      rw [List.getElem?_eq_getElem (by omega)]; rfl
    · show ancs[j]? = some ((ancs[j]?).getD _)
      rw [List.getElem?_eq_getElem (by omega)]; rfl
  | o :: os, i, fs, ancs, st, hf, ha, h => by
    have go : ∀ (onb : Bool) (v0 : V) (st' : St) (f0 : Foot), (match o.dst with | some d => Nat.blt d nt | none => true) = true → edgesOk i o.after.toList = true → apartAll st0 (ancOf ancs o.after.toList) f0 0 fs = true →
        (onb = true → steady st'.h (ancOf ancs o.after.toList) f0 0 fs = true) → (∀ q off u, f0.ld = some (q, off, u) → onb = true ∧ u = v0 ∧ ldOf c.P st o = some (q, off)) → StepD c rec all st0 i o st onb v0 st' f0 → drawK c rec nt all st0 (i + 1) os (fs ++ [f0]) (ancs ++ [ancOf ancs o.after.toList]) st' K = some r →
        ∃ (s : Nat → St) (v : Nat → V) (ft : Nat → Foot) (an : Nat → List Nat) (on : Nat → Bool), s i = st ∧ (∀ j, j < i → fs[j]? = some (ft j)) ∧ (∀ j, j < i → ancs[j]? = some (an j)) ∧
      (∀ k o', (o :: os)[k]? = some o' → GoodD c rec nt all st0 (i + k) o' s v ft an on) ∧ K (s (i + (o :: os).length)) = some r := by
      intro onb v0 st' f0 h1 h2 h3 h6 h7 h4 h5
      obtain ⟨s, v, ft, an, on, e1, e2, e3, e4, e5⟩ := drawK_spec os (i + 1) (fs ++ [f0]) (ancs ++ [ancOf ancs o.after.toList]) st' (by simp [hf]) (by simp [ha]) h5
      have ef : ft i = f0 := by
        have := e2 i (by omega)
        rw [List.getElem?_append_right (by omega), hf] at this
        simpa using this.symm
      have ea : an i = ancOf ancs o.after.toList := by
        have := e3 i (by omega)
        rw [List.getElem?_append_right (by omega), ha] at this
        simpa using this.symm
      have e2' : ∀ j, j < i → fs[j]? = some (ft j) := fun j hj => by
        have := e2 j (by omega)
        rwa [List.getElem?_append_left (by omega)] at this
      have e3' : ∀ j, j < i → ancs[j]? = some (an j) := fun j hj => by
        have := e3 j (by omega)
        rwa [List.getElem?_append_left (by omega)] at this
      refine ⟨ovr s i st, ovr v i v0, ft, an, ovr on i onb, ovr_self _ _ _, e2', e3', fun k o' hk => ?_, ?_⟩
      · cases k with
        | zero =>
          simp only [List.getElem?_cons_zero, Option.some.injEq] at hk
          subst hk
          refine ⟨h1, fun e he hb => edgesOk_lt h2 he hb, fun j hj => ?_, fun j hj => ?_, ?_, ?_, ?_⟩
          · rw [Nat.add_zero, ea] at hj
            obtain ⟨e, k1, k2, k3⟩ := mem_ancOf hj
            refine ⟨e, k1, k2, k3.imp id fun k3 => ?_⟩
            have hlt := edgesOk_lt h2 k1 k2
            rw [e3' e.on hlt] at k3
            exact k3
          · rw [Nat.add_zero] at hj ⊢
            have := apartAll_at h3 j (ft j) (e2' j hj)
            rw [Nat.zero_add] at this
            rw [ea, ef]; exact this
          · rw [Nat.add_zero, ovr_self, ovr_ne _ _ (by omega), e1, ea, ef]
            intro ho j q off u hj hl
            have := steady_at (h6 ho) j (ft j) (e2' j hj) q off u hl
            rw [Nat.zero_add] at this
            exact this
          · rw [Nat.add_zero, ovr_self, ovr_self, ovr_self, ef]
            exact h7
          · rw [Nat.add_zero, ovr_self, ovr_self, ovr_self, ovr_ne _ _ (by omega), e1, ef]; exact h4
        | succ k =>
          have := e4 k o' (by simpa using hk)
          rw [show i + 1 + k = i + (k + 1) by omega] at this
          refine ⟨this.okd, this.edges, this.anc, this.apart, ?_, ?_, ?_⟩
          · rw [ovr_ne _ _ (by omega), ovr_ne _ _ (by omega)]
            exact this.held
          · rw [ovr_ne _ _ (by omega), ovr_ne _ _ (by omega), ovr_ne _ _ (by omega)]
            exact this.ldok
          · rw [ovr_ne _ _ (by omega), ovr_ne _ _ (by omega), ovr_ne _ _ (by omega), ovr_ne _ _ (by omega)]
            exact this.step
      · rw [show i + (o :: os).length = i + 1 + os.length by simp; omega, ovr_ne _ _ (by omega)]
        exact e5
    have fin : ∀ (G : List Nat) (onb : Bool), (∀ j want, o.guard = some (j, want) → ∃ d, (all[j]?).bind (·.dst) = some d ∧ d ∈ G ∧ ((st.t d = .d .und ∧ onb = false) ∨ ∃ b, st.t d = .d (.bool b) ∧ onb = (b == want))) → (o.guard = none → onb = true) →
        (onb = true → (bif (match o.dst with | some d => Nat.blt d nt | none => true) && edgesOk i o.after.toList && apartAll st0 (ancOf ancs o.after.toList) ⟨tempsOf o.op.operands.toList ++ G, o.dst, given c.dep st o, bif isRO o.op then [] else given c.dep st o, none⟩ 0 fs && (given c.dep st o).all (fun x => Nat.blt x (st0 + 32 * i)) then
          opK c rec o (st0 + 32 * i) (restr (tempsOf o.op.operands.toList) (given c.dep st o) st) fun v st' => bif steady (joinH (given c.dep st o) (st0 + 32 * i) st.h st'.h) (ancOf ancs o.after.toList) ⟨tempsOf o.op.operands.toList ++ G, o.dst, given c.dep st o, bif isRO o.op then [] else given c.dep st o, none⟩ 0 fs then drawK c rec nt all st0 (i + 1) os (fs ++ [{ (⟨tempsOf o.op.operands.toList ++ G, o.dst, given c.dep st o, bif isRO o.op then [] else given c.dep st o, none⟩ : Foot) with ld := (ldOf c.P st o).map fun p => (p.1, p.2, v) }]) (ancs ++ [ancOf ancs o.after.toList]) { st.put o.dst v with h := joinH (given c.dep st o) (st0 + 32 * i) st.h st'.h } K else none
          else none) = some r) →
        (onb = false → (bif (match o.dst with | some d => Nat.blt d nt | none => true) && edgesOk i o.after.toList && apartAll st0 (ancOf ancs o.after.toList) ⟨G, o.dst, [], [], none⟩ 0 fs then drawK c rec nt all st0 (i + 1) os (fs ++ [⟨G, o.dst, [], [], none⟩]) (ancs ++ [ancOf ancs o.after.toList]) (st.put o.dst (.d .und)) K else none) = some r) →
        ∃ (s : Nat → St) (v : Nat → V) (ft : Nat → Foot) (an : Nat → List Nat) (on : Nat → Bool), s i = st ∧ (∀ j, j < i → fs[j]? = some (ft j)) ∧ (∀ j, j < i → ancs[j]? = some (an j)) ∧
      (∀ k o', (o :: os)[k]? = some o' → GoodD c rec nt all st0 (i + k) o' s v ft an on) ∧ K (s (i + (o :: os).length)) = some r := by
      intro G onb hg hfree hon hoff
      cases onb with
      | true =>
        obtain ⟨hc, h⟩ := bif_some (hon rfl)
        simp only [Bool.and_eq_true] at hc
        obtain ⟨⟨⟨h1, h2⟩, h3⟩, h4⟩ := hc
        rw [opK_par] at h
        obtain ⟨⟨v0, st1⟩, k1, k2⟩ := bindSome h
        simp only [] at k2
        obtain ⟨k3, k2⟩ := bif_some k2
        refine go true v0 { st.put o.dst v0 with h := joinH (given c.dep st o) (st0 + 32 * i) st.h st1.h } ⟨tempsOf o.op.operands.toList ++ G, o.dst, given c.dep st o, bif isRO o.op then [] else given c.dep st o, (ldOf c.P st o).map fun p => (p.1, p.2, v0)⟩ h1 h2 (by rw [apartAll_ld (y := none)]; exact h3) (fun _ => by rw [steady_ld (y := none)]; exact k3) (fun q off u hl => ?_) ⟨rfl, ?_, rfl, fun j want hj => ?_, fun _ => rfl, fun _ => ⟨st1, fun t ht => ?_, rfl, fun x hx => ?_, k1, rfl⟩, fun hb => by cases hb⟩ k2
        · cases hq : ldOf c.P st o with
          | none => simp only [hq, Option.map_none] at hl; cases hl
          | some p => simp only [hq, Option.map_some, Option.some.injEq, Prod.mk.injEq] at hl; obtain ⟨rfl, rfl, rfl⟩ := hl; exact ⟨rfl, rfl, rfl⟩
        · cases o.dst <;> rfl
        · obtain ⟨d, a1, a2, a3⟩ := hg j want hj
          exact ⟨d, a1, by simp [a2], a3⟩
        · simp [ht]
        · have := List.all_eq_true.1 h4 x hx
          have : Nat.ble (x + 1) (st0 + 32 * i) = true := this
          exact Nat.le_of_ble_eq_true this
      | false =>
        obtain ⟨hc, h⟩ := bif_some (hoff rfl)
        simp only [Bool.and_eq_true] at hc
        obtain ⟨⟨h1, h2⟩, h3⟩ := hc
        refine go false (.d .und) _ _ h1 h2 h3 (fun hb => by cases hb) (fun q off u hl => by cases hl) ⟨rfl, ?_, rfl, hg, fun hn => (by cases hfree hn), fun hb => (by cases hb), fun _ => ⟨rfl, ?_⟩⟩ h
        · cases o.dst <;> rfl
        · cases o.dst <;> rfl
    simp only [drawK] at h
    split at h
    · rename_i hg
      exact fin [] true (fun j want hj => by rw [hg] at hj; cases hj) (fun _ => rfl) (fun _ => h) (fun hb => by cases hb)
    · rename_i j want hg
      split at h
      · cases h
      · rename_i d hd
        have hd' : (all[j]?).bind (·.dst) = some d := hd
        simp only [hd'] at h
        split at h
        · rename_i he
          exact fin [d] false (fun j' want' hj => by rw [hg] at hj; cases hj; exact ⟨d, hd', by simp, .inl ⟨he, rfl⟩⟩) (fun hn => by rw [hg] at hn; cases hn) (fun hb => by cases hb) (fun _ => h)
        · rename_i b he
          have hgd : ∀ onb, onb = (b == want) → ∀ j' want', o.guard = some (j', want') → ∃ d, (all[j']?).bind (·.dst) = some d ∧ d ∈ [d] ∧ ((st.t d = .d .und ∧ onb = false) ∨ ∃ b, st.t d = .d (.bool b) ∧ onb = (b == want')) := by
            intro onb ho j' want' hj
            rw [hg] at hj; cases hj
            exact ⟨d, hd', by simp, .inr ⟨b, he, ho⟩⟩
          have hgd' : ∀ onb, onb = (b == want) → ∀ j' want', o.guard = some (j', want') → ∃ d', (all[j']?).bind (·.dst) = some d' ∧ d' ∈ [d] ∧ ((st.t d' = .d .und ∧ onb = false) ∨ ∃ b, st.t d' = .d (.bool b) ∧ onb = (b == want')) := by
            intro onb ho j' want' hj
            rw [hg] at hj; cases hj
            exact ⟨d, hd', by simp, .inr ⟨b, he, ho⟩⟩
          have hnn : ∀ onb : Bool, o.guard = none → onb = true := fun _ hn => by rw [hg] at hn; cases hn
          cases b with
          | true =>
            simp only [cond_true] at h
            rw [set_self he] at h
            cases want with
            | true => simp only [cond_true] at h; exact fin [d] true (hgd' true rfl) (hnn _) (fun _ => h) (fun hb => by cases hb)
            | false => simp only [cond_false] at h; exact fin [d] false (hgd' false rfl) (hnn _) (fun hb => by cases hb) (fun _ => h)
          | false =>
            simp only [cond_false] at h
            rw [set_self he] at h
            cases want with
            | true => simp only [cond_true] at h; exact fin [d] false (hgd' false rfl) (hnn _) (fun hb => by cases hb) (fun _ => h)
            | false => simp only [cond_false] at h; exact fin [d] true (hgd' true rfl) (hnn _) (fun _ => h) (fun hb => by cases hb)
        · cases h
end
end Go.AE
namespace Go.AE
open Go.RowKit
section
variable {X : FX} {rec : Task → Out} {ops : Array Oper} {st0 : Nat} {s : Nat → St} {v : Nat → V} {ft : Nat → Foot} {an : Nat → List Nat} {on : Nat → Bool} {L : Nat → Bool} {Q : Exit → Act → World → Prop}
def wtD (ft : Nat → Foot) (i t : Nat) : Bool := match (ft i).dst with | some d => Nat.beq t d | none => false
def whD (st0 : Nat) (ft : Nat → Foot) (on : Nat → Bool) (i x : Nat) : Bool := on i && (memN x (ft i).writes || inIds (st0 + 32 * i) x)
def ST (st0 : Nat) (s : Nat → St) (v : Nat → V) (ft : Nat → Foot) (on : Nat → Bool) (n : Nat) (L : Nat → Bool) : St :=
  ⟨foldW (s 0).t (wtD ft) (fun i _ => v i) L n, foldW (s 0).h (whD st0 ft on) (fun i x => (s (i + 1)).h x) L n, (s 0).m⟩
structure AllD (X : FX) (rec : Task → Out) (ops : Array Oper) (st0 : Nat) (s : Nat → St) (v : Nat → V) (ft : Nat → Foot) (an : Nat → List Nat) (on : Nat → Bool) : Prop where
  n : (s 0).n = st0
  good : ∀ i o, ops[i]? = some o → GoodD X.c rec X.fn.ntmps ops.toList st0 i o s v ft an on
theorem put_m (st : St) (d : Option Tmp) (x : V) : (st.put d x).m = st.m := by cases d <;> rfl
theorem put_t (st : St) (d : Option Tmp) (x : V) (t : Nat) : (st.put d x).t t = if d = some t then x else st.t t := by
  cases d with
  | none => simp [St.put]
  | some d =>
    show (st.set d x).t t = _
    rw [set_t]
    by_cases e : t = d
    · subst e; simp
    · rw [if_neg e, if_neg (by intro h; cases h; exact e rfl)]
theorem AllD.text (A : AllD X rec ops st0 s v ft an on) : ∀ i, i ≤ ops.size → (s i).m = (s 0).m ∧ (∀ t, (s i).t t = foldW (s 0).t (wtD ft) (fun i _ => v i) (fun _ => true) i t) ∧
    (∀ x, (s i).h x = foldW (s 0).h (whD st0 ft on) (fun i x => (s (i + 1)).h x) (fun _ => true) i x)
  | 0, _ => ⟨rfl, fun _ => rfl, fun _ => rfl⟩
  | i + 1, hi => by
    obtain ⟨h0, h1, h2⟩ := A.text i (by omega)
    have G := A.good i ops[i] (Array.getElem?_eq_getElem (by omega))
    have S := G.step
    refine ⟨S.n.trans h0, fun t => ?_, fun x => ?_⟩
    · rw [S.t, put_t]
      simp only [foldW, Bool.true_and, wtD, S.dst]
      cases hd : ops[i].dst with
      | none => simp only [cond_false]; rw [← h1 t]; simp
      | some d =>
        by_cases e : t = d
        · subst e; rw [if_pos rfl]; simp only []; rw [beq_iff.2 rfl, cond_true]
        · simp only []; rw [beq_false e, cond_false, ← h1 t]
          rw [if_neg (by intro h; cases h; exact e rfl)]
    · simp only [foldW, Bool.true_and]
      cases hw : whD st0 ft on i x with
      | true => rfl
      | false =>
        rw [cond_false, ← h2 x]
        cases ho : on i with
        | false => rw [(S.no ho).2]
        | true =>
          obtain ⟨st1, k1, k2, k3, k4, k5⟩ := S.yes ho
          unfold whD at hw
          rw [ho, Bool.true_and, Bool.or_eq_false_iff] at hw
          rw [k5]
          unfold joinH
          rw [hw.2, Bool.or_false]
          cases hF : memN x (ft i).objs with
          | false => rfl
          | true =>
            rw [cond_true]
            cases hro : isRO ops[i].op with
            | false => rw [k2, hro, cond_false] at hw; rw [hw.1] at hF; cases hF
            | true =>
              have := opK_own hro k4 x (by rw [← inIds_iff]; rw [hw.2]; simp)
              rw [this]
              simp [restr, hF]
def Down (ops : Array Oper) (L : Nat → Bool) : Prop := ∀ i o, ops[i]? = some o → L i = true → ∀ e ∈ o.after.toList, bindsAny e = true → L e.on = true
theorem AllD.anc (A : AllD X rec ops st0 s v ft an on) (hd : Down ops L) : ∀ m i, i < m → i < ops.size → L i = true → ∀ j ∈ an i, L j = true
  | 0, i, h, _, _, _, _ => by omega
  | m + 1, i, h, hi, hL, j, hj => by
    have G := A.good i ops[i] (Array.getElem?_eq_getElem hi)
    obtain ⟨e, h1, h2, h3⟩ := G.anc j hj
    have hlt := G.edges e h1 h2
    have hLe := hd i ops[i] (Array.getElem?_eq_getElem hi) hL e h1 h2
    rcases h3 with rfl | h3
    · exact hLe
    · exact A.anc hd m e.on (by omega) (by omega) hLe j h3
theorem noclash {nid : Nat} {a b : Foot} (h : clash nid a b = false) :
    (∀ d, a.dst = some d → d ∉ b.temps) ∧ (∀ d, b.dst = some d → d ∉ a.temps) ∧ (∀ d, a.dst = some d → b.dst ≠ some d) ∧ (∀ x ∈ a.writes, x ∉ b.objs) ∧ (a.ld = none → ∀ x ∈ b.writes, x ∉ a.objs) ∧ (∀ x ∈ b.objs, inIds nid x = false) := by
  unfold clash at h
  simp only [Bool.or_eq_false_iff] at h
  obtain ⟨⟨⟨⟨⟨h1, h2⟩, h3⟩, h4⟩, h5⟩, h6⟩ := h
  have m : ∀ {xs ys : List Nat}, meets xs ys = false → ∀ x ∈ xs, x ∉ ys := by
    intro xs ys h x hx
    unfold meets at h
    have := List.any_eq_false.1 h x hx
    rw [memN_iff] at this
    exact this
  refine ⟨fun d hd => ?_, fun d hd => ?_, fun d hd hd' => ?_, m h4, fun hl => m (by rw [hl] at h5; simpa using h5), fun x hx => ?_⟩
  · unfold optMem at h1; rw [hd] at h1; exact memN_false.1 h1
  · unfold optMem at h2; rw [hd] at h2; exact memN_false.1 h2
  · rw [hd, hd'] at h3
    simp only [] at h3
    rw [beq_iff.2 rfl] at h3; cases h3
  · have := List.any_eq_false.1 h6 x hx
    simpa using this
mutual
theorem D.eq_eq : ∀ {x y : D}, D.eq x y = true → x = y
  | .top, y, h => by cases y <;> first | rfl | (simp [D.eq] at h)
  | .bool _, y, h => by cases y <;> simp [D.eq] at h; rw [h]
  | .int _ _, y, h => by cases y <;> simp [D.eq] at h; rw [h.1, h.2]
  | .str _, y, h => by cases y <;> simp [D.eq] at h; rw [h]
  | .lst _ xs, y, h => by
    cases y <;> simp only [D.eq, Bool.false_eq_true, Bool.and_eq_true] at h
    rw [Nat.eq_of_beq_eq_true h.1, D.eqs_eq h.2]
  | .nils _ _, y, h => by
    cases y <;> simp only [D.eq, Bool.false_eq_true, Bool.and_eq_true] at h
    rw [Nat.eq_of_beq_eq_true h.1, Nat.eq_of_beq_eq_true h.2]
  | .und, y, h => by cases y <;> first | rfl | (simp [D.eq] at h)
  | .agg xs, y, h => by
    cases y <;> simp only [D.eq, Bool.false_eq_true] at h
    rw [D.eqs_eq h]
  | .fn _, y, h => by
    cases y <;> simp only [D.eq, Bool.false_eq_true] at h
    rw [Nat.eq_of_beq_eq_true h]
  | .nilp, y, h => by cases y <;> first | rfl | (simp [D.eq] at h)
  | .nilf, y, h => by cases y <;> first | rfl | (simp [D.eq] at h)
  | .nilm, y, h => by cases y <;> first | rfl | (simp [D.eq] at h)
  | .nili, y, h => by cases y <;> first | rfl | (simp [D.eq] at h)
  | .ub, y, h => by cases y <;> first | rfl | (simp [D.eq] at h)
  | .iface _ x, y, h => by
    cases y <;> simp only [D.eq, Bool.false_eq_true, Bool.and_eq_true] at h
    rw [Nat.eq_of_beq_eq_true h.1, D.eq_eq h.2]
  | .meth _ _ x, y, h => by
    cases y <;> simp only [D.eq, Bool.false_eq_true, Bool.and_eq_true, beq_iff_eq] at h
    rw [Nat.eq_of_beq_eq_true h.1.1, h.1.2, D.eq_eq h.2]
theorem D.eqs_eq : ∀ {xs ys : List D}, D.eqs xs ys = true → xs = ys
  | [], ys, h => by cases ys <;> first | rfl | (simp [D.eqs] at h)
  | x :: xs, ys, h => by
    cases ys <;> simp only [D.eqs, Bool.false_eq_true, Bool.and_eq_true] at h
    rw [D.eq_eq h.1, D.eqs_eq h.2]
end
theorem vsame_eq {x y : V} (h : vsame x y = true) : x = y ∧ x ≠ .top := by
  unfold vsame at h
  split at h
  · rw [Nat.eq_of_beq_eq_true h]; exact ⟨rfl, fun e => by cases e⟩
  · rw [Bool.and_eq_true] at h; rw [Nat.eq_of_beq_eq_true h.1, Nat.eq_of_beq_eq_true h.2]; exact ⟨rfl, fun e => by cases e⟩
  · rw [Bool.and_eq_true] at h
    refine ⟨by rw [D.eq_eq h.2], fun e => ?_⟩
    cases e
    exact absurd h.1 (by simp)
  · cases h
theorem vsame_cell {h : Nat → Option Ob} {q off : Nat} {u : V} (hs : vsame (cellV h q off) u = true) : ∃ cs, h q = some (.var cs) ∧ cs[off]? = some u := by
  obtain ⟨h1, h2⟩ := vsame_eq hs
  unfold cellV at h1 h2
  split at h1
  · rename_i cs hcs
    refine ⟨cs, hcs, ?_⟩
    rw [hcs] at h2
    cases hc : cs[off]? with
    | none => simp only [hc, Option.getD_none] at h2; exact absurd rfl h2
    | some z => rw [hc] at h1; rw [← h1]; rfl
  · rename_i hne
    exfalso
    split at h2
    · rename_i cs hcs; exact hne cs hcs
    · exact h2 rfl
theorem ldOf_spec {P : Program} {st : St} {o : Oper} {q off : Nat} (h : ldOf P st o = some (q, off)) : ∃ t y, o.op = .load t (.tmp y) ∧ st.t y = .ptr q off ∧ isAggT P t = false := by
  unfold ldOf at h
  split at h
  · rename_i t y hop
    split at h
    · rename_i q' off' hty
      cases hag : isAggT P t with
      | true => rw [hag] at h; cases h
      | false => rw [hag] at h; cases h; exact ⟨t, y, hop, hty, hag⟩
    · cases h
  · cases h
theorem load_cell {c : Cfg} {rec : Task → Out} {o : Oper} {nid : Nat} {st st1 : St} {v : V} {t : TypeId} {y q off : Nat} (hop : o.op = .load t (.tmp y)) (hty : st.t y = .ptr q off) (hag : isAggT c.P t = false)
    (h : opK c rec o nid st (fun v s => some (v, s)) = some (v, st1)) : ∃ cs, st.h q = some (.var cs) ∧ cs[off]? = some v ∧ tOk c.P t = true ∧ st1 = st := by
  unfold opK at h
  rw [hop] at h
  simp only [evalV, hty, loadK, hag, cond_false] at h
  obtain ⟨ht, h⟩ := bif_none_some h
  split at h
  · rename_i cs hcs
    split at h
    · rename_i z hz
      rw [force_par] at h
      cases h
      exact ⟨cs, hcs, hz, by simpa using ht, rfl⟩
    · cases h
  · cases h
theorem load_again {c : Cfg} {rec : Task → Out} {o : Oper} {nid : Nat} {st : St} {v : V} {t : TypeId} {y q off : Nat} (hop : o.op = .load t (.tmp y)) (hty : st.t y = .ptr q off) (hag : isAggT c.P t = false) (htk : tOk c.P t = true)
    {cs : List V} (hcs : st.h q = some (.var cs)) (hv : cs[off]? = some v) : opK c rec o nid st (fun v s => some (v, s)) = some (v, st) := by
  unfold opK
  rw [hop]
  simp only [evalV, hty, loadK, hag, cond_false, htk, Bool.not_true, hcs, hv]
  rw [force_par]
theorem foldW_last {Rs Vl : Type} (m0 : Rs → Vl) (wr : Nat → Rs → Bool) (e : Nat → Rs → Vl) {L : Nat → Bool} {x : Rs} (j : Nat) : ∀ n, (∃ k, j < k ∧ k < n ∧ L k = true ∧ wr k x = true ∧ foldW m0 wr e L n x = e k x) ∨ (∀ k, j < k → k < n → L k = false ∨ wr k x = false)
  | 0 => .inr fun k _ h => by omega
  | n + 1 => by
    by_cases hn : j < n ∧ L n = true ∧ wr n x = true
    · refine .inl ⟨n, hn.1, by omega, hn.2.1, hn.2.2, ?_⟩
      simp only [foldW, hn.2.1, hn.2.2, Bool.and_self, cond_true]
    · rcases foldW_last m0 wr e (L := L) (x := x) j n with ⟨k, h1, h2, h3, h4, h5⟩ | h
      · refine .inl ⟨k, h1, by omega, h3, h4, ?_⟩
        have : (L n && wr n x) = false := by
          cases hL : L n with
          | false => rfl
          | true => cases hw : wr n x with
            | false => rfl
            | true => exact absurd ⟨by omega, hL, hw⟩ hn
        simp only [foldW, this, cond_false]
        exact h5
      · refine .inr fun k h1 h2 => ?_
        by_cases hk : k = n
        · subst hk
          cases hL : L k with
          | false => exact .inl rfl
          | true => cases hw : wr k x with
            | false => exact .inr rfl
            | true => exact absurd ⟨h1, hL, hw⟩ hn
        · exact h k h1 (by omega)
def pD (st0 n : Nat) (L : Nat → Bool) (x : Nat) : Prop := x < st0 ∨ ∃ j, j < n ∧ L j = true ∧ st0 + 32 * j ≤ x ∧ x < st0 + 32 * j + 32
theorem AllD.step (A : AllD X rec ops st0 s v ft an on) (hn : NamesOk X.c) (hg0 : X.c.gok X.g0.h) (hrec : RecOk X.c rec) (hd : Down ops L) {i : Nat} {o : Oper} (ho : ops[i]? = some o) (hL : L i = false) (hready : ∀ e ∈ o.after.toList, bindsAny e = true → L e.on = true)
    {g : G} {a : Act} {w : World} (N : Now X (pD st0 ops.size L) g (ST st0 s v ft on ops.size L) a w) {K : Act → World → Prop}
    (hK : ∀ g' a' w', Now X (pD st0 ops.size fun k => bif Nat.beq k i then true else L k) g' (ST st0 s v ft on ops.size fun k => bif Nat.beq k i then true else L k) a' w' → K a' w') :
    if Region.wanted o (yielded ops a.tmps) = true then o.wp X.c.P a w K Q else K (a.put o.dst undef) w := by
  have hi : i < ops.size := by
    rcases Array.getElem?_eq_some_iff.1 ho with ⟨h, _⟩; exact h
  have G := A.good i o ho
  have S := G.step
  have hanc : ∀ j ∈ an i, L j = true := fun j hj => by
    obtain ⟨e, h1, h2, h3⟩ := G.anc j hj
    have hLe := hready e h1 h2
    rcases h3 with rfl | h3
    · exact hLe
    · have hlt := G.edges e h1 h2
      exact A.anc hd (e.on + 1) e.on (by omega) (by omega) hLe j h3
  have bef : ∀ j, j < i → L j = true ∨ clash (st0 + 32 * j) (ft j) (ft i) = false := fun j hj => (G.apart j hj).imp (hanc j) id
  have aft : ∀ k, i < k → k < ops.size → L k = false ∨ clash (st0 + 32 * i) (ft i) (ft k) = false := fun k h1 h2 => by
    cases hk : L k with
    | false => exact .inl rfl
    | true =>
      right
      have Gk := A.good k ops[k] (Array.getElem?_eq_getElem h2)
      rcases Gk.apart i h1 with h | h
      · have := A.anc hd (k + 1) k (by omega) h2 hk i h
        rw [hL] at this; cases this
      · exact h
  obtain ⟨tx1, tx2, tx3⟩ := A.text i (by omega)
  have objlt : ∀ k, k < ops.size → on k = true → ∀ x ∈ (ft k).objs, x < st0 + 32 * k := fun k hk hon => by
    obtain ⟨st1, _, _, h, _⟩ := (A.good k ops[k] (Array.getElem?_eq_getElem hk)).step.yes hon
    exact h
  have wrobj : ∀ k, k < ops.size → on k = true → ∀ x ∈ (ft k).writes, x ∈ (ft k).objs := fun k hk hon x hx => by
    obtain ⟨st1, _, h, _⟩ := (A.good k ops[k] (Array.getElem?_eq_getElem hk)).step.yes hon
    rw [h] at hx
    cases hro : isRO ops[k].op with
    | true => rw [hro] at hx; cases hx
    | false => rw [hro] at hx; exact hx
  have rdT : ∀ t ∈ (ft i).temps, (ST st0 s v ft on ops.size L).t t = (s i).t t := fun t ht => by
    rw [tx2 t]
    refine foldW_read _ _ _ hi hL (fun j hj => ?_) (fun k h1 h2 => ?_)
    · refine (bef j hj).imp id fun h => ?_
      unfold wtD
      split
      · rename_i d hdj
        exact beq_false fun e => (noclash h).1 d hdj (by rw [← e]; exact ht)
      · rfl
    · refine (aft k h1 h2).imp id fun h => ?_
      unfold wtD
      split
      · rename_i d hdk
        exact beq_false fun e => (noclash h).2.1 d hdk (by rw [← e]; exact ht)
      · rfl
  have addT : ∀ t, (ST st0 s v ft on ops.size fun k => bif Nat.beq k i then true else L k).t t = ((ST st0 s v ft on ops.size L).put o.dst (v i)).t t := fun t => by
    rw [put_t]
    refine (foldW_add _ _ _ ops.size hi fun k h1 h2 => ?_).trans ?_
    · refine (aft k h1 h2).imp id fun h => ?_
      have h3 := (noclash h).2.2.1
      unfold wtD
      cases hdi : (ft i).dst with
      | none => exact .inl rfl
      | some d =>
        cases hdk : (ft k).dst with
        | none => exact .inr rfl
        | some d' =>
          simp only []
          by_cases e : t = d
          · right
            refine beq_false fun e' => h3 d hdi ?_
            rw [hdk, ← e', e]
          · exact .inl (beq_false e)
    · unfold wtD
      rw [S.dst]
      cases hdo : o.dst with
      | none => simp only [cond_false]; rw [if_neg (by simp)]; rfl
      | some d =>
        by_cases e : t = d
        · subst e; rw [if_pos rfl]; simp only []; rw [beq_iff.2 rfl, cond_true]
        · simp only []; rw [beq_false e, cond_false, if_neg (by intro h; cases h; exact e rfl)]; rfl
  have addH : ∀ x, (ST st0 s v ft on ops.size fun k => bif Nat.beq k i then true else L k).h x = bif whD st0 ft on i x then (s (i + 1)).h x else (ST st0 s v ft on ops.size L).h x := fun x => by
    refine foldW_add _ _ _ ops.size hi fun k h1 h2 => ?_
    refine (aft k h1 h2).imp id fun h => ?_
    obtain ⟨_, _, _, c4, c5, c6⟩ := noclash h
    cases hwi : whD st0 ft on i x with
    | false => exact .inl rfl
    | true =>
      right
      cases hwk : whD st0 ft on k x with
      | false => rfl
      | true =>
        exfalso
        unfold whD at hwi hwk
        rw [Bool.and_eq_true, Bool.or_eq_true] at hwi hwk
        obtain ⟨oi, wi⟩ := hwi
        obtain ⟨ok, wk⟩ := hwk
        rcases wi with wi | wi
        · have wi := memN_iff.1 wi
          rcases wk with wk | wk
          · exact c4 x wi (wrobj k h2 ok x (memN_iff.1 wk))
          · have := objlt i hi oi x (wrobj i hi oi x wi)
            have := inIds_iff.1 wk
            omega
        · rcases wk with wk | wk
          · have := c6 x (wrobj k h2 ok x (memN_iff.1 wk))
            rw [wi] at this; cases this
          · have := inIds_iff.1 wi
            have := inIds_iff.1 wk
            omega
  have rdH : (ft i).ld = none → on i = true → ∀ x ∈ (ft i).objs, (ST st0 s v ft on ops.size L).h x = (s i).h x := fun hnl hon x hx => by
    rw [tx3 x]
    refine foldW_read _ _ _ hi hL (fun j hj => ?_) (fun k h1 h2 => ?_)
    · refine (bef j hj).imp id fun h => ?_
      obtain ⟨_, _, _, c4, c5, c6⟩ := noclash h
      unfold whD
      cases hoj : on j with
      | false => rfl
      | true =>
        rw [Bool.true_and, Bool.or_eq_false_iff]
        exact ⟨memN_false.2 fun hw => c4 x hw hx, c6 x hx⟩
    · refine (aft k h1 h2).imp id fun h => ?_
      obtain ⟨_, _, _, c4, c5, c6⟩ := noclash h
      unfold whD
      cases hok : on k with
      | false => rfl
      | true =>
        rw [Bool.true_and, Bool.or_eq_false_iff]
        refine ⟨memN_false.2 fun hw => c5 hnl x hw hx, ?_⟩
        have := objlt i hi hon x hx
        cases hin : inIds (st0 + 32 * k) x with
        | false => rfl
        | true => have := inIds_iff.1 hin; omega
  have hpq : ∀ x, pD st0 ops.size L x → pD st0 ops.size (fun k => bif Nat.beq k i then true else L k) x := fun x hx => by
    rcases hx with hx | ⟨j, h1, h2, h3⟩
    · exact .inl hx
    · refine .inr ⟨j, h1, ?_, h3⟩
      show (bif Nat.beq j i then true else L j) = true
      rw [h2]; cases Nat.beq j i <;> rfl
  have hfr : Fresh (pD st0 ops.size L) (pD st0 ops.size fun k => bif Nat.beq k i then true else L k) (st0 + 32 * i) := fun k hk => by
    constructor
    · rintro (h | ⟨j, h1, h2, h3, h4⟩)
      · omega
      · have : j = i := by omega
        subst this
        rw [hL] at h2; cases h2
    · refine .inr ⟨i, hi, ?_, by omega, by omega⟩
      show (bif Nat.beq i i then true else L i) = true
      rw [beq_iff.2 rfl]; rfl
  have hw : Region.wanted o (yielded ops a.tmps) = on i := by
    cases hg : o.guard with
    | none => simp [Region.wanted, hg, S.free hg]
    | some jw =>
      obtain ⟨j, want⟩ := jw
      obtain ⟨d, h1, h2, h3⟩ := S.guard j want hg
      rw [Array.getElem?_toList] at h1
      have htm := N.at_.tm d
      rw [rdT d h2] at htm
      rcases h3 with ⟨h3, h4⟩ | ⟨b, h3, h4⟩
      · rw [h3] at htm
        simp [Region.wanted, hg, yielded_und h1 htm, h4]
      · rw [h3] at htm
        simp [Region.wanted, hg, yielded_of h1 (VV_bool htm), h4]
  rw [hw]
  cases hon : on i with
  | false =>
    rw [if_neg (by simp)]
    obtain ⟨hv, hh⟩ := S.no hon
    refine hK g _ _ ?_
    have N1 := N.put (vv := v i) (st1 := ST st0 s v ft on ops.size L) (v := undef) G.okd hpq (N.at_.hp.more hpq) (Agree.refl _ g).w (Ext.refl g w) (by rw [hv]; exact (rfl : undef = undef)) (by rw [hv]; trivial) rfl rfl
    have e : (ST st0 s v ft on ops.size fun k => bif Nat.beq k i then true else L k).h = ((ST st0 s v ft on ops.size L).put o.dst (v i)).h := by
      funext x
      rw [addH x]
      have : whD st0 ft on i x = false := by unfold whD; rw [hon]; rfl
      rw [this, cond_false]
      cases o.dst <;> rfl
    refine ⟨⟨?_, fun t => ?_, fun t => ?_⟩, N1.size, (by have k := N1.def_; simp only [put_m] at k; exact k), N1.ext, N1.keep, N1.pre⟩
    · rw [e]; exact N1.at_.hp
    · rw [addT t]; exact N1.at_.tm t
    · rw [addT t]; exact N1.at_.nm t
  | true =>
    rw [if_pos rfl]
    obtain ⟨st1, k1, k2, k3, k4, k5⟩ := S.yes hon
    obtain ⟨st1', k4', kq⟩ : ∃ st1', opK X.c rec o (st0 + 32 * i) (restr (tempsOf o.op.operands.toList) (ft i).objs (ST st0 s v ft on ops.size L)) (fun v s => some (v, s)) = some (v i, st1') ∧ ∀ x, whD st0 ft on i x = true → st1'.h x = st1.h x := by
     have er1 : ∀ t, (restr (tempsOf o.op.operands.toList) (ft i).objs (s i)).t t = (restr (tempsOf o.op.operands.toList) (ft i).objs (ST st0 s v ft on ops.size L)).t t := fun t => by
      simp only [restr]
      cases ht : memN t (tempsOf o.op.operands.toList) with
      | false => rfl
      | true => simp only [cond_true]; rw [rdT t (k1 t (memN_iff.1 ht))]
     cases hnl : (ft i).ld with
     | some ql =>
      obtain ⟨q, off, u⟩ := ql
      obtain ⟨_, hu, hlo⟩ := G.ldok q off u hnl
      obtain ⟨t, y, hop, hty, hag⟩ := ldOf_spec hlo
      have hym : memN y (tempsOf o.op.operands.toList) = true := memN_iff.2 (by rw [hop]; exact List.mem_singleton.2 rfl)
      have hty' : (restr (tempsOf o.op.operands.toList) (ft i).objs (s i)).t y = .ptr q off := by simp only [restr, hym, cond_true]; exact hty
      obtain ⟨cs, hcs, hcv, htk, hs1⟩ := load_cell hop hty' hag k4
      have hqF : memN q (ft i).objs = true := by
        simp only [restr] at hcs
        cases hm : memN q (ft i).objs with
        | true => rfl
        | false => rw [hm] at hcs; cases hcs
      have hcs0 : (s i).h q = some (.var cs) := by simpa only [restr, hqF, cond_true] using hcs
      have hqlt := k3 q (memN_iff.1 hqF)
      have hST : ∃ cs', (ST st0 s v ft on ops.size L).h q = some (.var cs') ∧ cs'[off]? = some (v i) := by
        rcases foldW_last (s 0).h (whD st0 ft on) (fun i x => (s (i + 1)).h x) (L := L) (x := q) i ops.size with ⟨k, h1, h2, h3, h4, h5⟩ | hno
        · have Gk := A.good k ops[k] (Array.getElem?_eq_getElem h2)
          unfold whD at h4
          rw [Bool.and_eq_true, Bool.or_eq_true] at h4
          have hqw : q ∈ (ft k).writes := by
            rcases h4.2 with h | h
            · exact memN_iff.1 h
            · have := inIds_iff.1 h; omega
          have hh : (ST st0 s v ft on ops.size L).h q = (s (k + 1)).h q := h5
          rcases Gk.held h4.1 i q off u h1 hnl with h | h | h
          · have := A.anc hd (k + 1) k (by omega) h2 h3 i h
            rw [hL] at this; cases this
          · exact absurd hqw h
          · rw [← hu, hh]
            exact vsame_cell h
        · refine ⟨cs, ?_, hcv⟩
          rw [← hcs0, tx3 q]
          refine foldW_read _ _ _ hi hL (fun j hj => ?_) hno
          refine (bef j hj).imp id fun h => ?_
          obtain ⟨_, _, _, c4, c5, c6⟩ := noclash h
          unfold whD
          cases hoj : on j with
          | false => rfl
          | true =>
            rw [Bool.true_and, Bool.or_eq_false_iff]
            exact ⟨memN_false.2 fun hw => c4 q hw (memN_iff.1 hqF), c6 q (memN_iff.1 hqF)⟩
      obtain ⟨cs', hc1, hc2⟩ := hST
      refine ⟨_, load_again hop (by rw [← er1]; exact hty') hag htk (cs := cs') (by simp only [restr, hqF, cond_true]; exact hc1) hc2, fun x hw => ?_⟩
      have hro : isRO o.op = true := by rw [hop]; rfl
      unfold whD at hw
      rw [k2, hro, cond_true, hon, Bool.true_and] at hw
      have hin : inIds (st0 + 32 * i) x = true := by
        rw [Bool.or_eq_true] at hw
        rcases hw with h | h
        · cases h
        · exact h
      have hnF : memN x (ft i).objs = false := memN_false.2 fun hx => by have := k3 x hx; have := inIds_iff.1 hin; omega
      rw [hs1]
      simp only [restr, hnF, cond_false]
     | none =>
      refine ⟨st1, ?_, fun _ _ => rfl⟩
      have er : restr (tempsOf o.op.operands.toList) (ft i).objs (s i) = restr (tempsOf o.op.operands.toList) (ft i).objs (ST st0 s v ft on ops.size L) := by
        have e1 : (fun t => bif memN t (tempsOf o.op.operands.toList) then (s i).t t else V.top) = fun t => bif memN t (tempsOf o.op.operands.toList) then (ST st0 s v ft on ops.size L).t t else V.top := funext er1
        have e2 : (fun x => bif memN x (ft i).objs then (s i).h x else none) = fun x => bif memN x (ft i).objs then (ST st0 s v ft on ops.size L).h x else none := by
          funext x
          cases hx : memN x (ft i).objs with
          | false => rfl
          | true => simp only [cond_true]; rw [rdH hnl hon x (memN_iff.1 hx)]
        unfold restr
        rw [e1, e2, tx1]; rfl
      rw [← er]; exact k4
    have hold := N.at_.hp
    have S0 : SimH X.u (pD st0 ops.size L) g (restr (tempsOf o.op.operands.toList) (ft i).objs (ST st0 s v ft on ops.size L)).h w := hold.fewer fun x ob hx => by
      simp only [restr] at hx
      cases hm : memN x (ft i).objs with
      | false => rw [hm] at hx; cases hx
      | true => rw [hm] at hx; exact hx
    have P : Pass X.u (pD st0 ops.size L) (pD st0 ops.size L) g g (ST st0 s v ft on ops.size L).h (restr (tempsOf o.op.operands.toList) (ft i).objs (ST st0 s v ft on ops.size L)).h w (fun l o => l = o) :=
      ⟨hold, S0, fun _ _ h => h, fun l x0 hl => ⟨l, x0, rfl, by
        simp only [restr] at hl
        cases hm : memN l (ft i).objs with
        | false => rw [hm] at hl; cases hl
        | true => rw [hm] at hl; exact hl, fun _ h => h⟩⟩
    have At0 : At (rest0 g (restr (tempsOf o.op.operands.toList) (ft i).objs (ST st0 s v ft on ops.size L)).h w) (pD st0 ops.size L) g (restr (tempsOf o.op.operands.toList) (ft i).objs (ST st0 s v ft on ops.size L)) a w := by
      refine ⟨P.sim, fun t => ?_, fun t => ?_⟩
      · simp only [restr]
        cases memN t (tempsOf o.op.operands.toList) with
        | true => exact N.at_.tm t
        | false => exact (trivial : VD g.h .top _)
      · simp only [restr]
        cases memN t (tempsOf o.op.operands.toList) with
        | true => exact N.at_.nm t
        | false => trivial
    obtain ⟨vv, st2', hkk, hop⟩ := op_sound hn (hn.2.2.1 _ _ N.ext.h hg0) hrec At0 hpq hfr k4'
    cases hkk
    refine hop.wp fun val w' ⟨g', s1, s2, s3, s4, s5, s6, s7, s8⟩ => hK g' _ _ ?_
    have hH : SimH X.u (pD st0 ops.size fun k => bif Nat.beq k i then true else L k) g' (ST st0 s v ft on ops.size fun k => bif Nat.beq k i then true else L k).h w' := by
      refine P.back (f := fun l => l) s1 s2.h s2 (fun _ _ h => h) hpq fun x ob hx => ?_
      have right : st1'.h x = some ob → (∃ l ob1, st1'.h l = some ob1 ∧ x = l ∧ OB g' x ob w' ∧ (∀ b, obk g' x ob b → obk g' l ob1 b) ∧ pD st0 ops.size (fun k => bif Nat.beq k i then true else L k) x ∧ ob.uses (pD st0 ops.size fun k => bif Nat.beq k i then true else L k)) := fun h1 =>
        ⟨x, ob, h1, rfl, s1.ob _ _ h1, fun _ h => h, (s1.use _ _ h1).1, (s1.use _ _ h1).2⟩
      rw [addH x] at hx
      cases hwi : whD st0 ft on i x with
      | true =>
        rw [hwi, cond_true, k5] at hx
        refine .inr (right ?_)
        unfold joinH at hx
        have : (memN x (ft i).objs || inIds (st0 + 32 * i) x) = true := by
          unfold whD at hwi
          rw [Bool.and_eq_true, Bool.or_eq_true] at hwi
          rw [Bool.or_eq_true]
          exact hwi.2.imp (fun h => memN_iff.2 (wrobj i hi hon x (memN_iff.1 h))) id
        rw [this] at hx; rw [kq x hwi]; exact hx
      | false =>
        rw [hwi, cond_false] at hx
        unfold whD at hwi
        rw [hon, Bool.true_and, Bool.or_eq_false_iff] at hwi
        cases hF : memN x (ft i).objs with
        | false =>
          refine .inl ⟨hx, fun l x0 hl e => ?_, fun b hb => .inl (hold.sep _ _ _ hx hb).1, fun i' => by rw [s8 x (hold.use _ _ hx).1 (by simp only [restr, hF]; rfl)]⟩
          subst e
          simp only [restr, hF] at hl; cases hl
        | true =>
          refine .inr (right ?_)
          cases hro : isRO o.op with
          | false => rw [k2, hro, cond_false] at hwi; rw [hwi.1] at hF; cases hF
          | true =>
            have := opK_own hro k4' x (by rw [← inIds_iff]; rw [hwi.2]; simp)
            rw [this]
            simp only [restr, hF, cond_true]; exact hx
    have N1 := N.put (st1 := { ST st0 s v ft on ops.size L with h := (ST st0 s v ft on ops.size fun k => bif Nat.beq k i then true else L k).h }) G.okd hpq hH s2 s3 s4 s5 rfl rfl
    refine ⟨⟨?_, fun t => ?_, fun t => ?_⟩, N1.size, (by have k := N1.def_; simp only [put_m] at k; exact k), N1.ext, N1.keep, N1.pre⟩
    · exact hH
    · rw [addT t]
      have := N1.at_.tm t
      rw [put_t] at this ⊢; exact this
    · rw [addT t]
      have := N1.at_.nm t
      rw [put_t] at this ⊢; exact this
theorem foldW_none {Rs Vl : Type} (m0 : Rs → Vl) (wr : Nat → Rs → Bool) (e : Nat → Rs → Vl) : ∀ (n : Nat) (x : Rs), foldW m0 wr e (fun _ => false) n x = m0 x
  | 0, _ => rfl
  | n + 1, x => by simp only [foldW, Bool.false_and, cond_false]; exact foldW_none m0 wr e n x
def LD (listed : Array Bool) (i : Nat) : Bool := listed.getD i false
theorem LD_set {listed : Array Bool} {i : Nat} (hi : i < listed.size) : LD (listed.setIfInBounds i true) = fun k => bif Nat.beq k i then true else LD listed k := by
  funext k
  unfold LD
  by_cases e : k = i
  · subst e; rw [beq_iff.2 rfl]; simp [Array.getD_eq_getD_getElem?, hi]
  · rw [beq_false e]; simp [Array.getD_eq_getD_getElem?, Array.getElem?_setIfInBounds, Ne.symm e]
theorem AllD.any (A : AllD X rec ops st0 s v ft an on) (hn : NamesOk X.c) (hg0 : X.c.gok X.g0.h) (hrec : RecOk X.c rec)
    (hQ : ∀ g a w, Now X (pD st0 ops.size fun _ => true) g (s ops.size) a w → Q .normal a w) :
    ∀ (fuel : Nat) (listed : Array Bool) (g : G) (a : Act) (w : World), listed.size = ops.size → (List.range ops.size).countP (fun i => !LD listed i) ≤ fuel → Down ops (LD listed) →
      Now X (pD st0 ops.size (LD listed)) g (ST st0 s v ft on ops.size (LD listed)) a w → wpAny X.c.P .any ops Q fuel listed a w := by
  have fin : ∀ (listed : Array Bool) (g : G) (a : Act) (w : World), listed.size = ops.size → Region.ready .any ops listed = [] → Now X (pD st0 ops.size (LD listed)) g (ST st0 s v ft on ops.size (LD listed)) a w → Q .normal a w := by
    intro listed g a w hsz hr N
    have hall : ∀ m i, i < m → i < ops.size → LD listed i = true := by
      intro m
      induction m with
      | zero => intro i h; omega
      | succ m ih =>
        intro i h1 h2
        cases hL : LD listed i with
        | true => rfl
        | false =>
          exfalso
          have : i ∈ Region.ready .any ops listed := by
            unfold Region.ready
            rw [List.mem_filter]
            refine ⟨by simpa using h2, ?_⟩
            have hl : listed.getD i true = false := by
              unfold LD at hL
              rw [Array.getD_eq_getD_getElem?, Array.getElem?_eq_getElem (by omega)] at hL ⊢
              exact hL
            rw [hl, Array.getElem?_eq_getElem h2]
            simp only [Bool.not_false, Bool.true_and, Option.map_some, Option.getD_some]
            rw [← Array.all_toList, List.all_eq_true]
            intro e he
            rw [binds_any]
            cases hb : bindsAny e with
            | false => rfl
            | true =>
              have hlt := (A.good i ops[i] (Array.getElem?_eq_getElem h2)).edges e he hb
              have := ih e.on (by omega) (by omega)
              unfold LD at this
              simp [this]
          rw [hr] at this; cases this
    have eT : ∀ t, (ST st0 s v ft on ops.size (LD listed)).t t = (s ops.size).t t := fun t => by
      rw [(A.text ops.size (Nat.le_refl _)).2.1 t]
      exact foldW_congr _ _ _ _ fun i hi => .inl (hall (i + 1) i (by omega) hi)
    have eH : (ST st0 s v ft on ops.size (LD listed)).h = (s ops.size).h := funext fun x => by
      rw [(A.text ops.size (Nat.le_refl _)).2.2 x]
      exact foldW_congr _ _ _ _ fun i hi => .inl (hall (i + 1) i (by omega) hi)
    have hpq : ∀ x, pD st0 ops.size (LD listed) x → pD st0 ops.size (fun _ => true) x := fun x hx => hx.imp id fun ⟨j, h1, _, h3⟩ => ⟨j, h1, rfl, h3⟩
    refine hQ g a w ⟨⟨?_, fun t => ?_, fun t => ?_⟩, N.size, (by rw [(A.text ops.size (Nat.le_refl _)).1]; exact N.def_), N.ext, N.keep, fun l o h => hpq _ (N.pre l o h)⟩
    · rw [← eH]; exact N.at_.hp.more hpq
    · rw [← eT t]; exact N.at_.tm t
    · rw [← eT t]; exact (N.at_.nm t).mono hpq
  intro fuel
  induction fuel with
  | zero =>
    intro listed g a w hsz hc hd N
    have hr : Region.ready .any ops listed = [] := by
      rw [List.eq_nil_iff_forall_not_mem]
      intro i hi
      unfold Region.ready at hi
      rw [List.mem_filter] at hi
      have h0 := List.countP_eq_zero.1 (Nat.le_zero.1 hc) i hi.1
      have hi2 := hi.2
      rw [Bool.and_eq_true] at hi2
      have hlt : i < listed.size := by rw [hsz]; simpa using hi.1
      unfold LD at h0
      rw [Array.getD_eq_getD_getElem?, Array.getElem?_eq_getElem hlt] at h0 hi2
      simp at h0 hi2
      rw [h0] at hi2; simp at hi2
    exact ⟨hr, fin listed g a w hsz hr N⟩
  | succ fuel ih =>
    intro listed g a w hsz hc hd N
    refine ⟨fun hr => fin listed g a w hsz hr N, fun i hi => ?_⟩
    unfold Region.ready at hi
    rw [List.mem_filter] at hi
    obtain ⟨hi1, hi2⟩ := hi
    have hlt : i < ops.size := by simpa using hi1
    rw [Bool.and_eq_true] at hi2
    have hL : LD listed i = false := by
      have := hi2.1
      unfold LD
      rw [Array.getD_eq_getD_getElem?, Array.getElem?_eq_getElem (by omega)] at this ⊢
      simpa using this
    have ho : ops[i]? = some ops[i] := Array.getElem?_eq_getElem hlt
    have hready : ∀ e ∈ ops[i].after.toList, bindsAny e = true → LD listed e.on = true := by
      have h2 := hi2.2
      rw [ho] at h2
      simp only [Option.map_some, Option.getD_some] at h2
      rw [← Array.all_toList, List.all_eq_true] at h2
      intro e he hb
      have := h2 e he
      rw [binds_any, hb] at this
      simpa [LD] using this
    have key := A.step hn hg0 hrec (Q := Q) (K := wpAny X.c.P .any ops Q fuel (listed.setIfInBounds i true)) hd ho hL hready N fun g' a' w' N' => by
      rw [← LD_set (by omega)] at N'
      refine ih _ g' a' w' (by simpa using hsz) ?_ (fun k o hk hLk e he hb => ?_) N'
      · rw [LD_set (by omega)]
        have hcnt : ∀ (l : List Nat), i ∈ l → l.Nodup → l.countP (fun k => !(bif Nat.beq k i then true else LD listed k)) + 1 = l.countP (fun k => !LD listed k) := by
          intro l
          induction l with
          | nil => intro h; cases h
          | cons x xs ihl =>
            intro hm hnd
            rw [List.nodup_cons] at hnd
            by_cases e : x = i
            · subst e
              rw [List.countP_cons, List.countP_cons, beq_iff.2 rfl, hL]
              have : xs.countP (fun k => !(bif Nat.beq k x then true else LD listed k)) = xs.countP (fun k => !LD listed k) := by
                refine List.countP_congr fun k hk => ?_
                have : k ≠ x := fun e => hnd.1 (by rw [← e]; exact hk)
                rw [beq_false this]; rfl
              rw [this]; simp
            · have := ihl ((List.mem_cons.1 hm).resolve_left (Ne.symm e)) hnd.2
              rw [List.countP_cons, List.countP_cons, beq_false e, cond_false]
              omega
        have := hcnt (List.range ops.size) hi1 List.nodup_range
        show (List.range ops.size).countP (fun k => !(bif Nat.beq k i then true else LD listed k)) ≤ fuel
        omega
      · rw [LD_set (by omega)] at hLk ⊢
        have hdone : LD listed e.on = true := by
          by_cases ek : k = i
          · subst ek
            rw [ho] at hk; cases hk
            exact hready e he hb
          · simp only [beq_false ek, cond_false] at hLk
            exact hd k o hk hLk e he hb
        show (bif Nat.beq e.on i then true else LD listed e.on) = true
        rw [hdone]; cases Nat.beq e.on i <;> rfl
    unfold wpOp
    rw [ho]
    simp only []
    split
    · rename_i hw; rw [if_pos hw] at key; exact .inl key
    · rename_i hw; rw [if_neg hw] at key; exact key
theorem drawK_sound {id : Nat} (hn : NamesOk X.c) (hg0 : X.c.gok X.g0.h) (hrec : RecOk X.c rec) (hm : X.c.P.follows .mixedOrders = true) {st : St} {g : G} {a : Act} {w : World} {K : St → Out} {r : Bool × List D} (N : Now X (· < st.n) g st a w) (h : drawK X.c rec X.fn.ntmps ops.toList st.n 0 ops.toList [] [] st K = some r)
    (hK : ∀ st' a' w' g', K st' = some r → Now X (· < st.n + 32 * ops.size) g' st' a' w' → st'.n = st.n → Q .normal a' w') : (Code.region id ops true).wp X.c.P Q a w := by
  obtain ⟨s, v, ft, an, on, e1, _, _, e4, e5⟩ := drawK_spec ops.toList 0 [] [] st rfl rfl h
  have A : AllD X rec ops st.n s v ft an on := ⟨by rw [e1], fun i o ho => by
    have := e4 i o (by rw [Array.getElem?_toList]; exact ho)
    rw [Nat.zero_add] at this; exact this⟩
  have hsz : 0 + ops.toList.length = ops.size := by simp
  rw [hsz] at e5
  refine wp_region_any hm ?_
  have hL0 : LD (Array.replicate ops.size false) = fun _ => false := by
    funext i
    unfold LD
    rw [Array.getD_eq_getD_getElem?, Array.getElem?_replicate]
    split <;> rfl
  refine A.any hn hg0 hrec (fun g' a' w' N' => ?_) ops.size _ g a _ (by simp) (Nat.le_trans List.countP_le_length (by simp)) (fun i o _ hLi => by rw [hL0] at hLi; cases hLi) ?_
  · refine hK (s ops.size) a' w' g' e5 ?_ (by have := (A.text ops.size (Nat.le_refl _)).1; rw [e1] at this; exact congrArg Mk.k this)
    have hpq : ∀ x, pD st.n ops.size (fun _ => true) x → x < st.n + 32 * ops.size := fun x hx => by
      rcases hx with hx | ⟨j, h1, _, h3, h4⟩ <;> omega
    exact ⟨⟨N'.at_.hp.more hpq, N'.at_.tm, fun t => (N'.at_.nm t).mono hpq⟩, N'.size, N'.def_, N'.ext, N'.keep, fun l o h => hpq _ (N'.pre l o h)⟩
  · rw [hL0]
    have eT : (ST st.n s v ft on ops.size fun _ => false).t = st.t := funext fun t => by rw [← e1]; exact foldW_none _ _ _ _ t
    have eH : (ST st.n s v ft on ops.size fun _ => false).h = st.h := funext fun x => by rw [← e1]; exact foldW_none _ _ _ _ x
    have hpq : ∀ x, x < st.n → pD st.n ops.size (fun _ => false) x := fun x hx => .inl hx
    refine ⟨⟨?_, fun t => ?_, fun t => ?_⟩, N.size, (by show a.defers = dls X.g0 (s 0).m.df ∧ ∀ d ∈ (s 0).m.df, ∀ l ∈ d.2, lookN X.pre l.1 = some l.1; rw [e1]; exact N.def_), ⟨N.ext.h, N.ext.os, N.ext.tape, N.ext.output, N.ext.size⟩, N.keep, fun l o h => hpq _ (N.pre l o h)⟩
    · rw [eH]; exact (N.at_.hp.more hpq).same rfl
    · rw [eT]; exact N.at_.tm t
    · rw [eT]; exact (N.at_.nm t).mono hpq
end
end Go.AE
namespace Go.AE
open Go.RowKit
def FinR (X : FX) (out : List D) (v : Value) (w : World) : Prop :=
  ∃ g' tm', SimH X.u (· < X.osk.objs.length) g' (injectE E0 X.osk out).h w ∧
    (∀ t, VV g' ((injectE E0 X.osk out).t t) (tm' t) ∧ ((injectE E0 X.osk out).t t).uses (· < X.osk.objs.length)) ∧ Ext X.g0 X.w0 g' w ∧ Keep X.pre X.g0 g' ∧ v = resVal X.osk.slots tm'
def Fin (X : FX) (out : List D) (a : Act) (w : World) : Prop := Leaves X.c.P X.fn a.tmps (fun e w' => ∃ v, e = .returned v ∧ FinR X out v w') a.defers .returning w
def LoopSpec (m : Nat) (c : Cfg) (f : Nat) (osk : Sk) (pre : List (Nat × Nat)) (df : List (Nat × List (Nat × Nat))) (once : Bool) (id : Nat) (body : Code) (sk : Sk) (ds : List D) (b : Bool) (out : List D) : Prop :=
  ∀ (X : FX), X.c = c → c.gok X.g0.h → c.P.funcs[f]? = some X.fn → X.osk = osk → X.pre = pre → (∀ l o, lookN pre l = some o → o = l) → ∀ (a : Act) (w : World) (g : G), Now X (· < sk.objs.length) g ((injectE E0 sk ds).later df) a w →
    ∀ Q : Exit → Act → World → Prop, (b = false → ∀ a' w' g', Now X (· < sk.objs.length) g' ((injectE E0 sk out).later df) a' w' → Q .normal a' w') → (b = true → ∀ a' w', Fin X out a' w' → Q .ret a' w') →
      if once = true then body.wp c.P Q a w else Code.rounds c.P body (Exit.inBlock id Q) m a w
def RecL (m : Nat) (c : Cfg) (rec : Task → Out) : Prop := ∀ f osk pre df once id body sk ds b out, rec (.loop f osk pre df once id body sk ds) = some (b, out) → LoopSpec m c f osk pre df once id body sk ds b out
theorem leaves_stepsD {P : Program} {fn : Func} {tmps : Array Value} {R : Ending → World → Prop} : ∀ (ds : List Deferred) (u : FrameMode) (w : World) (fr : Frame)
    (cs : List Frame), fr.mode = u → fr.defers = ds → fr.tmps = tmps → P.funcs[fr.fn]? = some fn → fr.kind = .deferred → Leaves P fn tmps R ds u w →
    ∃ e w' fr', R e w' ∧ Comes P (lone fr cs w) (lone fr' cs w') e ∧ fr'.kind = .deferred ∧ fr'.going P w' e
  | [], u, w, fr, cs, hu, hd, ht, hf, hk, h => by
    cases u with
    | run => exact h.elim
    | returning =>
      obtain ⟨v, hr, hR⟩ := h
      exact ⟨.returned v, w, fr, hR, Steps.refl P _, hk, hu, hd, fn, hf, ht ▸ hr⟩
    | panicking chain => exact ⟨.panicked chain, w, fr, h, Steps.refl P _, hk, hu, hd, fn, hf⟩
  | d :: ds, u, w, fr, cs, hu, hd, ht, hf, hk, h => by
    obtain ⟨hrun, fv, cap, f, args, htar, hinv, hcall⟩ := h
    have h1 := step_defer (cs := cs) (hu ▸ hrun) hd htar hinv
    obtain ⟨e, u', w', frX, hR, hsteps, hkX, hgo⟩ := hcall { fr with defers := ds } cs hu
    cases e with
    | returned v =>
      have h2 := step_going_returned (c := { { fr with defers := ds } with mode := u' }) (cs := cs) hkX hgo
      obtain ⟨e', w'', fr', hR', hs', hk', hl'⟩ := leaves_stepsD ds (settle u') w' { { { fr with defers := ds } with mode := u' } with mode := settle u' } cs rfl rfl ht hf hk hR
      exact ⟨e', w'', fr', hR', Comes.of_steps (.head h1 (Steps.trans hsteps (.one h2))) hs', hk', hl'⟩
    | panicked chain =>
      have h2 := step_going_panicked (c := { { fr with defers := ds } with mode := u' }) (cs := cs) hgo
      obtain ⟨e', w'', fr', hR', hs', hk', hl'⟩ := leaves_stepsD ds (raised u' chain) w' { { { fr with defers := ds } with mode := u' } with mode := raised u' chain } cs rfl rfl ht hf hk hR
      exact ⟨e', w'', fr', hR', Comes.of_steps (.head h1 (Steps.trans hsteps (.one h2))) hs', hk', hl'⟩
    | outgrown => exact ⟨.outgrown, w', fr, hR, Outgrown.of_steps (.one h1) hsteps, hk, trivial⟩
theorem callsD_of_wp_defers {P : Program} {f : FuncId} {fn : Func} {c : Code} {args : Array Value} {u : FrameMode} {w : World} {R : Ending → World → Prop}
    (hu : u = .returning) (hf : P.funcs[f]? = some fn) (hb : fn.body = some c)
    (h : c.wp P (bodyPostD P fn R) { tmps := args ++ Array.replicate (fn.ntmps - args.size) undef, defers := [] } w) :
    CallsD P f args u w fun e u' w' => u' = u ∧ R e w' := by
  intro c₀ cs hu
  let b : Frame := { (default : Frame) with fn := f, kind := .deferred }
  have henter : Frame.enter P f args .deferred =
      b.at { tmps := args ++ Array.replicate (fn.ntmps - args.size) undef, defers := [] } [.code c] := by
    simp [Frame.enter, Frame.at, hf, hb, b]
  have hc : ({ c₀ with mode := u } : Frame) = c₀ := by subst hu; rfl
  obtain ⟨e, a', w', hq, harr⟩ := h b [] (c₀ :: cs)
  rw [← henter] at harr
  cases e with
  | normal =>
    obtain ⟨e', w'', fr', hR, hs, hk, hl⟩ := leaves_stepsD a'.defers .returning w' { b.at a' [] with mode := .returning } (c₀ :: cs) rfl rfl rfl hf rfl hq
    exact ⟨e', u, w'', fr', ⟨rfl, hR⟩, (by rw [hc]; exact Comes.of_steps (Steps.trans harr (.one step_end)) hs), hk, hl⟩
  | ret =>
    obtain ⟨todo, hs₀⟩ := harr
    obtain ⟨e', w'', fr', hR, hs, hk, hl⟩ := leaves_stepsD a'.defers .returning w' { b.at a' todo with mode := .returning } (c₀ :: cs) rfl rfl rfl hf rfl hq
    exact ⟨e', u, w'', fr', ⟨rfl, hR⟩, (by rw [hc]; exact Comes.of_steps hs₀ hs), hk, hl⟩
  | panic chain =>
    obtain ⟨todo, hs₀⟩ := harr
    obtain ⟨e', w'', fr', hR, hs, hk, hl⟩ := leaves_stepsD a'.defers (.panicking chain) w' { b.at a' todo with mode := .panicking chain } (c₀ :: cs) rfl rfl rfl hf rfl hq
    exact ⟨e', u, w'', fr', ⟨rfl, hR⟩, (by rw [hc]; exact Comes.of_steps hs₀ hs), hk, hl⟩
  | exit id => exact hq.elim
  | goto l => exact hq.elim
  | outgrown => exact ⟨.outgrown, u, w', b, ⟨rfl, hq⟩, harr.resolve_left (by simp [b]), rfl, trivial⟩
theorem sameLs_eq : ∀ {a b : List (Nat × Nat)}, sameLs a b = true → a = b
  | [], [], _ => rfl
  | [], _ :: _, h => by cases h
  | _ :: _, [], h => by cases h
  | (x, y) :: r, (x', y') :: q, h => by
    simp only [sameLs, Bool.and_eq_true] at h
    rw [Nat.eq_of_beq_eq_true h.1.1, Nat.eq_of_beq_eq_true h.1.2, sameLs_eq h.2]
theorem sameDf_eq : ∀ {a b : List (Nat × List (Nat × Nat))}, sameDf a b = true → a = b
  | [], [], _ => rfl
  | [], _ :: _, h => by cases h
  | _ :: _, [], h => by cases h
  | (x, y) :: r, (x', y') :: q, h => by
    simp only [sameDf, Bool.and_eq_true] at h
    rw [Nat.eq_of_beq_eq_true h.1.1, sameLs_eq h.1.2, sameDf_eq h.2]
def toEx : Ex → Exit
  | .normal => .normal
  | .ret => .ret
  | .exit id => .exit id
section
variable {X : FX} {rec : Task → Out} {r : Bool × List D} {f : Nat}
theorem bindL_some {x : Out} {k : List D → Out} (h : bindL x k = some r) : (∃ ds, x = some (true, ds) ∧ r = (true, ds)) ∨ ∃ ds, x = some (false, ds) ∧ k ds = some r := by
  unfold bindL at h
  split at h
  · rename_i ds; cases h; exact .inl ⟨ds, rfl, rfl⟩
  · rename_i ds; exact .inr ⟨ds, rfl, h⟩
  · cases h
theorem refine_now {p : Nat → Prop} {g : G} {st : St} {a : Act} {w : World} (N : Now X p g st a w) {x : Operand} {b : Bool} (h : evalV st x = .d (.bool b)) : refine st x b = st := by
  cases x with
  | tmp t => exact set_self h
  | const _ => rfl
  | global _ => rfl
  | func _ => rfl
theorem exec_sound (hn : NamesOk X.c) (hg0 : X.c.gok X.g0.h) (hrec : RecOk X.c rec) {m : Nat} (hrecL : RecL m X.c rec) (hid : ∀ l o, lookN X.pre l = some o → o = l) (hf : X.c.P.funcs[f]? = some X.fn) :
    ∀ (code : Code) {st : St} {a : Act} {w : World} {g : G} {K : Ex → St → Out} {Q : Exit → Act → World → Prop}, exec X.c rec f X.fn.ntmps X.osk X.pre code st K = some r → Now X (· < st.n) g st a w →
      (∀ e st' a' w' g', K e st' = some r → Now X (· < st'.n) g' st' a' w' → Q (toEx e) a' w') → (∀ out, r = (true, out) → ∀ a' w', Fin X out a' w' → Q .ret a' w') → code.wp X.c.P Q a w
  | .skip, st, a, w, g, K, Q, h, N, hK, hR => wp_skip (hK .normal st a w g h N)
  | .exit id, st, a, w, g, K, Q, h, N, hK, hR => wp_exit (hK (.exit id) st a w g h N)
  | .ret, st, a, w, g, K, Q, h, N, hK, hR => wp_ret (hK .ret st a w g h N)
  | .region id ops draw, st, a, w, g, K, Q, h, N, hK, hR => by
    simp only [exec] at h
    cases draw with
    | true =>
      simp only [cond_true] at h
      obtain ⟨hm, h⟩ := bif_some h
      refine drawK_sound hn hg0 hrec hm N h fun st' a' w' g' h1 h2 h3 => hK .normal _ a' w' g' h1 ?_
      exact ⟨⟨h2.at_.hp, h2.at_.tm, h2.at_.nm⟩, h2.size, h2.def_, h2.ext, h2.keep, h2.pre⟩
    | false =>
      simp only [cond_false] at h
      refine wp_region_list (opsK_sound hn hg0 hrec ops.toList 0 h (by simpa using N) rfl fun st' a' w' g' h1 h2 h3 => hK .normal _ a' w' g' h1 ?_)
      have e : st.n + 32 * (0 + ops.toList.length) = st.n + 32 * ops.size := by simp
      rw [e] at h2
      exact ⟨⟨h2.at_.hp, h2.at_.tm, h2.at_.nm⟩, h2.size, h2.def_, h2.ext, h2.keep, h2.pre⟩
  | .seq x y, st, a, w, g, K, Q, h, N, hK, hR => by
    simp only [exec] at h
    refine wp_seq (exec_sound hn hg0 hrec hrecL hid hf x h N (fun e st' a' w' g' h1 h2 => ?_) (fun out ho a' w' hfin => hR out ho a' w' hfin))
    cases e with
    | normal => exact exec_sound hn hg0 hrec hrecL hid hf y h1 h2 hK hR
    | ret => exact hK .ret st' a' w' g' h1 h2
    | exit id => exact hK (.exit id) st' a' w' g' h1 h2
  | .cond x y z, st, a, w, g, K, Q, h, N, hK, hR => by
    simp only [exec] at h
    split at h
    · rename_i t ts hcut
      obtain ⟨g1, N1⟩ := widen_ok N (X.pre.map (·.1)) (t :: ts)
      split at h
      · rename_i cf hcf
        obtain ⟨g2, N2⟩ := conf_now N1 hid hcf
        rcases bindL_some h with ⟨ds, h1, h2⟩ | ⟨ds, h1, h2⟩
        · have := hrecL _ _ _ _ _ _ _ _ _ _ _ h1 X rfl hg0 hf rfl rfl hid a w g2 N2 Q (fun hb => by cases hb) (fun _ a' w' hfin => hR ds h2 a' w' hfin)
          simpa using this
        · obtain ⟨hchk, h2⟩ := bif_some h2
          have := hrecL _ _ _ _ _ _ _ _ _ _ _ h1 X rfl hg0 hf rfl rfl hid a w g2 N2 Q (fun _ a' w' g' N3 => hK .normal _ a' w' g' h2 (exp_now N3 hchk)) (fun hb => by cases hb)
          simpa using this
      · cases h
    · split at h
      · rename_i b hb
        have hv := N.at_.ev x
        rw [hb] at hv
        have hv := VV_bool hv
        cases b with
        | true =>
          simp only [cond_true] at h
          rw [refine_now N hb] at h
          exact wp_cond_true hv (exec_sound hn hg0 hrec hrecL hid hf y h N hK hR)
        | false =>
          simp only [cond_false] at h
          rw [refine_now N hb] at h
          exact wp_cond_false hv (exec_sound hn hg0 hrec hrecL hid hf z h N hK hR)
      · rename_i hb
        have hv := N.at_.ev x
        rw [hb] at hv
        obtain ⟨b, hv⟩ := hv
        obtain ⟨h1, h2⟩ := agree_some h
        cases b with
        | true => exact wp_cond_true hv (exec_sound hn hg0 hrec hrecL hid hf y h1 N hK hR)
        | false => exact wp_cond_false hv (exec_sound hn hg0 hrec hrecL hid hf z h2 N hK hR)
      · cases h
  | .block id b, st, a, w, g, K, Q, h, N, hK, hR => by
    by_cases hb : ∃ body, b = .loop body
    · obtain ⟨body, rfl⟩ := hb
      simp only [exec] at h
      obtain ⟨g1, N1⟩ := widen_ok N (X.pre.map (·.1)) ((X.c.keep f id).filter fun t => !X.c.nowid f t)
      split at h
      · rename_i cf hcf
        obtain ⟨g2, N2⟩ := conf_now N1 hid hcf
        have fin : Code.rounds X.c.P body (Exit.inBlock id Q) m a w → (Code.block id (.loop body)).wp X.c.P Q a w := fun hn => wp_block (wp_loop_rounds m hn)
        rcases bindL_some h with ⟨ds, h1, h2⟩ | ⟨ds, h1, h2⟩
        · have := hrecL _ _ _ _ _ _ _ _ _ _ _ h1 X rfl hg0 hf rfl rfl hid a w g2 N2 Q (fun hb => by cases hb) (fun _ a' w' hfin => hR ds h2 a' w' hfin)
          exact fin (by simpa using this)
        · obtain ⟨hchk, h2⟩ := bif_some h2
          have := hrecL _ _ _ _ _ _ _ _ _ _ _ h1 X rfl hg0 hf rfl rfl hid a w g2 N2 Q (fun _ a' w' g' N3 => hK .normal _ a' w' g' h2 (exp_now N3 hchk)) (fun hb => by cases hb)
          exact fin (by simpa using this)
      · cases h
    · have h' : exec X.c rec f X.fn.ntmps X.osk X.pre b st (fun e st' => match e with | .exit j => bif Nat.beq j id then K .normal st' else K (.exit j) st' | e => K e st') = some r := by
        cases b <;> first | exact h | exact absurd ⟨_, rfl⟩ hb
      refine wp_block (exec_sound hn hg0 hrec hrecL hid hf b h' N (fun e st' a' w' g' h1 h2 => ?_) (fun out ho a' w' hfin => hR out ho a' w' hfin))
      cases e with
      | normal => exact hK .normal st' a' w' g' h1 h2
      | ret => exact hK .ret st' a' w' g' h1 h2
      | exit j =>
        simp only [] at h1
        show Exit.inBlock id Q (.exit j) a' w'
        by_cases hj : j = id
        · subst hj
          rw [beq_iff.2 rfl] at h1
          simp only [Exit.inBlock, if_true]
          exact hK .normal st' a' w' g' h1 h2
        · rw [beq_false hj] at h1
          simp only [Exit.inBlock, hj, if_false]
          exact hK (.exit j) st' a' w' g' h1 h2
  | .loop _, st, a, w, g, K, Q, h, N, hK, hR => by simp [exec] at h
  | .scope _, st, a, w, g, K, Q, h, N, hK, hR => by simp [exec] at h
  | .label _, st, a, w, g, K, Q, h, N, hK, hR => by simp [exec] at h
  | .goto _, st, a, w, g, K, Q, h, N, hK, hR => by simp [exec] at h
  | .refuse _, st, a, w, g, K, Q, h, N, hK, hR => by simp [exec] at h
  | .rangeFunc .., st, a, w, g, K, Q, h, N, hK, hR => by simp [exec] at h
theorem results_run {p : Nat → Prop} {g : G} {st : St} {a : Act} {w : World} {P : Program} {u : Nat → Option Obj} (S : At u p g st a w) : ∀ {rs : List ResultVar}, resultsOk P st rs = true →
    ∃ vals, (rs.mapM fun rv => (match rv with | .tmp t => pure (a.tmps.getD t undef) | .cell b t => do loadVar t (← asAddr (a.tmps.getD b undef)) : Sem Value)).run P w = .ok vals w ∧ F2 (VV g) (resultsV P st rs) vals ∧ ∀ x ∈ resultsV P st rs, x.uses p
  | [], _ => ⟨[], by simp, .nil, fun x hx => nomatch hx⟩
  | .tmp t :: rs, h => by
    obtain ⟨vals, h1, h2, h3⟩ := results_run S (rs := rs) h
    refine ⟨a.tmps.getD t undef :: vals, ?_, .cons (S.tm t) h2, fun x hx => ?_⟩
    · rw [List.mapM_cons]
      simp only [Sem.run_bind, Sem.run_pure, Result.andThen_ok, h1]
    · simp only [resultsV] at hx
      rcases List.mem_cons.1 hx with rfl | hx
      · exact S.nm t
      · exact h3 x hx
  | .cell b t :: rs, h => by
    simp only [resultsOk, Bool.and_eq_true] at h
    obtain ⟨vals, h1, h2, h3⟩ := results_run S (rs := rs) h.2
    have h0 := h.1
    split at h0
    · rename_i o off he
      split at h0
      · rename_i cs ho
        have hv := S.tm b
        rw [he] at hv
        have hv := VV_ptr hv
        obtain ⟨c, e, hb, hF, hone⟩ := S.hp.ob _ _ ho
        simp only [Bool.and_eq_true] at h0
        obtain ⟨htok, h0⟩ := h0
        obtain ⟨d, info, hd, hinfo, hg, hs⟩ := tOk_spec htok
        have hcell : CellsAt w ⟨g.blk o, 0, none⟩ c.toList := fun j v hj => by
          rw [addr_add_plain, Nat.zero_add, cell_of_row w _ j c e (0, 0) hb]
          simpa using hj
        have fin : ∀ v vv, resultsV P st (.cell b t :: rs) = vv :: resultsV P st rs → (loadVar t ⟨g.blk o, off, none⟩).run P w = .ok v w → VV g vv v → vv.uses p →
            ∃ vals, ((ResultVar.cell b t :: rs).mapM fun rv => (match rv with | .tmp t => pure (a.tmps.getD t undef) | .cell b t => do loadVar t (← asAddr (a.tmps.getD b undef)) : Sem Value)).run P w = .ok vals w ∧ F2 (VV g) (resultsV P st (.cell b t :: rs)) vals ∧
              ∀ x ∈ resultsV P st (.cell b t :: rs), x.uses p := by
          intro v vv e1 e2 e3 e4
          rw [e1]
          refine ⟨v :: vals, ?_, .cons e3 h2, fun x hx => ?_⟩
          · have hA : (asAddr (a.tmps.getD b undef)).run P w = .ok ⟨g.blk o, off, none⟩ w := by rw [hv]; simp [asAddr]
            rw [List.mapM_cons]
            simp only [Sem.run_bind, hA, Sem.run_pure, Result.andThen_ok, e2, h1]
          · rcases List.mem_cons.1 hx with rfl | hx
            · exact e4
            · exact h3 x hx
        cases hag : isAggT P t with
        | true =>
          rw [hag] at h0 hg
          have hle : off + szT P t ≤ cs.length := Nat.le_of_ble_eq_true h0
          have hlen := hF.length
          refine fin _ (mkAgg ((cs.drop off).take (szT P t))) (by simp only [resultsV, he, ho, hag, cond_true]) (run_loadVar_agg hd hinfo hg.symm (us := (c.toList.drop off).take (szT P t)) (by simp at hlen ⊢; omega) ?_) (VV_of_VA (mkAgg_VA ((hF.drop off).take _))) (uses_of_A (mkAgg_uses fun y hy => ?_))
          · have := (hcell.sub (w := w) off).take (szT P t)
            rwa [addr_add_plain, Nat.zero_add] at this
          · exact (S.hp.use _ _ ho).2 y (List.mem_of_mem_drop (List.mem_of_mem_take hy))
        | false =>
          rw [hag] at h0 hg
          have hlt : Nat.ble (off + 1) cs.length = true := h0
          have hlt := Nat.le_of_ble_eq_true hlt
          obtain ⟨v, hv2, hvv⟩ := hF.get off _ (List.getElem?_eq_getElem hlt)
          have := hcell off v hv2
          rw [addr_add_plain, Nat.zero_add] at this
          refine fin v cs[off] ?_ (run_loadVar_one hd hg.symm this) (VV_of_VA hvv) (uses_of_A ((S.hp.use _ _ ho).2 _ (List.getElem_mem hlt)))
          simp only [resultsV, he, ho, hag, cond_false]
          rw [List.getElem?_eq_getElem hlt]; rfl
      · cases h0
    · cases h0
theorem consec_map : ∀ {sl : List (Nat × SV)} {i : Nat} {pre vals : List Value}, consec i sl = true → pre.length = i → sl.length = vals.length → (sl.map fun x => (pre ++ vals).getD x.1 undef) = vals
  | [], i, pre, vals, _, _, hl => by
    have : vals = [] := List.eq_nil_of_length_eq_zero hl.symm
    subst this; rfl
  | (j, s) :: sl, i, pre, [], _, _, hl => by simp at hl
  | (j, s) :: sl, i, pre, v :: vals, hc, hp, hl => by
    simp only [consec, Bool.and_eq_true] at hc
    have hj : i = j := beq_iff.1 hc.1
    subst hj
    have ih := consec_map (sl := sl) (i := i + 1) (pre := pre ++ [v]) (vals := vals) hc.2 (by simp [hp]) (by simpa using hl)
    simp only [List.append_assoc, List.singleton_append] at ih
    simp only [List.map_cons, ih]
    congr 1
    subst hp
    simp
theorem finish_sound {p : Nat → Prop} {st : St} {a : Act} {w : World} {g : G} {b : Bool} {out : List D} (hid : ∀ l o, lookN X.pre l = some o → o = l) (hat : At X.u p g st a w) (hext : Ext X.g0 X.w0 g w) (hkeep : Keep X.pre X.g0 g) (h : finish X.c.P X.fn.results.toList X.osk X.pre st = some (b, out)) :
    ∃ v, (results X.fn a.tmps).run X.c.P w = .ok v w ∧ FinR X out v w := by
  unfold finish at h
  obtain ⟨hc, h⟩ := bif_some h
  simp only [Bool.and_eq_true] at hc
  obtain ⟨⟨hok, hcon⟩, hlen⟩ := hc
  have hlen : X.osk.slots.length = X.fn.results.toList.length := beq_iff.1 hlen
  obtain ⟨vals, h1, h2, h3⟩ := results_run hat hok
  split at h
  · rename_i cf hcf
    cases h
    have hone : OneR X.pre := fun l l' o h h' => by rw [← hid l o h, ← hid l' o h']
    obtain ⟨gF, M⟩ := conf_sound (tm := fun t => vals.getD t undef) hcf hat.hp (nthV_F2 h2) (nthV_uses h3) hone
    have hrl : (resultsV X.c.P st X.fn.results.toList).length = X.fn.results.toList.length := by
      generalize X.fn.results.toList = rs
      induction rs with
      | nil => rfl
      | cons x rs ih => cases x <;> simp [resultsV, ih]
    have hvl : X.osk.slots.length = vals.length := by rw [hlen, ← hrl, h2.length]
    refine ⟨resVal X.osk.slots fun t => vals.getD t undef, ?_, gOf g gF cf.ren, fun t => vals.getD t undef, M.sim hat.hp, fun t => ⟨M.tm t, M.nm t⟩, hext.trans ⟨M.a.h, rfl, rfl, rfl, Nat.le_refl _⟩, fun l o hl => ?_, rfl⟩
    · have hm := consec_map (pre := []) hcon rfl hvl
      simp only [List.nil_append] at hm
      unfold resVal
      rw [hm]
      unfold results
      have e : (X.fn.results.mapM fun rv => (match rv with | .tmp t => pure (a.tmps.getD t undef) | .cell b t => do loadVar t (← asAddr (a.tmps.getD b undef)) : Sem Value)).run X.c.P w = .ok vals.toArray w := by
        rw [Array.mapM_eq_mapM_toList, map_eq_pure_bind]
        simp only [Sem.run_bind, h1, Result.andThen_ok, Sem.run_pure]
      simp only [Sem.run_bind]
      refine (congrArg (fun z : Result (Array Value) => z.andThen fun (a : Array Value) w' => Sem.run X.c.P (pure (if h : a.size = 1 then a[0] else .tuple a)) w') e).trans ?_
      simp only [Result.andThen_ok, Sem.run_pure]
      congr 1
      match vals with
      | [] => rfl
      | [v] => rfl
      | v :: v' :: vs => simp
    · have k1 := M.pre l o hl
      have k2 := hid l o hl
      subst k2
      obtain ⟨k3, k4⟩ := hkeep o o hl
      exact ⟨by simp only [gOf, k1, Option.getD_some]; exact k3, by simp only [gOf, k1, Option.getD_some]; exact k4⟩
  · cases h
theorem finish_true {st : St} {b : Bool} {out : List D} (h : finish X.c.P X.fn.results.toList X.osk X.pre st = some (b, out)) : b = true := by
  unfold finish at h
  obtain ⟨_, h⟩ := bif_some h
  split at h
  · cases h; rfl
  · cases h
theorem finishL_true : ∀ {df : List (Nat × List (Nat × Nat))} {st : St} {b : Bool} {out : List D}, finishL X.c rec X.fn.results.toList X.osk X.pre df st = some (b, out) → b = true
  | [], st, b, out, h => finish_true h
  | (f, zs) :: r, st, b, out, h => by
    simp only [finishL] at h
    rw [doCall_par] at h
    obtain ⟨⟨v, st'⟩, _, h⟩ := bindSome h
    exact finishL_true h
theorem ptrs_F2 {g : G} (hkeep : Keep X.pre X.g0 g) : ∀ {zs : List (Nat × Nat)}, (∀ l ∈ zs, lookN X.pre l.1 = some l.1) → F2 (VV g) (zs.map fun x => V.ptr x.1 x.2) (zs.map fun l => Value.pointer (some ⟨X.g0.blk l.1, l.2, none⟩))
  | [], _ => .nil
  | x :: zs, h => by
    refine .cons ?_ (ptrs_F2 hkeep fun l hl => h l (by simp [hl]))
    show Value.pointer _ = .pointer (some ⟨g.blk x.1, x.2, none⟩)
    rw [(hkeep _ _ (h x (by simp))).1]
theorem finishL_sound (hn : NamesOk X.c) (hg0 : X.c.gok X.g0.h) (hrec : RecOk X.c rec) (hid : ∀ l o, lookN X.pre l = some o → o = l) {b : Bool} {out : List D} : ∀ (df : List (Nat × List (Nat × Nat))) (st : St) (a : Act) (w : World) (g : G), finishL X.c rec X.fn.results.toList X.osk X.pre df st = some (b, out) →
    At X.u (· < st.n) g st a w → Ext X.g0 X.w0 g w → Keep X.pre X.g0 g → (∀ l o, lookN X.pre l = some o → l < st.n) → (∀ d ∈ df, ∀ l ∈ d.2, lookN X.pre l.1 = some l.1) →
    Leaves X.c.P X.fn a.tmps (fun e w' => ∃ v, e = .returned v ∧ FinR X out v w') (dls X.g0 df) .returning w := by
  intro df
  induction df with
  | nil =>
    intro st a w g h hat hext hkeep hpre hlab
    obtain ⟨v, h1, h2⟩ := finish_sound hid hat hext hkeep h
    exact ⟨v, h1, v, rfl, h2⟩
  | cons d r ih =>
    obtain ⟨fid, zs⟩ := d
    intro st a w g h hat hext hkeep hpre hlab
    simp only [finishL] at h
    have hl0 := hlab (fid, zs) (by simp)
    have hF := ptrs_F2 (g := g) hkeep hl0
    have hu : ∀ x ∈ (zs.map fun x => V.ptr x.1 x.2), x.uses (· < st.n) := by
      intro x hx
      obtain ⟨y, hy, rfl⟩ := List.mem_map.1 hx
      exact hpre _ _ (hl0 y hy)
    obtain ⟨fn, hfn, hb, vv, st1, hk, hc⟩ := doCall_core (CL := Later X.c.P) (q := (· < st.n + 32)) (fun f a w R R' h hr => CallsD.mono h fun e u' w' k => ⟨k.1, hr _ _ k.2⟩) (no := true) hn.2.2.1 (hn.2.2.1 _ _ hext.h hg0) (fun sk ds out h hno => (hrec _ _ _ _ h).2 (hno rfl)) hat.hp (fun x hx => (Nat.lt_add_right 32 hx : x < st.n + 32)) (fun k hk => ⟨Nat.not_lt.2 (Nat.le_add_right _ _), (Nat.add_lt_add_left hk _ : st.n + k < st.n + 32)⟩) hF hu h
    have e0 : dls X.g0 ((fid, zs) :: r) = { target := .fn (.func fid) #[], args := (zs.map fun l => Value.pointer (some ⟨X.g0.blk l.1, l.2, none⟩)).toArray } :: dls X.g0 r := rfl
    rw [e0]
    generalize (zs.map fun l => Value.pointer (some ⟨X.g0.blk l.1, l.2, none⟩)).toArray = vals at hc
    generalize dls X.g0 r = ds0 at ih
    refine leaves_cons (f := fid) (args := vals) (u := .returning) (by simp) ?_ (CallsD.mono hc ?_)
    · have hname := hn.1 fid fn hfn
      have hname : fn.name ≠ "runtime.NumGoroutine" := by simpa using hname
      have hbn : fn.body ≠ none := by intro h; rw [h] at hb; cases hb
      simp [invoke, callFunc, hfn, hname, hbn]
    · rintro e u' w' ⟨rfl, v, rfl, g', s1, s2, s3, s4, s5, s6, s7⟩
      show Leaves _ _ _ _ _ .returning w'
      refine ih { st1 with m := ⟨st.n + 32, st1.m.df⟩ } a w' g' hk ⟨s1, fun t => ?_, fun t => ?_⟩ (hext.trans s3) (hkeep.agree s2 hpre) (fun l o hl => Nat.lt_of_lt_of_le (hpre l o hl) (by show st.n ≤ st.n + 32; omega)) (fun d hd => hlab d (by simp [hd]))
      · show VV g' (st1.t t) _
        rw [s6]
        exact (hat.tm t).agree s2 (hat.nm t)
      · show (st1.t t).uses _
        rw [s6]
        exact (hat.nm t).mono (fun x hx => by show x < st.n + 32; omega)
theorem finishN (hn : NamesOk X.c) (hg0 : X.c.gok X.g0.h) (hrec : RecOk X.c rec) (hid : ∀ l o, lookN X.pre l = some o → o = l) {b : Bool} {out : List D} {st : St} {a : Act} {w : World} {g : G} (h : finishL X.c rec X.fn.results.toList X.osk X.pre st.m.df st = some (b, out)) (N : Now X (· < st.n) g st a w) : b = true ∧ Fin X out a w := by
  refine ⟨finishL_true h, ?_⟩
  unfold Fin
  rw [N.def_.1]
  exact finishL_sound hn hg0 hrec hid _ _ _ _ _ h N.at_ N.ext N.keep N.pre N.def_.2
theorem execIn_sound (hn : NamesOk X.c) (hg0 : X.c.gok X.g0.h) (hrec : RecOk X.c rec) {m : Nat} (hrecL : RecL m X.c rec) (hid : ∀ l o, lookN X.pre l = some o → o = l) (hf : X.c.P.funcs[f]? = some X.fn) {code : Code} {st : St} {a : Act} {w : World} {g : G} {K : Ex → St → Out} {Q : Exit → Act → World → Prop}
    (h : execIn X.c rec f X.fn.ntmps X.osk X.pre code st K = some r) (N : Now X (· < st.n) g st a w)
    (hK : ∀ e st' a' w' g', K e st' = some r → Now X (· < st'.n) g' st' a' w' → Q (toEx e) a' w') (hR : ∀ out, r = (true, out) → ∀ a' w', Fin X out a' w' → Q .ret a' w') : code.wp X.c.P Q a w := by
  unfold execIn at h
  split at h
  · rename_i x y z
    split at h
    · rename_i b hb
      have hv := N.at_.ev x
      rw [hb] at hv
      have hv := VV_bool hv
      cases b with
      | true =>
        simp only [cond_true] at h
        rw [refine_now N hb] at h
        exact wp_cond_true hv (exec_sound hn hg0 hrec hrecL hid hf y h N hK hR)
      | false =>
        simp only [cond_false] at h
        rw [refine_now N hb] at h
        exact wp_cond_false hv (exec_sound hn hg0 hrec hrecL hid hf z h N hK hR)
    · cases h
  · cases h
theorem getD_start (args : Array Value) (n t : Nat) : (args ++ Array.replicate n undef).getD t undef = args.getD t undef := by
  simp only [Array.getD_eq_getD_getElem?, Array.getElem?_append]
  split
  · rfl
  · rename_i hlt
    rw [Array.getElem?_eq_none (by omega : args.size ≤ t), Array.getElem?_replicate]
    split <;> rfl
theorem run_sound {c : Cfg} (hn : NamesOk c) (horc : ∀ f sk ds r, c.orc f sk ds = some r → CallSpec c f sk ds r) : ∀ n, RecOk c (run c n) ∧ RecL n c (run c n)
  | 0 => ⟨fun f sk ds out h => by simp [run] at h, fun f osk pre df once id body sk ds b out h => by simp [run] at h⟩
  | n + 1 => by
    obtain ⟨ih1, ih2⟩ := run_sound hn horc n
    refine ⟨fun f sk ds out h => ?_, fun f osk pre df once id body sk ds b out h => ?_⟩
    · simp only [run] at h
      split at h
      · rename_i r hr
        cases h
        exact ⟨horc f sk ds _ hr, fun hno => by rw [hno] at hr; cases hr⟩
      · split at h
        · rename_i fn hfn
          split at h
          · rename_i body hbody
            obtain ⟨hchk, h⟩ := bif_some h
            have main : ∀ (u : Nat → Option Obj) (g : G), c.gok g.h → ∀ (args : Array Value) (w : World), args.size = sk.slots.length → SimH u (· < sk.objs.length) g (injectE E0 sk ds).h w →
                (∀ t, VV g ((injectE E0 sk ds).t t) (args.getD t undef) ∧ ((injectE E0 sk ds).t t).uses (· < sk.objs.length)) →
                body.wp c.P (bodyPostD c.P fn fun e w' => ∃ v, e = .returned v ∧ FinR ⟨c, fn, u, outSk c.P (c.dres f) fn.resultTypes.toList sk, preOf 0 sk.objs, g, w⟩ out v w') { tmps := args ++ Array.replicate (fn.ntmps - args.size) undef, defers := [] } w := by
              intro u g hg0 args w hsize S T
              let X : FX := ⟨c, fn, u, outSk c.P (c.dres f) fn.resultTypes.toList sk, preOf 0 sk.objs, g, w⟩
              have hid : ∀ l o, lookN X.pre l = some o → o = l := fun l o hl => (preOf_iff.1 hl).1
              have N0 : Now X (· < sk.objs.length) g ((injectE E0 sk ds).later []) { tmps := args ++ Array.replicate (fn.ntmps - args.size) undef, defers := [] } w := by
                refine ⟨⟨S, fun t => ?_, fun t => (T t).2⟩, ?_, ⟨rfl, fun d hd => by cases hd⟩, Ext.refl g w, fun l o _ => ⟨rfl, rfl, fun _ _ k => k⟩, fun l o hl => ?_⟩
                · show VV g _ ((args ++ Array.replicate (fn.ntmps - args.size) undef).getD t undef)
                  rw [getD_start]; exact (T t).1
                · show fn.ntmps ≤ (args ++ Array.replicate (fn.ntmps - args.size) undef).size
                  simp; omega
                · obtain ⟨_, k, s, h1, h2, _⟩ := preOf_iff.1 hl
                  have := (List.getElem?_eq_some_iff.1 h2).1
                  omega
              refine exec_sound (X := X) hn hg0 ih1 ih2 hid hfn body h (exp_now N0 hchk) (fun e st' a' w' g' h1 h2 => ?_) (fun out' ho a' w' hfin => ?_)
              · cases e with
                | ret => exact (finishN hn hg0 ih1 hid h1 h2).2
                | normal => exact (finishN hn hg0 ih1 hid h1 h2).2
                | exit j => cases h1
              · cases ho
                exact hfin
            refine ⟨fun fn' hfn' u g hg0 args w hsize S T => ?_, fun _ fn' hfn' u g hg0 args w hsize S T => ?_⟩
            · rw [hfn] at hfn'
              cases hfn'
              exact calls_of_wp_defers hfn hbody (main u g hg0 args w hsize S T)
            · rw [hfn] at hfn'
              cases hfn'
              exact callsD_of_wp_defers rfl hfn hbody (main u g hg0 args w hsize S T)
          · cases h
        · cases h
    · simp only [run] at h
      split at h
      · rename_i fn hfn
        obtain ⟨hchk, h⟩ := bif_some h
        intro X hX hg0 hXf hXo hXp hid a w g N Q hQ hQr
        subst hX
        rw [hfn] at hXf
        simp only [Option.some.injEq] at hXf
        subst hXf
        subst hXo
        subst hXp
        have N1 := exp_now N hchk
        cases once with
        | true =>
          simp only [cond_true] at h
          simp only [if_true]
          refine execIn_sound hn hg0 ih1 ih2 hid hfn h N1 (fun e st' a' w' g' h1 h2 => ?_) (fun out' ho a' w' hfin => ?_)
          · cases e with
            | ret =>
              obtain ⟨hb, hfin⟩ := finishN hn hg0 ih1 hid h1 h2
              exact hQr hb a' w' hfin
            | normal =>
              simp only [] at h1
              replace h1 := bif_none_some h1
              obtain ⟨hdf, h1⟩ := h1
              rw [Bool.not_eq_false'] at hdf
              have hdf := sameDf_eq hdf
              subst hdf
              split at h1
              · rename_i cf hcf
                simp only [cond_true, Option.some.injEq, Prod.mk.injEq] at h1
                obtain ⟨h1, h3⟩ := h1
                obtain ⟨g2, N2⟩ := conf_now h2 hid hcf
                rw [h3] at N2
                exact hQ h1.symm a' w' g2 N2
              · cases h1
            | exit j => simp at h1
          · cases ho
            exact hQr rfl a' w' hfin
        | false =>
          simp only [cond_false] at h
          simp only [Bool.false_eq_true, if_false, rounds_succ]
          refine exec_sound hn hg0 ih1 ih2 hid hfn body h N1 (fun e st' a' w' g' h1 h2 => ?_) (fun out' ho a' w' hfin => ?_)
          · cases e with
            | ret =>
              obtain ⟨hb, hfin⟩ := finishN hn hg0 ih1 hid h1 h2
              exact hQr hb a' w' hfin
            | normal =>
              simp only [] at h1
              replace h1 := bif_none_some h1
              obtain ⟨hdf, h1⟩ := h1
              rw [Bool.not_eq_false'] at hdf
              have hdf := sameDf_eq hdf
              subst hdf
              split at h1
              · rename_i cf hcf
                obtain ⟨g2, N2⟩ := conf_now h2 hid hcf
                have := ih2 _ _ _ _ _ _ _ _ _ _ _ h1 X rfl hg0 hfn rfl rfl hid a' w' g2 N2 Q hQ hQr
                simp only [Bool.false_eq_true, if_false] at this
                exact this
              · cases h1
            | exit j =>
              replace h1 := bif_some h1
              obtain ⟨hj, h1⟩ := h1
              simp only [Bool.not_false, Bool.and_true, Bool.and_eq_true] at hj
              have hdf := sameDf_eq hj.2
              subst hdf
              have hj : j = id := beq_iff.1 hj.1
              subst hj
              split at h1
              · rename_i cf hcf
                cases h1
                obtain ⟨g2, N2⟩ := conf_now h2 hid hcf
                show Exit.inBlock j Q (.exit j) a' w'
                simp only [Exit.inBlock, if_true]
                exact hQ rfl a' w' g2 N2
              · cases h1
          · cases ho
            exact hQr rfl a' w' hfin
      · cases h
end
end Go.AE
namespace Go.AE
open Go.RowKit
def extAdd64 : List D → Option (Bool × List D)
  | [.int .u64 x, .int .u64 y, .int .u64 c] => some (decide (0 ≤ x) && decide (0 ≤ y) && decide (0 ≤ c) && decide (c ≤ 1), [.int .u64 ((x + y + c) % 18446744073709551616), .int .u64 ((x + y + c) / 18446744073709551616)])
  | _ => none
def idxByte (c : UInt8) : List UInt8 → Nat → Int
  | [], _ => -1
  | x :: xs, j => bif x == c then (j : Int) else idxByte c xs (j + 1)
def extIndexByte : List D → Option (Bool × List D)
  | [.str s, .int .u8 c] => some (true, [.int .i64 (idxByte c.toNat.toUInt8 s 0)])
  | _ => none
def HasInt (gv : Nat) (h : Nat → Option Obj) : Prop := ∃ m : Int, cellIn h ⟨gv, 0, none⟩ = some (.int .i64 m)
def ExtOne (c : Cfg) (f : Nat) (x : List D → Option (Bool × List D)) : Prop := ∀ (ds r : List D), x ds = some (true, r) → ∀ (g : G) (vals : Array Value) (w : World), F2 (VV g) (ds.map V.d) vals.toList →
  ∃ v, (callFunc f vals).run c.P w = .ok (.value v) w ∧ VV g (oneV (r.map V.d)) v
def extTab : List (Nat × (List D → Option (Bool × List D))) → Nat → List D → Option (Bool × List D)
  | [], _, _ => none
  | (a, x) :: r, f, ds => bif Nat.beq f a then x ds else extTab r f ds
theorem extTab_spec {c : Cfg} : ∀ (l : List (Nat × (List D → Option (Bool × List D)))), (∀ p ∈ l, ExtOne c p.1 p.2) → (∀ f ds, c.ext f ds = extTab l f ds) → ExtSpec c := by
  intro l hl he f ds r h
  rw [he] at h
  clear he
  induction l with
  | nil => cases h
  | cons p l ih =>
    obtain ⟨a, x⟩ := p
    simp only [extTab] at h
    by_cases e : f = a
    · subst e
      rw [beq_iff.2 rfl, cond_true] at h
      exact hl (f, x) (by simp) ds r h
    · rw [beq_false e, cond_false] at h
      exact ih (fun p hp => hl p (by simp [hp])) h
theorem ext_add64 {c : Cfg} {f : Nat} {fn : Func} (hf : c.P.funcs[f]? = some fn) (hname : (fn.name == "runtime.NumGoroutine") = false) (hb : fn.body.isNone = true) (hn : Extern.findNext fn = none) (he : Extern.find fn = some add64Entry) : ExtOne c f extAdd64 := by
  intro ds r h g vals w hF
  unfold extAdd64 at h
  split at h
  · rename_i x y z
    cases h1 : (decide (0 ≤ x) && decide (0 ≤ y) && decide (0 ≤ z) && decide (z ≤ 1)) with
    | false => rw [h1] at h; cases h
    | true =>
      rw [h1] at h
      simp only [Bool.and_eq_true, decide_eq_true_eq] at h1
      cases h
      have hv : vals = #[.int .u64 x, .int .u64 y, .int .u64 z] := by
        obtain ⟨l, hv⟩ : ∃ l, vals.toList = l := ⟨_, rfl⟩
        rw [hv] at hF
        cases hF with
        | @cons _ v1 _ _ a1 hF => cases hF with
          | @cons _ v2 _ _ a2 hF => cases hF with
            | @cons _ v3 _ _ a3 hF => cases hF with
              | nil =>
                apply Array.ext'
                rw [hv]
                have b1 : v1 = .int .u64 x := a1
                have b2 : v2 = .int .u64 y := a2
                have b3 : v3 = .int .u64 z := a3
                rw [b1, b2, b3]
      subst hv
      refine ⟨.tuple #[.int .u64 ((x + y + z) % 18446744073709551616), .int .u64 ((x + y + z) / 18446744073709551616)], ?_, ?_⟩
      · rw [run_callFunc_extern hf hname hb hn he, run_add64 x y z h1.1.1.1 h1.1.1.2 h1.1.2 h1.2]
        rfl
      · exact ⟨_, rfl, .cons rfl (.cons rfl .nil)⟩
  · cases h
theorem idxByte_spec (c : UInt8) (s : List UInt8) (b : ByteArray) (hb : b.data.toList = s) : firstIdx b c = idxByte c s 0 := by
  have key : ∀ (l : List UInt8) (j : Nat), (∀ k, k < l.length → b[j + k]! = l[k]!) → idxByte c l j = match (List.range' j l.length).find? (fun i => b[i]! == c) with | some i => (i : Int) | none => -1 := by
    intro l
    induction l with
    | nil => intro j _; rfl
    | cons x xs ih =>
      intro j hk
      simp only [idxByte, List.length_cons, List.range'_succ, List.find?_cons]
      have h0 := hk 0 (by simp)
      simp at h0
      rw [h0]
      cases x == c with
      | true => rfl
      | false =>
        simp only [cond_false]
        rw [ih (j + 1) fun k hkl => by
          have := hk (k + 1) (by simpa using hkl)
          rw [show j + (k + 1) = j + 1 + k by omega] at this
          rw [this]; simp]
  have hsz : b.size = s.length := by rw [← hb]; simp
  unfold firstIdx
  rw [key s 0 fun k hk => by
    rw [Nat.zero_add]
    subst hb
    have hk' : k < b.size := by rw [hsz]; exact hk
    rw [getElem!_pos b k hk', getElem!_pos b.data.toList k hk]
    simp [ByteArray.getElem_eq_getElem_data], hsz, List.range_eq_range']
  cases List.find? (fun i => b[i]! == c) (List.range' 0 s.length) <;> rfl
theorem ext_indexByte {c : Cfg} {f : Nat} {fn : Func} (hf : c.P.funcs[f]? = some fn) (hname : (fn.name == "runtime.NumGoroutine") = false) (hb : fn.body.isNone = true) (hn : Extern.findNext fn = none) (he : Extern.find fn = some Extern.BytealgIndexByte.indexByte) : ExtOne c f extIndexByte := by
  intro ds r h g vals w hF
  unfold extIndexByte at h
  split at h
  · rename_i s n
    cases h
    have hv : ∃ b : ByteArray, b.data.toList = s ∧ vals = #[.string b, .int .u8 n] := by
      obtain ⟨l, hv⟩ : ∃ l, vals.toList = l := ⟨_, rfl⟩
      rw [hv] at hF
      cases hF with
      | @cons _ v1 _ _ a1 hF => cases hF with
        | @cons _ v2 _ _ a2 hF => cases hF with
          | nil =>
            obtain ⟨b, b1, b2⟩ := (show VD g.h (.str s) v1 from a1)
            have b3 : v2 = .int .u8 n := a2
            refine ⟨b, b2, ?_⟩
            apply Array.ext'
            rw [hv, b1, b3]
    obtain ⟨b, hs, rfl⟩ := hv
    refine ⟨.int .i64 (firstIdx b n.toNat.toUInt8), ?_, ?_⟩
    · rw [run_callFunc_extern hf hname hb hn he, run_indexByte_string]
      rfl
    · show Value.int .i64 _ = _
      rw [idxByte_spec _ s b hs]
  · cases h
end Go.AE
namespace Go.AE
open Go.ChangeShapes Go.WideShapes Go.ChangeAt Go.RowKit
def snap (W : World) : Nat → Option Obj := fun b => W.heap[b]?
mutual
def bulkD : D → Nat
  | .str s => s.length + 1
  | .lst _ xs => bulkL xs + 1
  | .agg cs => bulkL cs
  | _ => 1
def bulkL : List D → Nat
  | [] => 0
  | x :: xs => bulkD x + bulkL xs
end
structure Meas {H : Type} (m : DataW H → Nat) (ma : List (DataW H) → Nat) : Prop where
  one : ∀ d, 1 ≤ m d
  str : ∀ b, b.length + 1 ≤ m (.lit (.string b))
  slice : ∀ e s, ma e + 1 ≤ m (.slice e s)
  agg : ∀ p, ma p ≤ m (.agg p)
  nil : ma [] = 0
  cons : ∀ d r, ma (d :: r) = m d + ma r
def layOk (P : Program) (total : Nat) : Nat → List Field → Bool
  | off, [] => Nat.beq off total
  | off, f :: fs => Nat.beq f.offset off && layOk P total (off + P.cellsOf f.type) fs
def plainT (P : Program) : Nat → TypeId → Bool
  | 0, _ => false
  | n + 1, t => match P.underlying t with
    | some .bool => true
    | some (.int _) => true
    | some .string => true
    | some (.slice e) => plainT P n e && tOk P e
    | some (.struct fs) => layOk P (P.cellsOf t) 0 fs.toList && fs.toList.all fun f => plainT P n f.type
    | some (.array k e) => Nat.beq (P.cellsOf t) (k * P.cellsOf e) && plainT P n e
    | _ => false
def wtL (P : Program) : Nat → TypeId → List D → Prop
  | 0, _, _ => False
  | n + 1, t, xs => match P.underlying t with
    | some .bool => ∃ b, xs = [.bool b]
    | some (.int k) => ∃ i, xs = [.int k i] ∧ (Lit.int k i).wf = true
    | some .string => ∃ s, xs = [.str s]
    | some (.slice e) => ∃ ys, xs = [.lst (szT P e) ys] ∧ ∀ y ∈ ys, if isAggT P e = true then ∃ cs, y = .agg cs ∧ wtL P n e cs else wtL P n e [y]
    | some (.struct fs) => ∃ parts : List (List D), xs = parts.flatten ∧ F2 (fun f p => wtL P n f.type p) fs.toList parts
    | some (.array k e) => ∃ parts : List (List D), xs = parts.flatten ∧ parts.length = k ∧ ∀ p ∈ parts, wtL P n e p
    | _ => False
def wtV (P : Program) (n : Nat) (t : TypeId) (x : D) : Prop := if isAggT P t = true then ∃ cs, x = .agg cs ∧ wtL P n t cs else wtL P n t [x]
theorem szT_cellsOf (P : Program) (t : TypeId) : szT P t = P.cellsOf t := by
  unfold szT Program.cellsOf
  cases P.info? t <;> rfl
theorem bulkL_append (xs ys : List D) : bulkL (xs ++ ys) = bulkL xs + bulkL ys := by
  induction xs with
  | nil => simp [bulkL]
  | cons x xs ih => simp only [List.cons_append, bulkL, ih]; omega
theorem VDs_append {h : Nat → Option Obj} {xs ys : List D} {us vs : List Value} (h1 : VDs h xs us) (h2 : VDs h ys vs) : VDs h (xs ++ ys) (us ++ vs) :=
  (VDs_F2 h _ _).2 (((VDs_F2 h _ _).1 h1).append ((VDs_F2 h _ _).1 h2))
section
variable {H : Type} {enc : TypeId × Value → H} {P : Program} {W : World} {base : Nat} {sp : Nat → Bool} {held : Bool} {m : DataW H → Nat} {ma : List (DataW H) → Nat}
def Leaves (P : Program) (W : World) (n : Nat) (t : TypeId) (cs : List Value) (b : Nat) : Prop :=
  ∃ xs, VDs (snap W) xs cs ∧ wtL P n t xs ∧ bulkL xs ≤ b ∧ ∀ u ∈ cs, u.oneCell' = true
theorem mapM_cons_some {α β : Type} {f : α → Option β} {x : α} {l : List α} {r : List β} (h : (x :: l).mapM f = some r) : ∃ y ys, f x = some y ∧ l.mapM f = some ys ∧ r = y :: ys := by
  rw [List.mapM_cons] at h
  cases hx : f x with
  | none => rw [hx] at h; cases h
  | some y =>
    rw [hx] at h
    cases hl : l.mapM f with
    | none => rw [hl] at h; cases h
    | some ys => rw [hl] at h; cases h; exact ⟨y, ys, rfl, rfl, rfl⟩
theorem fields_leaves (M : Meas m ma) {n fuel : Nat} (ih : ∀ t cs d ps, DataW.trod enc P W base sp held fuel t cs = some (d, ps) → plainT P n t = true → Leaves P W n t cs (m d)) {cs : List Value} {total : Nat} (hlen : cs.length = total) :
    ∀ (fs : List Field) (off : Nat) (ys : List (DataW H × List MemPlace)), layOk P total off fs = true → (fs.all fun f => plainT P n f.type) = true →
      (fs.mapM fun f => DataW.trod enc P W base sp held fuel f.type ((cs.drop f.offset).take (P.cellsOf f.type))) = some ys →
      ∃ parts : List (List D), F2 (fun f p => wtL P n f.type p) fs parts ∧ VDs (snap W) parts.flatten (cs.drop off) ∧ bulkL parts.flatten ≤ ma (ys.map (·.1)) ∧ ∀ u ∈ cs.drop off, u.oneCell' = true
  | [], off, ys, hl, _, h => by
    have : off = total := beq_iff.1 hl
    subst this
    have e : cs.drop off = [] := List.drop_eq_nil_of_le (by omega)
    cases h
    rw [e]
    exact ⟨[], .nil, rfl, by simp [bulkL], fun u hu => by cases hu⟩
  | f :: fs, off, ys, hl, hp, h => by
    simp only [layOk, Bool.and_eq_true] at hl
    simp only [List.all_cons, Bool.and_eq_true] at hp
    have ho : f.offset = off := beq_iff.1 hl.1
    obtain ⟨y, ys', h1, h2, rfl⟩ := mapM_cons_some h
    obtain ⟨d, ps⟩ := y
    obtain ⟨xs, k1, k2, k3, k4⟩ := ih _ _ _ _ h1 hp.1
    obtain ⟨parts, j1, j2, j3, j4⟩ := fields_leaves M ih hlen fs (off + P.cellsOf f.type) ys' hl.2 hp.2 h2
    rw [ho] at k1 k4
    have e : cs.drop off = (cs.drop off).take (P.cellsOf f.type) ++ cs.drop (off + P.cellsOf f.type) := by
      rw [← List.drop_drop, List.take_append_drop]
    refine ⟨xs :: parts, .cons k2 j1, ?_, ?_, fun u hu => ?_⟩
    · rw [e, List.flatten_cons]; exact VDs_append k1 j2
    · rw [List.flatten_cons, bulkL_append, List.map_cons, M.cons]; exact Nat.add_le_add k3 j3
    · rw [e] at hu
      rcases List.mem_append.1 hu with hu | hu
      · exact k4 u hu
      · exact j4 u hu
theorem array_leaves (M : Meas m ma) {n fuel : Nat} (ih : ∀ t cs d ps, DataW.trod enc P W base sp held fuel t cs = some (d, ps) → plainT P n t = true → Leaves P W n t cs (m d)) {cs : List Value} {e : TypeId} (he : plainT P n e = true) :
    ∀ (k s : Nat) (ys : List (DataW H × List MemPlace)), cs.length = (s + k) * P.cellsOf e →
      ((List.range' s k).mapM fun i => DataW.trod enc P W base sp held fuel e ((cs.drop (i * P.cellsOf e)).take (P.cellsOf e))) = some ys →
      ∃ parts : List (List D), parts.length = k ∧ (∀ p ∈ parts, wtL P n e p) ∧ VDs (snap W) parts.flatten (cs.drop (s * P.cellsOf e)) ∧ bulkL parts.flatten ≤ ma (ys.map (·.1)) ∧ ∀ u ∈ cs.drop (s * P.cellsOf e), u.oneCell' = true
  | 0, s, ys, hl, h => by
    have e : cs.drop (s * P.cellsOf e) = [] := List.drop_eq_nil_of_le (by rw [hl]; simp)
    cases h
    rw [e]
    refine ⟨[], rfl, fun p hp => (by cases hp), rfl, by simp [bulkL], fun u hu => (by cases hu)⟩
  | k + 1, s, ys, hl, h => by
    rw [List.range'_succ] at h
    obtain ⟨y, ys', h1, h2, rfl⟩ := mapM_cons_some h
    obtain ⟨d, ps⟩ := y
    obtain ⟨xs, k1, k2, k3, k4⟩ := ih _ _ _ _ h1 he
    obtain ⟨parts, j1, j2, j3, j4, j5⟩ := array_leaves M ih he k (s + 1) ys' (by rw [hl]; congr 1; omega) h2
    have e : cs.drop (s * P.cellsOf e) = (cs.drop (s * P.cellsOf e)).take (P.cellsOf e) ++ cs.drop ((s + 1) * P.cellsOf e) := by
      rw [Nat.succ_mul, ← List.drop_drop, List.take_append_drop]
    refine ⟨xs :: parts, by simp [j1], fun p hp => ?_, ?_, ?_, fun u hu => ?_⟩
    · rcases List.mem_cons.1 hp with rfl | hp
      · exact k2
      · exact j2 p hp
    · rw [e, List.flatten_cons]; exact VDs_append k1 j3
    · rw [List.flatten_cons, bulkL_append, List.map_cons, M.cons]; exact Nat.add_le_add k3 j4
    · rw [e] at hu
      rcases List.mem_append.1 hu with hu | hu
      · exact k4 u hu
      · exact j5 u hu
theorem mapM_get {α β : Type} {f : α → Option β} : ∀ {l : List α} {r : List β}, l.mapM f = some r → ∀ (j : Nat) (y : β), r[j]? = some y → ∃ x, l[j]? = some x ∧ f x = some y
  | [], r, h, j, y, hj => by cases h; simp at hj
  | x :: l, r, h, j, y, hj => by
    obtain ⟨y0, ys, h1, h2, rfl⟩ := mapM_cons_some h
    cases j with
    | zero => simp at hj; subst hj; exact ⟨x, rfl, h1⟩
    | succ j => simpa using mapM_get h2 j y (by simpa using hj)
theorem one_value {n : Nat} {t : TypeId} {cs : List Value} {b : Nat} (h : Leaves P W n t cs b) : ∃ (x : D) (v : Value), VD (snap W) x v ∧ wtV P n t x ∧ bulkD x ≤ b ∧ v.cells.toList = cs := by
  obtain ⟨xs, h1, h2, h3, h4⟩ := h
  unfold wtV
  cases n with
  | zero => exact h2.elim
  | succ n =>
    cases hg : isAggT P t with
    | true =>
      refine ⟨.agg xs, .agg cs.toArray, ⟨cs.toArray, rfl, by simpa using h1⟩, by rw [if_pos rfl]; exact ⟨xs, rfl, h2⟩, by simpa [bulkD] using h3, by simp [Value.cells]⟩
    | false =>
      have one : ∀ x, xs = [x] → ∃ (x : D) (v : Value), VD (snap W) x v ∧ (if false = true then ∃ cs, x = .agg cs ∧ wtL P (n + 1) t cs else wtL P (n + 1) t [x]) ∧ bulkD x ≤ b ∧ v.cells.toList = cs := by
        intro x hx
        subst hx
        obtain ⟨u, r, rfl, k1, k2⟩ := h1
        have k2 : r = [] := k2
        subst k2
        refine ⟨x, u, k1, by rw [if_neg (by simp)]; exact h2, ?_, ?_⟩
        · simpa [bulkL] using h3
        · rw [cells_one (h4 u (by simp))]
      have h2' := h2
      simp only [wtL] at h2'
      split at h2'
      · obtain ⟨b, rfl⟩ := h2'; exact one _ rfl
      · obtain ⟨b, rfl, _⟩ := h2'; exact one _ rfl
      · obtain ⟨b, rfl⟩ := h2'; exact one _ rfl
      · obtain ⟨b, rfl, _⟩ := h2'; exact one _ rfl
      · rename_i e; simp [isAggT, e, isAggD] at hg
      · rename_i e; simp [isAggT, e, isAggD] at hg
      · exact h2'.elim
theorem slice_leaves (M : Meas m ma) {n fuel : Nat} (ih : ∀ t cs d ps, DataW.trod enc P W base sp held fuel t cs = some (d, ps) → plainT P n t = true → Leaves P W n t cs (m d)) {a : Addr} {e : TypeId} (he : plainT P n e = true) :
    ∀ (k s : Nat) (ys : List (DataW H × List MemPlace)),
      ((List.range' s k).mapM fun i => (W.cells? base (a.add (i * P.cellsOf e)) (P.cellsOf e)).bind (DataW.trod enc P W base sp held fuel e)) = some ys →
      ∃ xs : List D, xs.length = k ∧ VDr (snap W) (P.cellsOf e) xs (a.add (s * P.cellsOf e)) ∧ (∀ x ∈ xs, wtV P n e x) ∧ bulkL xs ≤ ma (ys.map (·.1))
  | 0, s, ys, h => by cases h; exact ⟨[], rfl, trivial, fun x hx => (by cases hx), by simp [bulkL]⟩
  | k + 1, s, ys, h => by
    rw [List.range'_succ] at h
    obtain ⟨y, ys', h1, h2, rfl⟩ := mapM_cons_some h
    obtain ⟨d, ps⟩ := y
    obtain ⟨xs, j1, j2, j3, j4⟩ := slice_leaves M ih he k (s + 1) ys' h2
    cases hc : W.cells? base (a.add (s * P.cellsOf e)) (P.cellsOf e) with
    | none => rw [hc] at h1; cases h1
    | some cs =>
      rw [hc] at h1
      have hL := ih _ _ _ _ h1 he
      have h4 : ∀ u ∈ cs, u.oneCell' = true := hL.choose_spec.2.2.2
      obtain ⟨x, v, k1, k2, k3, k4⟩ := one_value hL
      unfold World.cells? at hc
      split at hc
      · have hlen : cs.length = P.cellsOf e := by
          have := Go.mapM_some_length hc
          simpa using this
        refine ⟨x :: xs, by simp [j1], ⟨⟨v, ?_, fun j u hj => ?_, ?_, k1⟩, ?_⟩, fun y hy => ?_, ?_⟩
        · rw [← Array.length_toList, k4, hlen]
        · rw [← Array.getElem?_toList, k4] at hj
          obtain ⟨i, hi, hcell⟩ := mapM_get hc j u hj
          have : i = j := by
            have hlt : j < P.cellsOf e := by
              rcases Nat.lt_or_ge j (P.cellsOf e) with h | h
              · exact h
              · rw [List.getElem?_eq_none (by simpa using h)] at hi; cases hi
            rw [List.getElem?_range hlt] at hi
            cases hi; rfl
          subst this
          exact hcell
        · rw [k4]; exact h4
        · rw [addr_add_add]
          rw [show (s + 1) * P.cellsOf e = s * P.cellsOf e + P.cellsOf e from Nat.succ_mul _ _] at j2
          exact j2
        · rcases List.mem_cons.1 hy with rfl | hy
          · exact k2
          · exact j3 y hy
        · simp only [bulkL, List.map_cons, M.cons]; exact Nat.add_le_add k3 j4
      · cases hc
theorem trod_leaves (M : Meas m ma) : ∀ (fuel n : Nat) (t : TypeId) (cs : List Value) (d : DataW H) (ps : List MemPlace), DataW.trod enc P W base sp held fuel t cs = some (d, ps) → plainT P n t = true → Leaves P W n t cs (m d)
  | 0, n, t, cs, d, ps, h, hp => by simp [DataW.trod] at h
  | fuel + 1, 0, t, cs, d, ps, h, hp => by simp [plainT] at hp
  | fuel + 1, n + 1, t, cs, d, ps, h, hp => by
    have ih := fun t cs d ps => trod_leaves M fuel n t cs d ps
    unfold Leaves
    simp only [plainT] at hp
    split at hp
    · rename_i hu
      obtain ⟨b, rfl, hz⟩ := DataW.trod_bool hu h
      refine ⟨[.bool b], ⟨_, _, rfl, rfl, rfl⟩, by simp only [wtL, hu]; exact ⟨b, rfl⟩, by simpa [bulkL, bulkD] using M.one d, fun u hu => by simp at hu; subst hu; rfl⟩
    · rename_i k hu
      obtain ⟨i, rfl, hz, hw⟩ := DataW.trod_int hu h
      exact ⟨[.int _ _], ⟨_, _, rfl, rfl, rfl⟩, by simp only [wtL, hu]; exact ⟨_, rfl, hw⟩, by simpa [bulkL, bulkD] using M.one d, fun u hu => by simp at hu; subst hu; rfl⟩
    · rename_i hu
      obtain ⟨s, rfl, hz, hw⟩ := DataW.trod_string hu h
      cases hz
      exact ⟨[.str _], ⟨_, _, rfl, ⟨_, rfl, rfl⟩, rfl⟩, by simp only [wtL, hu]; exact ⟨_, rfl⟩, by simp only [bulkL, bulkD]; exact M.str _, fun u hu => by simp at hu; subst hu; rfl⟩
    · rename_i e hu
      simp only [Bool.and_eq_true] at hp
      rcases DataW.trod_slice hu h with ⟨rfl, hz⟩ | ⟨a, len, cap, elems, rest, n', hf, rfl, hz, hb, hl, hc, hel, hget, _, _⟩
      · cases hz
        refine ⟨[.lst (szT P e) []], ⟨_, _, rfl, ⟨none, 0, rfl, Nat.le_refl _, by unfold maxLen; omega, .inl rfl⟩, rfl⟩, by simp only [wtL, hu]; exact ⟨[], rfl, fun y hy => (by cases hy)⟩, by simpa [bulkL, bulkD] using M.one _, fun u hu => by simp at hu; subst hu; rfl⟩
      · cases hz
        cases hf
        have hm : (List.range len).mapM (fun i => (W.cells? base (a.add (i * P.cellsOf e)) (P.cellsOf e)).bind (DataW.trod enc P W base sp held fuel e)) = some elems :=
          mapM_some_of_get _ _ (by simp [hel]) fun i x hi => by
            obtain ⟨hlt, hx⟩ := List.getElem?_eq_some_iff.1 hi
            simp at hlt hx
            subst hx
            exact hget i hlt
        rw [List.range_eq_range'] at hm
        obtain ⟨xs, k1, k2, k3, k4⟩ := slice_leaves M ih hp.1 len 0 elems hm
        rw [Nat.zero_mul] at k2
        have ha0 : a.add 0 = a := by simp [Addr.add]
        rw [ha0] at k2
        refine ⟨[.lst (szT P e) xs], ⟨_, _, rfl, ⟨some a, cap, by rw [k1], by omega, hc, .inr ⟨a, rfl, by rw [szT_cellsOf]; exact k2⟩⟩, rfl⟩, ?_, ?_, fun u hu => by simp at hu; subst hu; rfl⟩
        · simp only [wtL, hu]; exact ⟨xs, rfl, k3⟩
        · have := M.slice (elems.map (·.1)) (rest.map (·.1))
          simp only [bulkL, bulkD]
          omega
    · rename_i fs hu
      simp only [Bool.and_eq_true] at hp
      obtain ⟨ys, n', hf, hz, hlen, hsz, hget⟩ := DataW.trod_struct hu h
      cases hf
      cases hz
      have hm : (fs.toList.mapM fun f => DataW.trod enc P W base sp held fuel f.type ((cs.drop f.offset).take (P.cellsOf f.type))) = some ys :=
        mapM_some_of_get _ _ (by simp [hsz]) fun i x hi => hget i x (by simpa using hi)
      obtain ⟨parts, j1, j2, j3, j4⟩ := fields_leaves M ih hlen fs.toList 0 ys hp.1 hp.2 hm
      rw [List.drop_zero] at j2 j4
      exact ⟨parts.flatten, j2, by simp only [wtL, hu]; exact ⟨parts, rfl, j1⟩, Nat.le_trans j3 (M.agg _), j4⟩
    · rename_i k e hu
      simp only [Bool.and_eq_true] at hp
      obtain ⟨ys, n', hf, hz, hlen, hsz, hget⟩ := DataW.trod_array hu h
      cases hf
      cases hz
      have hm : ((List.range k).mapM fun i => DataW.trod enc P W base sp held fuel e ((cs.drop (i * P.cellsOf e)).take (P.cellsOf e))) = some ys :=
        mapM_some_of_get _ _ (by simp [hsz]) fun i x hi => by
          obtain ⟨hlt, hx⟩ := List.getElem?_eq_some_iff.1 hi
          simp at hlt hx
          subst hx
          exact hget i hlt
      rw [List.range_eq_range'] at hm
      have hsz : P.cellsOf t = k * P.cellsOf e := beq_iff.1 hp.1
      obtain ⟨parts, j1, j2, j3, j4, j5⟩ := array_leaves M ih hp.2 k 0 ys (by rw [hlen, hsz]; simp) hm
      rw [Nat.zero_mul, List.drop_zero] at j3 j5
      exact ⟨parts.flatten, j3, by simp only [wtL, hu]; exact ⟨parts, rfl, j1, j2⟩, Nat.le_trans j4 (M.agg _), j5⟩
    · cases hp
end
end Go.AE
namespace Go.AE
open Go.ChangeShapes Go.WideShapes Go.ChangeAt Go.RowKit Go.WideElems
def lawSlots (P : Program) : Nat → List TypeId → List (Nat × SV)
  | _, [] => []
  | i, t :: ts => (i, .d (tyT P t)) :: lawSlots P (i + 1) ts
def lawSk (P : Program) (ts : List TypeId) : Sk := ⟨lawSlots P 0 ts, []⟩
def lawArg (P : Program) (t : TypeId) : Bool := plainT P 8 t && P.readableRec t && decide (t < P.types.size)
section
variable {H : Type} {enc : TypeId × Value → H} {P : Program} {W W' : World} {base : Nat} {m : DataW H → Nat} {ma : List (DataW H) → Nat}
theorem cells_leaf {r : Reach} {t : TypeId} {v : Value} (hg : isAggT P t = false) (hp : plainT P 8 t = true) (hv : Value.okWide P W r base t v) : v.cells = #[v] := by
  unfold Value.okWide at hv
  unfold isAggT at hg
  simp only [plainT] at hp
  cases v with
  | agg cs =>
    split at hp <;> rename_i hu <;> first | (rw [hu] at hg; simp [isAggD] at hg; done) | (simp [hu, Cell.okWide, Cell.ok] at hv; done) | (cases hp; done)
  | _ => rfl
theorem leaf_not_agg {h : Nat → Option Obj} {n : Nat} {t : TypeId} {x : D} {v : Value} (hg : isAggT P t = false) (j2 : wtV P n t x) (j1 : VD h x v) (cs : Array Value) : v ≠ .agg cs := by
  rintro rfl
  unfold wtV at j2
  rw [hg, if_neg (by simp)] at j2
  cases n with
  | zero => exact j2
  | succ n =>
    simp only [wtL] at j2
    split at j2
    · obtain ⟨b, e⟩ := j2; cases e; cases j1
    · obtain ⟨b, e, _⟩ := j2; cases e; cases j1
    · obtain ⟨b, e⟩ := j2; cases e; obtain ⟨_, e, _⟩ := j1; cases e
    · obtain ⟨b, e, _⟩ := j2; cases e; obtain ⟨_, _, e, _⟩ := j1; cases e
    · rename_i e; simp [isAggT, e, isAggD] at hg
    · rename_i e; simp [isAggT, e, isAggD] at hg
    · exact j2
theorem args_leaves (M : Meas m ma) {r : Reach} {sp : Nat → Bool} {held : Bool} : ∀ {ts : List TypeId} {vs : List Value} {ds : List (DataW H)} {ps : List MemPlace}, DataW.TrodAll enc P W base sp held ts vs ds ps → (ts.all (lawArg P)) = true →
    (∀ (j : Nat) (t : TypeId) (v : Value), ts[j]? = some t → vs[j]? = some v → ∃ r b, Value.okWide P W r b t v) → ∃ xs, F2 (VD (snap W)) xs vs ∧ F2 (wtV P 8) ts xs ∧ bulkL xs ≤ ma ds
  | [], [], [], _, _, _, _ => ⟨[], .nil, .nil, by simp [bulkL]⟩
  | t :: ts, v :: vs, d :: ds, ps, ⟨p, q, h1, h2, _⟩, hp, hv => by
    simp only [List.all_cons, Bool.and_eq_true] at hp
    obtain ⟨xs, k1, k2, k3⟩ := args_leaves M (r := r) h2 hp.2 fun j t v ht hv' => hv (j + 1) t v (by simpa using ht) (by simpa using hv')
    obtain ⟨fuel, h1⟩ := h1
    have hpl : plainT P 8 t = true := by
      have := hp.1
      simp only [lawArg, Bool.and_eq_true] at this
      exact this.1.1
    have hL := trod_leaves M _ 8 _ _ _ _ h1 hpl
    obtain ⟨x, v', j1, j2, j3, j4⟩ := one_value hL
    obtain ⟨r', b', hok⟩ := hv 0 t v rfl rfl
    have hvv : v' = v := by
      cases hg : isAggT P t with
      | true =>
        have : ∃ cs, v = .agg cs := by
          unfold Value.okWide at hok
          unfold isAggT at hg
          split at hg
          · rename_i d hu
            rw [hu] at hok
            cases d <;> simp [isAggD] at hg <;> (obtain ⟨cs, h, _⟩ := hok; exact ⟨cs, h⟩)
          · cases hg
        obtain ⟨cs, rfl⟩ := this
        unfold wtV at j2
        rw [hg, if_pos rfl] at j2
        obtain ⟨ys, rfl, _⟩ := j2
        obtain ⟨us, rfl, _⟩ := j1
        congr 1
        apply Array.ext'
        exact j4
      | false =>
        have h5 := cells_leaf hg hpl hok
        rw [h5] at j4
        have h6 : ∀ u ∈ v.cells.toList, u.oneCell' = true := hL.choose_spec.2.2.2
        have h7 : v.oneCell' = true := h6 v (by rw [h5]; simp)
        cases v' with
        | agg cs =>
          exact absurd rfl (leaf_not_agg hg j2 j1 cs)
        | _ => exact (List.cons.inj j4).1
    subst hvv
    refine ⟨x :: xs, .cons j1 k1, .cons j2 k2, ?_⟩
    simp only [bulkL]
    rw [M.cons]
    exact Nat.add_le_add j3 k3
  | [], _ :: _, _, _, h, _, _ => h.elim
  | [], [], _ :: _, _, h, _, _ => h.elim
  | _ :: _, [], _, _, h, _, _ => h.elim
  | _ :: _, _ :: _, [], _, h, _, _ => h.elim
theorem trodAll_stays (hl : laidOutB P = true) {sp : Nat → Bool} : ∀ {ts : List TypeId} {vs : List Value} {ds : List (DataW H)} {ps : List MemPlace}, DataW.TrodAll enc P W 0 (fun _ => true) true ts vs ds ps → (ts.all (lawArg P)) = true →
    (∀ p ∈ ps, W.sameAt W' p) → (∀ p ∈ ps, sp p.block = true) → DataW.TrodAll enc P W' 0 sp true ts vs ds ps
  | [], [], [], _, h, _, _, _ => h
  | t :: ts, v :: vs, d :: ds, ps, ⟨p, q, h1, h2, e⟩, hp, hs, hsp => by
    simp only [List.all_cons, Bool.and_eq_true] at hp
    have h0 := hp.1
    simp only [lawArg, Bool.and_eq_true, decide_eq_true_eq] at h0
    refine ⟨p, q, Trod_stays hl h0.1.2 h0.2 h1 (fun x hx => hs x (by rw [e]; simp [hx])) (fun x hx => hsp x (by rw [e]; simp [hx])), trodAll_stays hl h2 hp.2 (fun x hx => hs x (by rw [e]; simp [hx])) (fun x hx => hsp x (by rw [e]; simp [hx])), e⟩
  | [], _ :: _, _, _, h, _, _, _ => h.elim
  | [], [], _ :: _, _, h, _, _, _ => h.elim
  | _ :: _, [], _, _, h, _, _, _ => h.elim
  | _ :: _, _ :: _, [], _, h, _, _, _ => h.elim
theorem post_below {f : Func} {s : ChangeSpec} {apart fresh handsOn again : Bool} {args : Array Value} {v : Value} {ds gs : List (DataW H)} {before pa pv : List MemPlace}
    (hW : DataW.Whole enc P f.params.toList s.vars apart W args.toList ds gs before)
    (hres : ∀ (b : Nat) (sp : Nat → Bool) (hd : Bool), DataW.TrodAll enc P W' b sp hd f.resultTypes.toList (v.resultList f.resultTypes.size) (s.fn H (ds ++ gs)).results [])
    (hargs : ∀ sp : Nat → Bool, (∀ p ∈ before, sp p.block = true) → DataW.TrodAll enc P W' 0 sp true f.params.toList args.toList (s.fn H (ds ++ gs)).args pa)
    (hvars : ∀ sp : Nat → Bool, (∀ p ∈ before, sp p.block = true) → DataW.TrodVars enc P W' sp s.vars (s.fn H (ds ++ gs)).vars pv)
    (hps : before = pa ++ pv) (hb : Below W.heap.size W W')
    (hok : ∀ (j : Nat) (t : TypeId) (r : Value), f.resultTypes[j]? = some t → (v.resultList f.resultTypes.size)[j]? = some r → Value.okWide P W' .any 0 t r) :
    s.post enc P f apart fresh handsOn again W args v W' := by
  have hlt : ∀ p ∈ before, p.block < W.heap.size := fun p hp => hW.lt p hp
  have hold : ∀ p ∈ before, (fun b => decide (b < W.heap.size)) p.block = true := fun p hp => by simpa using hlt p hp
  refine ⟨ds, gs, before, [], pa, pv, hW, hres _ _ _, hargs _ hold, hvars _ hold, World.keptBut_mono (fun p hp => ⟨hp, ?_⟩) (hb.frame (· ∈ before)), fun _ => ?_⟩
  · rw [hps, List.mem_append] at hp
    exact Or.inr hp
  · obtain ⟨_, _, _, _, _, hz, hn⟩ := hW
    refine ⟨hok, _, _, ([] ++ pa) ++ pv, ⟨[] ++ pa, pv, trodAll_append (hargs _ (fun _ _ => rfl)) (hres _ _ _), hvars _ (fun _ _ => rfl), rfl, ?_, ?_⟩, ?_⟩
    · intro b off hp
      have hin : MemPlace.cell b off ∈ before := by rw [hps]; simpa using hp
      rw [hb.frozen (hlt _ hin)]
      exact hz b off hin
    · intro ha
      have := hn ha
      rw [hps] at this
      simpa using this
    · intro p hp _
      rw [hps]
      simpa using hp
theorem lawSlots_len : ∀ (ts : List TypeId) (i : Nat), (lawSlots P i ts).length = ts.length
  | [], _ => rfl
  | t :: ts, i => by simp [lawSlots, lawSlots_len ts (i + 1)]
theorem lawSlots_inj {g : G} {q : Nat → Prop} : ∀ {ts : List TypeId} {i j : Nat} {xs pre : List D} {vs prev : List Value}, F2 (VD g.h) xs vs → ts.length = xs.length → pre.length = j → prev.length = i →
    ∀ t, VV g ((injSlots E0 (pre ++ xs) (lawSlots P i ts) j).1 t) ((prev ++ vs).getD t undef) ∧ ((injSlots E0 (pre ++ xs) (lawSlots P i ts) j).1 t).uses q
  | [], i, j, xs, pre, vs, prev, _, _, _, _, t => ⟨trivial, trivial⟩
  | ty :: ts, i, j, [], pre, vs, prev, _, hl, _, _, t => by simp at hl
  | ty :: ts, i, j, x :: xs, pre, _, prev, .cons (b := v) (bs := vs) h1 h2, hl, hp, hq, t => by
    have ih := lawSlots_inj (q := q) (ts := ts) (i := i + 1) (j := j + 1) (pre := pre ++ [x]) (prev := prev ++ [v]) h2 (by simpa using hl) (by simp [hp]) (by simp [hq]) t
    simp only [List.append_assoc, List.singleton_append] at ih
    simp only [lawSlots, injSlots, injV, injLeaf]
    have hn : nth (pre ++ x :: xs) j = x := by rw [← hp]; exact nth_at pre x xs
    by_cases e : t = i
    · subst e
      rw [beq_iff.2 rfl, cond_true, hn]
      refine ⟨?_, trivial⟩
      have : (prev ++ v :: vs).getD t undef = v := by
        rw [← hq]; simp
      rw [this]
      exact h1
    · rw [beq_false e, cond_false]
      exact ih
theorem law_calls {c : Cfg} (hn : NamesOk c) (horc : ∀ f sk ds r, c.orc f sk ds = some r → CallSpec c f sk ds r) {f : Nat} {fn : Func} (hf : c.P.funcs[f]? = some fn) {tb : TypeId} (hres : fn.resultTypes = #[tb]) (hb : c.P.underlying tb = some .bool)
    (hd : (c.dres f).o 0 = none ∧ (c.dres f).m 0 = 0) (hgok : c.gok (snap W)) (hl : laidOutB c.P = true) (hpl : fn.params.toList.all (lawArg c.P) = true) {B : Nat}
    (hrun : ∀ xs, F2 (wtV c.P 8) fn.params.toList xs → bulkL xs ≤ B → ∃ n, run c n (.call f (lawSk c.P fn.params.toList) xs) = some (true, [.bool true]))
    (M : Meas m ma) {args : Array Value} {ds gs : List (DataW H)} {before : List MemPlace} {s : ChangeSpec} {apart fresh handsOn again : Bool}
    (hval : ∀ (j : Nat) t v, fn.params[j]? = some t → args[j]? = some v → Value.okWide c.P W .any base t v) (hvars : s.vars = []) (hW : DataW.Whole enc c.P fn.params.toList s.vars apart W args.toList ds gs before) (hB : ma (ds ++ gs) ≤ B)
    (hs : gs = [] → s.fn H (ds ++ gs) = { results := [.lit (.bool true)], args := ds }) :
    Calls c.P f args W fun e W' => ∃ v, e = .returned v ∧ s.post enc c.P fn apart fresh handsOn again W args v W' := by
  have hW0 := hW
  obtain ⟨p, q, hA, hV, hpq, hz, hnd⟩ := hW
  rw [hvars] at hV
  obtain ⟨rfl, rfl⟩ := trodVars_none hV
  have hs := hs rfl
  simp only [List.append_nil] at hs hB hpq
  subst hpq
  obtain ⟨xs, k1, k2, k3⟩ := args_leaves M (r := .any) hA hpl fun j t v ht hv => ⟨.any, base, hval j t v (by simpa using ht) (by simpa using hv)⟩
  obtain ⟨n, hrun⟩ := hrun xs k2 (Nat.le_trans k3 hB)
  have hspec := ((run_sound hn horc n).1 f _ _ _ hrun).1 fn hf (fun _ => none) ⟨snap W, fun _ => 0, fun _ => undef, fun _ _ => none⟩ hgok args W
  have hlen : fn.params.toList.length = xs.length := k2.length
  have hlen2 : xs.length = args.toList.length := k1.length
  have hinj : (injectE E0 (lawSk c.P fn.params.toList) xs).h = fun _ => none := rfl
  refine (hspec ?_ ?_ ?_).mono ?_
  · simp only [lawSk, lawSlots_len]
    rw [hlen, hlen2]; simp
  · refine ⟨fun b x h => h, fun b x h => (by cases h), fun o x h => ?_, fun o x b h => ?_, fun o o' x x' b h => ?_, fun o x h => ?_, fun b => .inr rfl⟩
    all_goals (rw [hinj] at h; cases h)
  · intro t
    have := lawSlots_inj (P := c.P) (g := ⟨snap W, fun _ => 0, fun _ => undef, fun _ _ => none⟩) (q := (· < (lawSk c.P fn.params.toList).objs.length)) (ts := fn.params.toList) (i := 0) (j := 0) (pre := []) (prev := []) k1 hlen rfl rfl t
    simp only [List.nil_append] at this
    have e : args.getD t undef = args.toList.getD t undef := by simp [Array.getD_eq_getD_getElem?, List.getD_eq_getElem?_getD]
    rw [e]
    exact this
  · rintro e W' ⟨v, he, g', tm', h1, h2, h3, h4, h5⟩
    refine ⟨v, he, ?_⟩
    have hbel : Below W.heap.size W W' := by
      refine ⟨h3.os, h3.tape, h3.output, h3.size, fun k hk => ?_⟩
      have hk' : W.heap[k]? = some W.heap[k] := Array.getElem?_eq_getElem hk
      rw [h1.frz k _ (h3.h k _ hk'), hk']
    have hel : elemT c.P tb = none := by simp [elemT, hb]
    have hosk : (outSk c.P (c.dres f) fn.resultTypes.toList (lawSk c.P fn.params.toList)) = ⟨[(0, .d (.leaf .bool))], []⟩ := by
      have : tyT c.P tb = .leaf .bool := by simp [tyT, isAggT, hb, isAggD, leafT]
      simp only [hres, outSk, lawSk, List.length_nil, hd.1, outRes, hd.2, hel, outObs, this]
      rfl
    rw [hosk] at h5 h2
    have hv : v = .bool true := by
      rw [h5]
      have := (h2 0).1
      exact this
    subst hv
    have htrod : ∀ sp : Nat → Bool, (∀ x ∈ before, sp x.block = true) → DataW.TrodAll enc c.P W' 0 sp true fn.params.toList args.toList ds before := fun sp hsp =>
      trodAll_stays hl hA hpl (fun x hx => ?_) hsp
    · refine post_below (pa := before) (pv := []) hW0 (fun b sp hd => ?_) (fun sp hsp => ?_) (fun sp hsp => ?_) (by simp) hbel ?_
      · rw [hres]
        simp only [List.append_nil]
        rw [hs]
        exact trodAll_mk1 (shut_bool hb _)
      · simp only [List.append_nil]
        rw [hs]
        exact htrod sp hsp
      · simp only [List.append_nil]
        rw [hs, hvars]
        exact rfl
      · exact ok_one hres rfl (okWide_bool_mk hb _)
    · have hlt := hW0.lt x hx
      cases x with
      | cell b off =>
        have := hbel.block b hlt
        simp only [World.sameAt, World.cell?, this]
      | map b => exact hbel.block b hlt
end
section
variable {P : Program} {n : Nat} {t e : TypeId} {x : D} {xs : List D}
theorem isAggT_leaf (h : P.underlying t = some .bool ∨ (∃ k, P.underlying t = some (.int k)) ∨ P.underlying t = some .string ∨ ∃ e, P.underlying t = some (.slice e)) : isAggT P t = false := by
  rcases h with h | ⟨k, h⟩ | h | ⟨e, h⟩ <;> simp [isAggT, h, isAggD]
theorem wtV_leaf (hg : isAggT P t = false) (h : wtV P n t x) : wtL P n t [x] := by
  unfold wtV at h
  rwa [hg, if_neg (by simp)] at h
theorem wtV_int {k : IntKind} (ht : P.underlying t = some (.int k)) (h : wtV P (n + 1) t x) : ∃ i, x = .int k i ∧ (Lit.int k i).wf = true := by
  have := wtV_leaf (isAggT_leaf (.inr (.inl ⟨k, ht⟩))) h
  simp only [wtL, ht] at this
  obtain ⟨b, e, hw⟩ := this
  cases e; exact ⟨b, rfl, hw⟩
end
end Go.AE
