/- An abstract interpreter of the model and its soundness, part 3. -/
import Derived.Test.YthlhbocobgkdmaaGreatEng2
import Derived.LoopN
import Derived.Orders
import Derived.Laws.Externs
import Derived.WideKeyArgs
import Derived.ProofKit
import Derived.OpenShut
import Derived.JoinedCond
import Derived.DataShut
import Derived.Below
import Derived.ChangeSame
import Derived.Lib.Split
import Derived.IntWalk

/- Regions, loops, functions. -/
namespace Go.AE
open Go.RowKit

/-- The function that is run: how it began. -/
structure FX where
  c : Cfg
  fn : Func
  u : Nat → Option Obj
  osk : Sk
  pre : List (Nat × Nat)
  g0 : G
  w0 : World

/-- The calls laid by, as the model has them. -/
def dls (g0 : G) (df : List (Nat × List (Nat × Nat))) : List Deferred := df.map fun d => ⟨.fn (.func d.1) #[], (d.2.map fun l => Value.pointer (some ⟨g0.blk l.1, l.2, none⟩)).toArray⟩
def Keep (pre : List (Nat × Nat)) (g0 g : G) : Prop := ∀ l o, lookN pre l = some o → g.blk l = g0.blk l ∧ g.hdr l = g0.hdr l
/-- A state of the run as it stands in a world. -/
structure Now (X : FX) (p : Nat → Prop) (g : G) (st : St) (a : Act) (w : World) : Prop where
  at_ : At X.u p g st a w
  size : X.fn.ntmps ≤ a.tmps.size
  def_ : a.defers = dls X.g0 st.m.df ∧ ∀ d ∈ st.m.df, ∀ l ∈ d.2, lookN X.pre l.1 = some l.1
  ext : Ext X.g0 X.w0 g w
  keep : Keep X.pre X.g0 g
  pre : ∀ l o, lookN X.pre l = some o → p l

section
variable {X : FX} {p q : Nat → Prop} {g g' : G} {st st' : St} {a a' : Act} {w w' : World} {rec : Task → Out} {r : Bool × List D} {Q : Exit → Act → World → Prop}

theorem Keep.agree (h : Keep X.pre X.g0 g) (ha : Agree p g g') (hp : ∀ l o, lookN X.pre l = some o → p l) : Keep X.pre X.g0 g' := fun l o hl => by
  rw [ha.blk l (hp l o hl), ha.hdr l (hp l o hl)]; exact h l o hl

theorem set_t (st : St) (d : Nat) (v : V) (t : Nat) : (st.set d v).t t = if t = d then v else st.t t := by
  simp only [St.set]
  by_cases e : t = d
  · rw [if_pos e, beq_iff.2 e]; rfl
  · rw [if_neg e, beq_false e]; rfl
theorem set_self {st : St} {d : Nat} {v : V} (h : st.t d = v) : st.set d v = st := by
  have : (st.set d v).t = st.t := by
    funext t
    rw [set_t]
    split
    · rename_i e; rw [e, h]
    · rfl
  show (⟨(st.set d v).t, st.h, st.m⟩ : St) = st
  rw [this]
theorem getD_set {tm : Array Value} {d : Nat} {v : Value} (hd : d < tm.size) (t : Nat) : (tm.setIfInBounds d v).getD t undef = if t = d then v else tm.getD t undef := by
  by_cases e : t = d
  · subst e
    rw [if_pos rfl]
    simp [Array.getD_eq_getD_getElem?, hd]
  · rw [if_neg e]
    simp [Array.getD_eq_getD_getElem?, Array.getElem?_setIfInBounds, Ne.symm e]

/-- Behind an operation: its slot is written. -/
theorem Now.put (N : Now X p g st a w) {dst : Option Tmp} (hd : (match dst with | some d => Nat.blt d X.fn.ntmps | none => true) = true) {vv : V} {st1 : St} {v : Value} (hpq : ∀ x, p x → q x) (S : SimH X.u q g' st1.h w') (ha : Agree p g g') (he : Ext g w g' w')
    (hv : VV g' vv v) (hu : vv.uses q) (ht : st1.t = st.t) (hm : st1.m = st.m) : Now X q g' (st1.put dst vv) (a.put dst v) w' := by
  have hb : ∀ t, VV g' (st.t t) (a.tmps.getD t undef) := fun t => (N.at_.tm t).agree ha (N.at_.nm t)
  have hb2 : ∀ t, (st.t t).uses q := fun t => (N.at_.nm t).mono hpq
  cases dst with
  | none =>
    refine ⟨⟨S, fun t => ?_, fun t => ?_⟩, N.size, (by show a.defers = dls X.g0 st1.m.df ∧ ∀ d ∈ st1.m.df, ∀ l ∈ d.2, lookN X.pre l.1 = some l.1; rw [hm]; exact N.def_), N.ext.trans he, N.keep.agree ha N.pre, fun l o h => hpq _ (N.pre l o h)⟩
    · show VV g' (st1.t t) _
      rw [ht]; exact hb t
    · show (st1.t t).uses q
      rw [ht]; exact hb2 t
  | some d =>
    have hd : Nat.ble (d + 1) X.fn.ntmps = true := hd
    have hd := Nat.le_of_ble_eq_true hd
    have hlt : d < a.tmps.size := Nat.lt_of_lt_of_le hd N.size
    refine ⟨⟨S, fun t => ?_, fun t => ?_⟩, ?_, (by show a.defers = dls X.g0 st1.m.df ∧ ∀ d ∈ st1.m.df, ∀ l ∈ d.2, lookN X.pre l.1 = some l.1; rw [hm]; exact N.def_), N.ext.trans he, N.keep.agree ha N.pre, fun l o h => hpq _ (N.pre l o h)⟩
    · show VV g' ((st1.set d vv).t t) ((a.tmps.setIfInBounds d v).getD t undef)
      rw [set_t, getD_set hlt, ht]
      split
      · exact hv
      · exact hb t
    · show ((st1.set d vv).t t).uses q
      rw [set_t, ht]
      split
      · exact hu
      · exact hb2 t
    · show X.fn.ntmps ≤ (a.tmps.setIfInBounds d v).size
      simpa using N.size

theorem yielded_of {ops : Array Oper} {j d : Nat} {b : Bool} (hd : (ops[j]?).bind (·.dst) = some d) (hv : a.tmps.getD d undef = .bool b) : yielded ops a.tmps j = some b := by
  unfold yielded
  rw [hd]
  simp only [Option.bind_some]
  rw [Array.getD_eq_getD_getElem?] at hv
  cases e : a.tmps[d]? with
  | none => rw [e] at hv; simp [undef] at hv
  | some x => rw [e] at hv; simp at hv; subst hv; rfl
theorem yielded_und {ops : Array Oper} {j d : Nat} (hd : (ops[j]?).bind (·.dst) = some d) (hv : a.tmps.getD d undef = undef) : yielded ops a.tmps j = none := by
  unfold yielded
  rw [hd]
  simp only [Option.bind_some]
  rw [Array.getD_eq_getD_getElem?] at hv
  cases e : a.tmps[d]? with
  | none => rfl
  | some x => rw [e] at hv; simp at hv; subst hv; rfl

theorem labels_ok {S : At X.u p g st a w} (hk : Keep X.pre X.g0 g) : ∀ {xs : List V} {vals : List Value} {zs : List (Nat × Nat)}, F2 (VV g) xs vals → labels X.pre xs = some zs →
    vals = (zs.map fun l => Value.pointer (some ⟨X.g0.blk l.1, l.2, none⟩)) ∧ ∀ l ∈ zs, lookN X.pre l.1 = some l.1
  | [], _, zs, h, e => by
    cases h
    simp only [labels, Option.some.injEq] at e
    subst e
    exact ⟨rfl, fun l hl => by cases hl⟩
  | x :: xs, _, zs, h, e => by
    cases h with
    | cons h1 h2 =>
      cases x <;> simp only [labels] at e <;> try (cases e; done)
      split at e
      · rename_i o off _ _ o' zs' e1 e2
        obtain ⟨hb, e⟩ := bif_some e
        cases e
        have ho : o = o' := beq_iff.1 hb
        subst ho
        obtain ⟨r1, r2⟩ := labels_ok (S := S) hk h2 e2
        have h1 := VV_ptr h1
        rw [(hk _ _ e1).1] at h1
        refine ⟨by rw [h1, r1]; rfl, fun l hl => ?_⟩
        rcases List.mem_cons.1 hl with rfl | hl
        · exact e1
        · exact r2 l hl
      · cases e
theorem deferOf_ok {o : Oper} {d : Nat × List (Nat × Nat)} (N : Now X p g st a w) (h : deferOf X.pre st o = some d) :
    (execOp a.eval o).run X.c.P w = .ok (.defer ⟨.fn (.func d.1) #[], (d.2.map fun l => Value.pointer (some ⟨X.g0.blk l.1, l.2, none⟩)).toArray⟩) w ∧ o.guard = none ∧ o.dst = none ∧ ∀ l ∈ d.2, lookN X.pre l.1 = some l.1 := by
  unfold deferOf at h
  split at h
  · rename_i q' ho
    split at h
    · rename_i f hc hg hdst
      split at h
      · rename_i gid he
        split at h
        · rename_i zs hl
          cases h
          have hv := N.at_.ev f
          rw [he] at hv
          have hv : a.eval f = .func (.func gid) #[] #[] := hv
          obtain ⟨r1, r2⟩ := labels_ok (S := N.at_) N.keep (ev_F2 N.at_ q'.args.toList) hl
          refine ⟨?_, hg, hdst, r2⟩
          simp only [execOp, ho, resolve, hc, hv, Deferred.ofValue]
          have e : q'.args.map a.eval = (zs.map fun l => Value.pointer (some ⟨X.g0.blk l.1, l.2, none⟩)).toArray := by
            apply Array.ext'
            simpa using r1
          simp [e]
        · cases h
      · cases h
    · cases h
  · cases h

theorem opsK_sound (hn : NamesOk X.c) (hg0 : X.c.gok X.g0.h) (hrec : RecOk X.c rec) {ops : Array Oper} {st0 : Nat} : ∀ (os : List Oper) (i : Nat) {st : St} {a : Act} {w : World} {g : G} {K : St → Out}, opsK X.c rec X.fn.ntmps X.pre ops.toList st0 i os st K = some r →
    Now X (· < st0 + 32 * i) g st a w → st.n = st0 →
    (∀ st' a' w' g', K st' = some r → Now X (· < st0 + 32 * (i + os.length)) g' st' a' w' → st'.n = st0 → Q .normal a' w') → wpList X.c.P ops Q os a w
  | [], i, st, a, w, g, K, h, N, hst, hK => hK st a w g h (by simpa using N) hst
  | o :: os, i, st, a, w, g, K, h, N, hst, hK => by
    have hfr : Fresh (fun x => x < st0 + 32 * i) (fun x => x < st0 + 32 * (i + 1)) (st0 + 32 * i) := fun k hk => ⟨by omega, by omega⟩
    have hpq : ∀ x, x < st0 + 32 * i → x < st0 + 32 * (i + 1) := fun x hx => by omega
    have hK' : ∀ st' a' w' g', K st' = some r → Now X (· < st0 + 32 * ((i + 1) + os.length)) g' st' a' w' → st'.n = st0 → Q .normal a' w' := by
      intro st' a' w' g' h1 h2
      refine hK st' a' w' g' h1 ?_
      rw [show i + (o :: os).length = i + 1 + os.length from by simp; omega]
      exact h2
    -- the operation is run
    have on : Region.wanted o (yielded ops a.tmps) = true → (bif (match o.dst with | some d => Nat.blt d X.fn.ntmps | none => true) then opK X.c rec o (st0 + 32 * i) st fun v st' => opsK X.c rec X.fn.ntmps X.pre ops.toList st0 (i + 1) os (st'.put o.dst v) K else none) = some r →
        wpList X.c.P ops Q (o :: os) a w := by
      intro hw h
      obtain ⟨hd, h⟩ := bif_some h
      obtain ⟨vv, st1, hk, hop⟩ := op_sound hn (hn.2.2.1 _ _ N.ext.h hg0) hrec N.at_ hpq hfr h
      refine wpList_step fun KK hKK => ?_
      rw [if_pos hw]
      refine hop.wp fun v w' ⟨g', s1, s2, s3, s4, s5, s6, s7⟩ => hKK _ _ ?_
      refine opsK_sound hn hg0 hrec os (i + 1) hk (N.put hd hpq s1 s2 s3 s4 s5 s6 s7) ?_ hK'
      cases o.dst <;> (show st1.m.k = st0; rw [s7]; exact hst)
    -- it is passed over
    have off : Region.wanted o (yielded ops a.tmps) = false → (bif (match o.dst with | some d => Nat.blt d X.fn.ntmps | none => true) then opsK X.c rec X.fn.ntmps X.pre ops.toList st0 (i + 1) os (st.put o.dst (.d .und)) K else none) = some r → wpList X.c.P ops Q (o :: os) a w := by
      intro hw h
      obtain ⟨hd, h⟩ := bif_some h
      refine wpList_step fun KK hKK => ?_
      rw [if_neg (by rw [hw]; simp)]
      refine hKK _ _ ?_
      refine opsK_sound hn hg0 hrec os (i + 1) h (N.put (vv := .d .und) hd hpq (N.at_.hp.more hpq) (Agree.refl _ g) (Ext.refl g w) rfl trivial rfl rfl) ?_ hK'
      cases o.dst <;> exact hst
    simp only [opsK] at h
    split at h
    · rename_i d hd
      obtain ⟨hop, hg, hdst, hlab⟩ := deferOf_ok N hd
      refine wpList_step fun KK hKK => ?_
      rw [if_pos (by simp [Region.wanted, hg])]
      unfold Oper.wp
      rw [hop, Oper.upon_defer, hdst]
      refine hKK _ _ ?_
      refine opsK_sound hn hg0 hrec os (i + 1) h (st := { st with m := ⟨st.m.k, d :: st.m.df⟩ }) ⟨⟨N.at_.hp.more hpq, N.at_.tm, fun t => (N.at_.nm t).mono hpq⟩, N.size, ⟨?_, ?_⟩, N.ext, N.keep, fun l o h => hpq _ (N.pre l o h)⟩ hst hK'
      · show _ :: a.defers = _ :: dls X.g0 st.m.df
        rw [N.def_.1]
      · intro d' hd' l hl
        rcases List.mem_cons.1 hd' with rfl | hd'
        · exact hlab l hl
        · exact N.def_.2 d' hd' l hl
    split at h
    · rename_i q' t mo ns d m hnx
      obtain ⟨hd, h⟩ := bif_some h
      simp only [Bool.and_eq_true] at hd
      obtain ⟨hd, hb⟩ := hd
      obtain ⟨hg, hdst, hrun⟩ := nextOf_ok (P := X.c.P) N.at_ hpq hnx hb
      refine wpList_step fun KK hKK => ?_
      rw [if_pos (by simp [Region.wanted, hg])]
      rcases hrun with ⟨hl, hr, hs⟩ | ⟨j, hj, k, v, w', hr, hs, he⟩
      · rw [hl] at h
        have h : opsK X.c rec X.fn.ntmps X.pre ops.toList st0 (i + 1) os ((st.setH q' (some (.it t mo (overM ns)))).set d (.tup [.d (.bool false)])) K = some r := h
        unfold Oper.wp
        rw [hr]
        show KK (a.put o.dst _) _
        rw [hdst]
        refine hKK _ _ ?_
        exact opsK_sound hn hg0 hrec os (i + 1) h (N.put (dst := some d) hd (vv := .tup [.d (.bool false)]) (v := .tuple #[.bool false]) (st1 := st.setH q' (some (.it t mo (overM ns)))) hpq hs (Agree.refl _ g) (Ext.refl g w) ⟨_, rfl, .cons rfl .nil⟩ (fun x hx => by
          rcases List.mem_cons.1 hx with rfl | hx
          · trivial
          · cases hx) rfl rfl) hst hK'
      · have h : opsK X.c rec X.fn.ntmps X.pre ops.toList st0 (i + 1) os ((st.setH q' (some (.it t mo (stepM ns j)))).set d (.tup [.d (.bool true), .top, .top])) K = some r := by
          rcases pickL_some h with ⟨e, _⟩ | h
          · rw [e] at hj; cases hj
          · exact h j hj
        unfold Oper.wp
        rw [hr]
        show KK (a.put o.dst _) _
        rw [hdst]
        refine hKK _ _ ?_
        exact opsK_sound hn hg0 hrec os (i + 1) h (N.put (dst := some d) hd (vv := .tup [.d (.bool true), .top, .top]) (v := .tuple #[.bool true, k, v]) (st1 := st.setH q' (some (.it t mo (stepM ns j)))) hpq hs (Agree.refl _ g) he ⟨_, rfl, .cons rfl (.cons (trivial : VD _ .top _) (.cons (trivial : VD _ .top _) .nil))⟩ (fun x hx => by
          simp only [List.mem_cons, List.not_mem_nil, or_false] at hx
          rcases hx with rfl | rfl | rfl <;> trivial) rfl rfl) hst hK'
    split at h
    · rename_i hg
      exact on (by simp [Region.wanted, hg]) h
    · rename_i j want hg
      split at h
      · cases h
      · rename_i d hd
        rw [Array.getElem?_toList] at hd
        have htm := N.at_.tm d
        split at h
        · rename_i he
          rw [he] at htm
          exact off (by simp [Region.wanted, hg, yielded_und hd htm]) h
        · rename_i b he
          rw [he] at htm
          have hy := yielded_of hd (VV_bool htm)
          cases b with
          | true =>
            simp only [cond_true] at h
            rw [set_self he] at h
            cases want with
            | true => exact on (by simp [Region.wanted, hg, hy]) h
            | false => exact off (by simp [Region.wanted, hg, hy]) h
          | false =>
            simp only [cond_false] at h
            rw [set_self he] at h
            cases want with
            | true => exact off (by simp [Region.wanted, hg, hy]) h
            | false => exact on (by simp [Region.wanted, hg, hy]) h
        · cases h

/-! Nil slices in variables become rows. -/
theorem putObs_not : ∀ {new : List (Nat × Ob)} {h : Nat → Option Ob} {x : Nat}, (∀ e ∈ new, e.1 ≠ x) → putObs h new x = h x
  | [], _, _, _ => rfl
  | (o, ob) :: r, h, x, hx => by
    simp only [putObs]
    rw [beq_false (fun e => hx (o, ob) (by simp) e.symm), cond_false]
    exact putObs_not fun e he => hx e (by simp [he])
theorem putObs_congr : ∀ {new : List (Nat × Ob)} {h h' : Nat → Option Ob} {x : Nat}, h x = h' x → putObs h new x = putObs h' new x
  | [], _, _, _, e => e
  | (o, ob) :: r, h, h', x, e => by
    simp only [putObs]
    cases Nat.beq x o with
    | true => rfl
    | false => exact putObs_congr e
theorem putObs_comm {o : Nat} {ob : Ob} : ∀ {new : List (Nat × Ob)} {h : Nat → Option Ob} (x : Nat), (∀ e ∈ new, e.1 ≠ o) → putObs (fun x => bif Nat.beq x o then some ob else h x) new x = (bif Nat.beq x o then some ob else putObs h new x)
  | [], _, _, _ => rfl
  | (o', ob') :: r, h, x, hx => by
    simp only [putObs]
    have ih := putObs_comm (ob := ob) (new := r) (h := h) x (fun e he => hx e (by simp [he]))
    rw [ih]
    by_cases e : x = o'
    · subst e
      rw [beq_iff.2 rfl, beq_false (hx (x, ob') (by simp))]
      rfl
    · rw [beq_false e]; rfl

theorem widenCells_ok {u : Nat → Option Obj} : ∀ {cs : List V} {m : Nat} {g : G} {h : Nat → Option Ob} {vals : List Value}, SimH u (· < m) g h w → F2 (VA g) cs vals → (∀ c ∈ cs, c.usesA (· < m)) →
    ∃ g', Agree (· < m) g g' ∧ g'.h = g.h ∧ g'.blk = g.blk ∧ F2 (VA g') (widenCells cs m).1 vals ∧ (∀ c ∈ (widenCells cs m).1, c.usesA (· < (widenCells cs m).2.2)) ∧ m ≤ (widenCells cs m).2.2 ∧
      (∀ e ∈ (widenCells cs m).2.1, m ≤ e.1) ∧ SimH u (· < (widenCells cs m).2.2) g' (putObs h (widenCells cs m).2.1) w := by
  intro cs
  induction cs with
  | nil =>
    intro m g h vals S hF hu
    cases hF
    have e0 : widenCells [] m = ([], [], m) := rfl
    rw [e0]
    exact ⟨g, Agree.refl _ g, rfl, rfl, .nil, (fun c hc => nomatch hc), Nat.le_refl _, (fun e he => nomatch he), S⟩
  | cons c cs ih =>
    intro m g h vals S hF hu
    cases hF with
    | @cons _ v _ vals h1 h2 =>
      have plain : widenCells (c :: cs) m = (c :: (widenCells cs m).1, (widenCells cs m).2.1, (widenCells cs m).2.2) → ∃ g', Agree (· < m) g g' ∧ g'.h = g.h ∧ g'.blk = g.blk ∧ F2 (VA g') (widenCells (c :: cs) m).1 (v :: vals) ∧
          (∀ x ∈ (widenCells (c :: cs) m).1, x.usesA (· < (widenCells (c :: cs) m).2.2)) ∧ m ≤ (widenCells (c :: cs) m).2.2 ∧ (∀ e ∈ (widenCells (c :: cs) m).2.1, m ≤ e.1) ∧ SimH u (· < (widenCells (c :: cs) m).2.2) g' (putObs h (widenCells (c :: cs) m).2.1) w := by
        intro e
        rw [e]
        obtain ⟨g', a1, a2, a3, a4, a5, a6, a7, a8⟩ := ih S h2 (fun x hx => hu x (by simp [hx]))
        refine ⟨g', a1, a2, a3, .cons (VA.agree a1 (hu c (by simp)) h1) a4, fun x hx => ?_, a6, a7, a8⟩
        rcases List.mem_cons.1 hx with rfl | hx
        · exact (hu _ (by simp)).mono fun o (ho : o < m) => Nat.lt_of_lt_of_le ho a6
        · exact a5 x hx
      by_cases hn : ∃ e sz, c = .d (.nils (e + 1) (sz + 1))
      · obtain ⟨e, sz, rfl⟩ := hn
        have e1 : widenCells (.d (.nils (e + 1) (sz + 1)) :: cs) m = (.row m :: (widenCells cs (m + 1)).1, (m, .row (e + 1) (sz + 1) [] false) :: (widenCells cs (m + 1)).2.1, (widenCells cs (m + 1)).2.2) := rfl
        rw [e1]
        have h1 : v = .slice none 0 0 := h1
        subst h1
        have hm1 : ∀ x, x < m → x < m + 1 := fun x hx => by omega
        obtain ⟨g1, b1, b2, b3, b4, b5⟩ := newRow_sim (h' := fun x => bif Nat.beq x m then some (.row (e + 1) (sz + 1) [] false) else h x) S hm1 (Nat.lt_irrefl m) (Nat.lt_succ_self m) (e := e + 1) (sz := sz + 1) (xs := []) (v := .slice none 0 0) (us := []) (row := none) (grown_refl w none) (World.ownsRow_nil w 0 (e + 1) (sz + 1)) (Nat.succ_pos sz) rfl
          (fun b hb => by cases hb) (fun b hb => by cases hb) (fun o' x hx hne => by rw [beq_false hne] at hx; exact ⟨hx, fun _ _ e => by cases e⟩) (by rw [beq_iff.2 rfl]; rfl)
        obtain ⟨g2, a1, a2, a3, a4, a5, a6, a7, a8⟩ := ih (m := m + 1) b5 (F2.mono h2 fun y hy z hz => VA.agree b1 (hu y (by simp [hy])) hz) (fun y hy => (hu y (by simp [hy])).mono hm1)
        have ha : Agree (· < m) g g2 := ⟨fun b x k => a1.h b x (b1.h b x k), fun o ho => (a1.blk o (hm1 o ho)).trans (b1.blk o ho), fun o ho => (a1.hdr o (hm1 o ho)).trans (b1.hdr o ho)⟩
        refine ⟨g2, ha, a2.trans b2, a3.trans b3, .cons ⟨by rw [a1.hdr m (Nat.lt_succ_self m), b4], rfl⟩ a4, fun x hx => ?_, Nat.le_trans (Nat.le_succ m) a6, fun x hx => ?_, ?_⟩
        · rcases List.mem_cons.1 hx with rfl | hx
          · exact Nat.lt_of_lt_of_le (Nat.lt_succ_self m) a6
          · exact a5 x hx
        · rcases List.mem_cons.1 hx with rfl | hx
          · exact Nat.le_refl _
          · have := a7 x hx; omega
        · have e2 : putObs h ((m, .row (e + 1) (sz + 1) [] false) :: (widenCells cs (m + 1)).2.1) = putObs (fun x => bif Nat.beq x m then some (.row (e + 1) (sz + 1) [] false) else h x) (widenCells cs (m + 1)).2.1 := by
            funext x
            rw [putObs_comm x fun y hy => by have := a7 y hy; omega]
            rfl
          rw [e2]
          exact a8
      · refine plain ?_
        match c, hn with
        | .d (.nils (e + 1) (sz + 1)), hn => exact absurd ⟨e, sz, rfl⟩ hn
        | .d (.nils 0 _), _ => rfl
        | .d (.nils (_ + 1) 0), _ => rfl
        | .d .top, _ | .d (.bool _), _ | .d (.int _ _), _ | .d (.str _), _ | .d (.lst _ _), _ | .d .und, _ | .d (.agg _), _ | .d (.fn _), _ | .d .nilp, _ | .d .nilf, _ | .d .nilm, _ | .d .nili, _ | .d .ub, _ | .d (.iface _ _), _ => rfl
        | .ptr .., _ | .el .., _ | .rp .., _ | .row _, _ | .sub .., _ | .agg _, _ | .fn .., _ | .tup _, _ | .mp _, _ | .bp .., _ => rfl

theorem widenCells_bp {ty o f : Nat} : ∀ {cs : List V} {n : Nat}, V.bp ty o f ∈ (widenCells cs n).1 → V.bp ty o f ∈ cs
  | [], n, h => by cases h
  | c :: r, n, h => by
    by_cases hc : ∃ e sz, c = .d (.nils (e + 1) (sz + 1))
    · obtain ⟨e, sz, rfl⟩ := hc
      simp only [widenCells] at h
      rcases List.mem_cons.1 h with h | h
      · cases h
      · exact List.mem_cons_of_mem _ (widenCells_bp h)
    · have e : (widenCells (c :: r) n).1 = c :: (widenCells r n).1 := by
        match c, hc with
        | .d (.nils 0 _), _ => rfl
        | .d (.nils (_ + 1) 0), _ => rfl
        | .d (.nils (e + 1) (sz + 1)), hc => exact absurd ⟨e, sz, rfl⟩ hc
        | .d .top, _ | .d (.bool _), _ | .d (.int _ _), _ | .d (.str _), _ | .d (.lst _ _), _ | .d .und, _ | .d (.agg _), _ | .d (.fn _), _ | .d .nilp, _ | .d .nilf, _ | .d .nilm, _ | .d .nili, _ | .d .ub, _ | .d (.iface _ _), _ => rfl
        | .ptr .., _ | .el .., _ | .rp .., _ | .row _, _ | .sub .., _ | .agg _, _ | .fn .., _ | .tup _, _ | .mp _, _ | .bp .., _ => rfl
      rw [e] at h
      rcases List.mem_cons.1 h with h | h
      · rw [h]; exact List.mem_cons_self ..
      · exact List.mem_cons_of_mem _ (widenCells_bp h)
theorem widenObs_ok : ∀ (os : List Nat) {st : St} {g : G}, SimH X.u (· < st.n) g st.h w → ∃ g', Agree (· < st.n) g g' ∧ g'.h = g.h ∧ st.n ≤ (widenObs os st).n ∧ SimH X.u (· < (widenObs os st).n) g' (widenObs os st).h w ∧ (widenObs os st).t = st.t
  | [], st, g, S => ⟨g, Agree.refl _ g, rfl, Nat.le_refl _, S, rfl⟩
  | o :: os, st, g, S => by
    simp only [widenObs]
    split
    · rename_i c cs ho
      obtain ⟨cc, ee, k1, k2, k3, k4⟩ := S.ob _ _ ho
      obtain ⟨g1, a1, a2, a3, a4, a5, a6, a7, a8⟩ := widenCells_ok S k2 (S.use _ _ ho).2
      have hon : o < st.n := (S.use _ _ ho).1
      have hnew : ∀ e ∈ (widenCells (c :: cs) st.n).2.1, e.1 ≠ o := fun e he => by have := a7 e he; omega
      have hb1 : w.heap[g1.blk o]? = some (.cells cc ee (0, 0)) := by rw [a3]; exact k1
      have hset := setRow_self w (g1.blk o) cc ee (0, 0) hb1
      have S2 := var_update (h' := putObs (fun x => bif Nat.beq x o then some (.var (widenCells (c :: cs) st.n).1) else st.h x) (widenCells (c :: cs) st.n).2.1) (c' := cc) a8 (by rw [putObs_not hnew]; exact ho) hb1 a4 k3 a5 (fun t o' f hm => k4 t o' f (widenCells_bp hm)) (fun x => by
        rw [putObs_comm x hnew]
        by_cases e : x = o
        · rw [if_pos e, beq_iff.2 e]; rfl
        · rw [if_neg e, beq_false e]; rfl)
      rw [hset] at S2
      obtain ⟨g2, b1, b2, b3, b4, b5⟩ := widenObs_ok os (st := { st with h := putObs (fun x => bif Nat.beq x o then some (.var (widenCells (c :: cs) st.n).1) else st.h x) (widenCells (c :: cs) st.n).2.1, m := ⟨(widenCells (c :: cs) st.n).2.2, st.m.df⟩ }) S2
      have hle : ∀ x, x < st.n → x < (widenCells (c :: cs) st.n).2.2 := fun x hx => Nat.lt_of_lt_of_le hx a6
      exact ⟨g2, ⟨fun b x k => b1.h b x (a1.h b x k), fun x hx => (b1.blk x (hle x hx)).trans (a1.blk x hx), fun x hx => (b1.hdr x (hle x hx)).trans (a1.hdr x hx)⟩, b2.trans a2, Nat.le_trans a6 b3, b4, b5⟩
    · exact widenObs_ok os S
theorem widenObs_df : ∀ (os : List Nat) (st : St), (widenObs os st).m.df = st.m.df
  | [], _ => rfl
  | o :: os, st => by
    simp only [widenObs]
    split
    · rw [widenObs_df os]
    · exact widenObs_df os st
theorem widen_ok (N : Now X (· < st.n) g st a w) (pre keep : List Nat) : ∃ g', Now X (· < (widen st pre keep).n) g' (widen st pre keep) a w := by
  obtain ⟨g', a1, a2, a3, a4, a5⟩ := widenObs_ok (X := X) (reach st.h 3 (addNew pre (keep.flatMap fun t => cellRefs st.h (st.t t)))) N.at_.hp
  have hle : ∀ x, x < st.n → x < (widen st pre keep).n := fun x hx => Nat.lt_of_lt_of_le hx a3
  have hdf : (widen st pre keep).m.df = st.m.df := widenObs_df _ st
  refine ⟨g', ⟨a4, fun t => ?_, fun t => ?_⟩, N.size, (by rw [hdf]; exact N.def_), N.ext.trans ⟨a1.h, rfl, rfl, rfl, Nat.le_refl _⟩, N.keep.agree a1 N.pre, fun l o h => hle _ (N.pre l o h)⟩
  · show VV g' ((widenObs _ st).t t) _
    rw [a5]
    exact (N.at_.tm t).agree a1 (N.at_.nm t)
  · show ((widenObs _ st).t t).uses _
    rw [a5]
    exact (N.at_.nm t).mono hle

/-- A state found to fit a skeleton, told by it. -/
theorem conf_now (N : Now X (· < st.n) g st a w) (hid : ∀ l o, lookN X.pre l = some o → o = l) {sk : Sk} {cf : Cf} (hc : conf sk X.pre st = some cf) :
    ∃ g', Now X (· < sk.objs.length) g' ((injectE E0 sk cf.ds).later st.m.df) a w := by
  have hone : OneR X.pre := fun l l' o h h' => by rw [← hid l o h, ← hid l' o h']
  obtain ⟨gF, M⟩ := conf_sound (tm := fun t => a.tmps.getD t undef) hc N.at_.hp N.at_.tm N.at_.nm hone
  refine ⟨gOf g gF cf.ren, ⟨M.sim N.at_.hp, M.tm, M.nm⟩, N.size, N.def_, N.ext.trans ⟨M.a.h, rfl, rfl, rfl, Nat.le_refl _⟩, fun l o h => ?_, fun l o h => (M.lt l o (M.pre l o h)).2⟩
  have h1 := M.pre l o h
  have h2 := hid l o h
  subst h2
  obtain ⟨k1, k2⟩ := N.keep o o h
  exact ⟨by simp only [gOf, h1, Option.getD_some]; exact k1, by simp only [gOf, h1, Option.getD_some]; exact k2⟩
theorem exp_now {sk : Sk} {ds : List D} {df : List (Nat × List (Nat × Nat))} (N : Now X (· < sk.objs.length) g ((injectE E0 sk ds).later df) a w) (hc : chk sk ds = true) : Now X (· < ((inject sk ds).later df).n) g ((inject sk ds).later df) a w := by
  obtain ⟨h1, h2⟩ := exp_sim (tm := fun t => a.tmps.getD t undef) hc N.at_.hp (fun t => ⟨N.at_.tm t, N.at_.nm t⟩)
  exact ⟨⟨h1, fun t => (h2 t).1, fun t => (h2 t).2⟩, N.size, N.def_, N.ext, N.keep, N.pre⟩
end
end Go.AE

/- Regions whose order is open: the run in text order stands for every order that the edges allow. -/
namespace Go.AE
open Go.RowKit

theorem memN_iff {x : Nat} {xs : List Nat} : memN x xs = true ↔ x ∈ xs := by
  unfold memN
  rw [List.any_eq_true]
  exact ⟨fun ⟨y, h1, h2⟩ => by rw [beq_iff.1 h2]; exact h1, fun h => ⟨x, h, beq_iff.2 rfl⟩⟩
theorem memN_false {x : Nat} {xs : List Nat} : memN x xs = false ↔ x ∉ xs := by
  rw [← memN_iff]; simp
theorem inIds_iff {nid x : Nat} : inIds nid x = true ↔ nid ≤ x ∧ x < nid + 32 := by
  unfold inIds
  rw [Bool.and_eq_true]
  constructor
  · rintro ⟨h1, h2⟩
    have h2 : Nat.ble (x + 1) (nid + 32) = true := h2
    exact ⟨Nat.le_of_ble_eq_true h1, Nat.le_of_ble_eq_true h2⟩
  · rintro ⟨h1, h2⟩
    exact ⟨Nat.ble_eq_true_of_le h1, (Nat.ble_eq_true_of_le h2 : Nat.ble (x + 1) (nid + 32) = true)⟩
theorem mem_addNew : ∀ {ys xs : List Nat} {x : Nat}, x ∈ addNew xs ys → x ∈ xs ∨ x ∈ ys
  | [], _, _, h => .inl h
  | o :: os, xs, x, h => by
    simp only [addNew] at h
    rcases mem_addNew h with h | h
    · cases hb : xs.any (Nat.beq o) with
      | true => rw [hb] at h; exact .inl h
      | false =>
        rw [hb] at h
        simp only [cond_false] at h
        rcases List.mem_append.1 h with h | h
        · exact .inl h
        · simp at h; subst h; exact .inr (by simp)
    · exact .inr (by simp [h])
theorem mem_ancOf {ancs : List (List Nat)} : ∀ {es : List Edge} {j : Nat}, j ∈ ancOf ancs es → ∃ e ∈ es, bindsAny e = true ∧ (j = e.on ∨ j ∈ (ancs[e.on]?).getD [])
  | [], _, h => by cases h
  | e :: es, j, h => by
    simp only [ancOf] at h
    cases hb : bindsAny e with
    | false =>
      rw [hb] at h
      obtain ⟨e', h1, h2⟩ := mem_ancOf (es := es) h
      exact ⟨e', by simp [h1], h2⟩
    | true =>
      rw [hb] at h
      simp only [cond_true] at h
      rcases mem_addNew h with h | h
      · rcases mem_addNew h with h | h
        · simp at h; exact ⟨e, by simp, hb, .inl h⟩
        · exact ⟨e, by simp, hb, .inr h⟩
      · obtain ⟨e', h1, h2⟩ := mem_ancOf (es := es) h
        exact ⟨e', by simp [h1], h2⟩
theorem binds_any (e : Edge) : Region.binds .any e = bindsAny e := by
  unfold Region.binds bindsAny
  cases e.ground <;> rfl
theorem edgesOk_lt {i : Nat} : ∀ {es : List Edge} {e : Edge}, edgesOk i es = true → e ∈ es → bindsAny e = true → e.on < i
  | [], _, _, h, _ => by cases h
  | e :: es, e', h, hm, hb => by
    simp only [edgesOk, Bool.and_eq_true] at h
    rcases List.mem_cons.1 hm with rfl | hm
    · have h1 := h.1
      rw [hb] at h1
      have h1 : Nat.blt e'.on i = true := by simpa only [Bool.not_true, Bool.false_or] using h1
      have h1 : Nat.ble (e'.on + 1) i = true := h1
      exact Nat.le_of_ble_eq_true h1
    · exact edgesOk_lt h.2 hm hb
theorem apartAll_at {st0 : Nat} {anc : List Nat} {b : Foot} : ∀ {fs : List Foot} {j0 : Nat}, apartAll st0 anc b j0 fs = true → ∀ k a, fs[k]? = some a → j0 + k ∈ anc ∨ clash (st0 + 32 * (j0 + k)) a b = false
  | [], _, _, k, a, h => by simp at h
  | f :: fs, j0, h, k, a, hk => by
    simp only [apartAll, Bool.and_eq_true] at h
    cases k with
    | zero =>
      simp only [List.getElem?_cons_zero, Option.some.injEq] at hk
      subst hk
      have h1 := h.1
      rw [Bool.or_eq_true] at h1
      rcases h1 with h1 | h1
      · exact .inl (memN_iff.1 h1)
      · exact .inr (by simpa using h1)
    | succ k =>
      have := apartAll_at h.2 k a (by simpa using hk)
      rw [show j0 + 1 + k = j0 + (k + 1) by omega] at this
      exact this

section
variable {c : Cfg} {rec : Task → Out} {nt st0 : Nat} {all : List Oper}

/-- One operation of the run in text order. -/
structure StepD (c : Cfg) (rec : Task → Out) (all : List Oper) (st0 i : Nat) (o : Oper) (st : St) (on : Bool) (v : V) (st' : St) (ft : Foot) : Prop where
  t : st'.t = (st.put o.dst v).t
  n : st'.m = st.m
  dst : ft.dst = o.dst
  guard : ∀ j want, o.guard = some (j, want) → ∃ d, (all[j]?).bind (·.dst) = some d ∧ d ∈ ft.temps ∧ ((st.t d = .d .und ∧ on = false) ∨ ∃ b, st.t d = .d (.bool b) ∧ on = (b == want))
  free : o.guard = none → on = true
  yes : on = true → ∃ st1, (∀ t ∈ tempsOf o.op.operands.toList, t ∈ ft.temps) ∧ ft.writes = (bif isRO o.op then [] else ft.objs) ∧ (∀ x ∈ ft.objs, x < st0 + 32 * i) ∧
    opK c rec o (st0 + 32 * i) (restr (tempsOf o.op.operands.toList) ft.objs st) (fun v s => some (v, s)) = some (v, st1) ∧ st'.h = joinH ft.objs (st0 + 32 * i) st.h st1.h
  no : on = false → v = .d .und ∧ st'.h = st.h

structure GoodD (c : Cfg) (rec : Task → Out) (nt : Nat) (all : List Oper) (st0 i : Nat) (o : Oper) (s : Nat → St) (v : Nat → V) (ft : Nat → Foot) (an : Nat → List Nat) (on : Nat → Bool) : Prop where
  okd : (match o.dst with | some d => Nat.blt d nt | none => true) = true
  edges : ∀ e ∈ o.after.toList, bindsAny e = true → e.on < i
  anc : ∀ j ∈ an i, ∃ e ∈ o.after.toList, bindsAny e = true ∧ (j = e.on ∨ j ∈ an e.on)
  apart : ∀ j, j < i → j ∈ an i ∨ clash (st0 + 32 * j) (ft j) (ft i) = false
  step : StepD c rec all st0 i o (s i) (on i) (v i) (s (i + 1)) (ft i)

def ovr {α : Type} (f : Nat → α) (i : Nat) (x : α) : Nat → α := fun k => if k = i then x else f k
theorem ovr_self {α : Type} (f : Nat → α) (i : Nat) (x : α) : ovr f i x i = x := by simp [ovr]
theorem ovr_ne {α : Type} (f : Nat → α) {i k : Nat} (x : α) (h : k ≠ i) : ovr f i x k = f k := by simp [ovr, h]

theorem drawK_spec {r : Bool × List D} {K : St → Out} : ∀ (os : List Oper) (i : Nat) (fs : List Foot) (ancs : List (List Nat)) (st : St), fs.length = i → ancs.length = i → drawK c rec nt all st0 i os fs ancs st K = some r →
    ∃ (s : Nat → St) (v : Nat → V) (ft : Nat → Foot) (an : Nat → List Nat) (on : Nat → Bool), s i = st ∧ (∀ j, j < i → fs[j]? = some (ft j)) ∧ (∀ j, j < i → ancs[j]? = some (an j)) ∧
      (∀ k o, os[k]? = some o → GoodD c rec nt all st0 (i + k) o s v ft an on) ∧ K (s (i + os.length)) = some r
  | [], i, fs, ancs, st, hf, ha, h => by
    refine ⟨fun _ => st, fun _ => .top, fun j => (fs[j]?).getD ⟨[], none, [], []⟩, fun j => (ancs[j]?).getD [], fun _ => true, rfl, fun j hj => ?_, fun j hj => ?_, fun k o hk => by simp at hk, h⟩
    · show fs[j]? = some ((fs[j]?).getD _)
      rw [List.getElem?_eq_getElem (by omega)]; rfl
    · show ancs[j]? = some ((ancs[j]?).getD _)
      rw [List.getElem?_eq_getElem (by omega)]; rfl
  | o :: os, i, fs, ancs, st, hf, ha, h => by
    -- one step, however it is taken
    have go : ∀ (onb : Bool) (v0 : V) (st' : St) (f0 : Foot), (match o.dst with | some d => Nat.blt d nt | none => true) = true → edgesOk i o.after.toList = true → apartAll st0 (ancOf ancs o.after.toList) f0 0 fs = true →
        StepD c rec all st0 i o st onb v0 st' f0 → drawK c rec nt all st0 (i + 1) os (fs ++ [f0]) (ancs ++ [ancOf ancs o.after.toList]) st' K = some r → 
        ∃ (s : Nat → St) (v : Nat → V) (ft : Nat → Foot) (an : Nat → List Nat) (on : Nat → Bool), s i = st ∧ (∀ j, j < i → fs[j]? = some (ft j)) ∧ (∀ j, j < i → ancs[j]? = some (an j)) ∧
      (∀ k o', (o :: os)[k]? = some o' → GoodD c rec nt all st0 (i + k) o' s v ft an on) ∧ K (s (i + (o :: os).length)) = some r := by
      intro onb v0 st' f0 h1 h2 h3 h4 h5
      obtain ⟨s, v, ft, an, on, e1, e2, e3, e4, e5⟩ := drawK_spec os (i + 1) (fs ++ [f0]) (ancs ++ [ancOf ancs o.after.toList]) st' (by simp [hf]) (by simp [ha]) h5
      have ef : ft i = f0 := by
        have := e2 i (by omega)
        rw [List.getElem?_append_right (by omega), hf] at this
        simpa using this.symm
      have ea : an i = ancOf ancs o.after.toList := by
        have := e3 i (by omega)
        rw [List.getElem?_append_right (by omega), ha] at this
        simpa using this.symm
      have e2' : ∀ j, j < i → fs[j]? = some (ft j) := fun j hj => by
        have := e2 j (by omega)
        rwa [List.getElem?_append_left (by omega)] at this
      have e3' : ∀ j, j < i → ancs[j]? = some (an j) := fun j hj => by
        have := e3 j (by omega)
        rwa [List.getElem?_append_left (by omega)] at this
      refine ⟨ovr s i st, ovr v i v0, ft, an, ovr on i onb, ovr_self _ _ _, e2', e3', fun k o' hk => ?_, ?_⟩
      · cases k with
        | zero =>
          simp only [List.getElem?_cons_zero, Option.some.injEq] at hk
          subst hk
          refine ⟨h1, fun e he hb => edgesOk_lt h2 he hb, fun j hj => ?_, fun j hj => ?_, ?_⟩
          · rw [Nat.add_zero, ea] at hj
            obtain ⟨e, k1, k2, k3⟩ := mem_ancOf hj
            refine ⟨e, k1, k2, k3.imp id fun k3 => ?_⟩
            have hlt := edgesOk_lt h2 k1 k2
            rw [e3' e.on hlt] at k3
            exact k3
          · rw [Nat.add_zero] at hj ⊢
            have := apartAll_at h3 j (ft j) (e2' j hj)
            rw [Nat.zero_add] at this
            rw [ea, ef]; exact this
          · rw [Nat.add_zero, ovr_self, ovr_self, ovr_self, ovr_ne _ _ (by omega), e1, ef]; exact h4
        | succ k =>
          have := e4 k o' (by simpa using hk)
          rw [show i + 1 + k = i + (k + 1) by omega] at this
          refine ⟨this.okd, this.edges, this.anc, this.apart, ?_⟩
          rw [ovr_ne _ _ (by omega), ovr_ne _ _ (by omega), ovr_ne _ _ (by omega), ovr_ne _ _ (by omega)]
          exact this.step
      · rw [show i + (o :: os).length = i + 1 + os.length by simp; omega, ovr_ne _ _ (by omega)]
        exact e5
    -- the guard's slot
    have fin : ∀ (G : List Nat) (onb : Bool), (∀ j want, o.guard = some (j, want) → ∃ d, (all[j]?).bind (·.dst) = some d ∧ d ∈ G ∧ ((st.t d = .d .und ∧ onb = false) ∨ ∃ b, st.t d = .d (.bool b) ∧ onb = (b == want))) → (o.guard = none → onb = true) →
        (onb = true → (bif (match o.dst with | some d => Nat.blt d nt | none => true) && edgesOk i o.after.toList && apartAll st0 (ancOf ancs o.after.toList) ⟨tempsOf o.op.operands.toList ++ G, o.dst, given st o, bif isRO o.op then [] else given st o⟩ 0 fs && (given st o).all (fun x => Nat.blt x (st0 + 32 * i)) then
          opK c rec o (st0 + 32 * i) (restr (tempsOf o.op.operands.toList) (given st o) st) fun v st' => drawK c rec nt all st0 (i + 1) os (fs ++ [⟨tempsOf o.op.operands.toList ++ G, o.dst, given st o, bif isRO o.op then [] else given st o⟩]) (ancs ++ [ancOf ancs o.after.toList]) { st.put o.dst v with h := joinH (given st o) (st0 + 32 * i) st.h st'.h } K
          else none) = some r) →
        (onb = false → (bif (match o.dst with | some d => Nat.blt d nt | none => true) && edgesOk i o.after.toList && apartAll st0 (ancOf ancs o.after.toList) ⟨G, o.dst, [], []⟩ 0 fs then drawK c rec nt all st0 (i + 1) os (fs ++ [⟨G, o.dst, [], []⟩]) (ancs ++ [ancOf ancs o.after.toList]) (st.put o.dst (.d .und)) K else none) = some r) →
        ∃ (s : Nat → St) (v : Nat → V) (ft : Nat → Foot) (an : Nat → List Nat) (on : Nat → Bool), s i = st ∧ (∀ j, j < i → fs[j]? = some (ft j)) ∧ (∀ j, j < i → ancs[j]? = some (an j)) ∧
      (∀ k o', (o :: os)[k]? = some o' → GoodD c rec nt all st0 (i + k) o' s v ft an on) ∧ K (s (i + (o :: os).length)) = some r := by
      intro G onb hg hfree hon hoff
      cases onb with
      | true =>
        obtain ⟨hc, h⟩ := bif_some (hon rfl)
        simp only [Bool.and_eq_true] at hc
        obtain ⟨⟨⟨h1, h2⟩, h3⟩, h4⟩ := hc
        rw [opK_par] at h
        obtain ⟨⟨v0, st1⟩, k1, k2⟩ := bindSome h
        refine go true v0 { st.put o.dst v0 with h := joinH (given st o) (st0 + 32 * i) st.h st1.h } ⟨tempsOf o.op.operands.toList ++ G, o.dst, given st o, bif isRO o.op then [] else given st o⟩ h1 h2 h3 ⟨rfl, ?_, rfl, fun j want hj => ?_, fun _ => rfl, fun _ => ⟨st1, fun t ht => ?_, rfl, fun x hx => ?_, k1, rfl⟩, fun hb => by cases hb⟩ k2
        · cases o.dst <;> rfl
        · obtain ⟨d, a1, a2, a3⟩ := hg j want hj
          exact ⟨d, a1, by simp [a2], a3⟩
        · simp [ht]
        · have := List.all_eq_true.1 h4 x hx
          have : Nat.ble (x + 1) (st0 + 32 * i) = true := this
          exact Nat.le_of_ble_eq_true this
      | false =>
        obtain ⟨hc, h⟩ := bif_some (hoff rfl)
        simp only [Bool.and_eq_true] at hc
        obtain ⟨⟨h1, h2⟩, h3⟩ := hc
        refine go false (.d .und) _ _ h1 h2 h3 ⟨rfl, ?_, rfl, hg, fun hn => (by cases hfree hn), fun hb => (by cases hb), fun _ => ⟨rfl, ?_⟩⟩ h
        · cases o.dst <;> rfl
        · cases o.dst <;> rfl
    simp only [drawK] at h
    split at h
    · rename_i hg
      exact fin [] true (fun j want hj => by rw [hg] at hj; cases hj) (fun _ => rfl) (fun _ => h) (fun hb => by cases hb)
    · rename_i j want hg
      split at h
      · cases h
      · rename_i d hd
        have hd' : (all[j]?).bind (·.dst) = some d := hd
        simp only [hd'] at h
        split at h
        · rename_i he
          exact fin [d] false (fun j' want' hj => by rw [hg] at hj; cases hj; exact ⟨d, hd', by simp, .inl ⟨he, rfl⟩⟩) (fun hn => by rw [hg] at hn; cases hn) (fun hb => by cases hb) (fun _ => h)
        · rename_i b he
          have hgd : ∀ onb, onb = (b == want) → ∀ j' want', o.guard = some (j', want') → ∃ d, (all[j']?).bind (·.dst) = some d ∧ d ∈ [d] ∧ ((st.t d = .d .und ∧ onb = false) ∨ ∃ b, st.t d = .d (.bool b) ∧ onb = (b == want')) := by
            intro onb ho j' want' hj
            rw [hg] at hj; cases hj
            exact ⟨d, hd', by simp, .inr ⟨b, he, ho⟩⟩
          have hgd' : ∀ onb, onb = (b == want) → ∀ j' want', o.guard = some (j', want') → ∃ d', (all[j']?).bind (·.dst) = some d' ∧ d' ∈ [d] ∧ ((st.t d' = .d .und ∧ onb = false) ∨ ∃ b, st.t d' = .d (.bool b) ∧ onb = (b == want')) := by
            intro onb ho j' want' hj
            rw [hg] at hj; cases hj
            exact ⟨d, hd', by simp, .inr ⟨b, he, ho⟩⟩
          have hnn : ∀ onb : Bool, o.guard = none → onb = true := fun _ hn => by rw [hg] at hn; cases hn
          cases b with
          | true =>
            simp only [cond_true] at h
            rw [set_self he] at h
            cases want with
            | true => simp only [cond_true] at h; exact fin [d] true (hgd' true rfl) (hnn _) (fun _ => h) (fun hb => by cases hb)
            | false => simp only [cond_false] at h; exact fin [d] false (hgd' false rfl) (hnn _) (fun hb => by cases hb) (fun _ => h)
          | false =>
            simp only [cond_false] at h
            rw [set_self he] at h
            cases want with
            | true => simp only [cond_true] at h; exact fin [d] false (hgd' false rfl) (hnn _) (fun hb => by cases hb) (fun _ => h)
            | false => simp only [cond_false] at h; exact fin [d] true (hgd' true rfl) (hnn _) (fun _ => h) (fun hb => by cases hb)
        · cases h
end
end Go.AE

/- Regions whose order is open: whatever order the edges allow, the run in text order tells what it comes to. -/
namespace Go.AE
open Go.RowKit

section
variable {X : FX} {rec : Task → Out} {ops : Array Oper} {st0 : Nat} {s : Nat → St} {v : Nat → V} {ft : Nat → Foot} {an : Nat → List Nat} {on : Nat → Bool} {L : Nat → Bool} {Q : Exit → Act → World → Prop}

def wtD (ft : Nat → Foot) (i t : Nat) : Bool := match (ft i).dst with | some d => Nat.beq t d | none => false
def whD (st0 : Nat) (ft : Nat → Foot) (on : Nat → Bool) (i x : Nat) : Bool := on i && (memN x (ft i).writes || inIds (st0 + 32 * i) x)
/-- The state behind the operations of L. -/
def ST (st0 : Nat) (s : Nat → St) (v : Nat → V) (ft : Nat → Foot) (on : Nat → Bool) (n : Nat) (L : Nat → Bool) : St :=
  ⟨foldW (s 0).t (wtD ft) (fun i _ => v i) L n, foldW (s 0).h (whD st0 ft on) (fun i x => (s (i + 1)).h x) L n, (s 0).m⟩

/-- The whole run in text order. -/
structure AllD (X : FX) (rec : Task → Out) (ops : Array Oper) (st0 : Nat) (s : Nat → St) (v : Nat → V) (ft : Nat → Foot) (an : Nat → List Nat) (on : Nat → Bool) : Prop where
  n : (s 0).n = st0
  good : ∀ i o, ops[i]? = some o → GoodD X.c rec X.fn.ntmps ops.toList st0 i o s v ft an on

theorem put_m (st : St) (d : Option Tmp) (x : V) : (st.put d x).m = st.m := by cases d <;> rfl
theorem put_t (st : St) (d : Option Tmp) (x : V) (t : Nat) : (st.put d x).t t = if d = some t then x else st.t t := by
  cases d with
  | none => simp [St.put]
  | some d =>
    show (st.set d x).t t = _
    rw [set_t]
    by_cases e : t = d
    · subst e; simp
    · rw [if_neg e, if_neg (by intro h; cases h; exact e rfl)]

theorem AllD.text (A : AllD X rec ops st0 s v ft an on) : ∀ i, i ≤ ops.size → (s i).m = (s 0).m ∧ (∀ t, (s i).t t = foldW (s 0).t (wtD ft) (fun i _ => v i) (fun _ => true) i t) ∧
    (∀ x, (s i).h x = foldW (s 0).h (whD st0 ft on) (fun i x => (s (i + 1)).h x) (fun _ => true) i x)
  | 0, _ => ⟨rfl, fun _ => rfl, fun _ => rfl⟩
  | i + 1, hi => by
    obtain ⟨h0, h1, h2⟩ := A.text i (by omega)
    have G := A.good i ops[i] (Array.getElem?_eq_getElem (by omega))
    have S := G.step
    refine ⟨S.n.trans h0, fun t => ?_, fun x => ?_⟩
    · rw [S.t, put_t]
      simp only [foldW, Bool.true_and, wtD, S.dst]
      cases hd : ops[i].dst with
      | none => simp only [cond_false]; rw [← h1 t]; simp
      | some d =>
        by_cases e : t = d
        · subst e; rw [if_pos rfl]; simp only []; rw [beq_iff.2 rfl, cond_true]
        · simp only []; rw [beq_false e, cond_false, ← h1 t]
          rw [if_neg (by intro h; cases h; exact e rfl)]
    · simp only [foldW, Bool.true_and]
      cases hw : whD st0 ft on i x with
      | true => rfl
      | false =>
        rw [cond_false, ← h2 x]
        cases ho : on i with
        | false => rw [(S.no ho).2]
        | true =>
          obtain ⟨st1, k1, k2, k3, k4, k5⟩ := S.yes ho
          unfold whD at hw
          rw [ho, Bool.true_and, Bool.or_eq_false_iff] at hw
          rw [k5]
          unfold joinH
          rw [hw.2, Bool.or_false]
          cases hF : memN x (ft i).objs with
          | false => rfl
          | true =>
            rw [cond_true]
            cases hro : isRO ops[i].op with
            | false => rw [k2, hro, cond_false] at hw; rw [hw.1] at hF; cases hF
            | true =>
              have := opK_own hro k4 x (by rw [← inIds_iff]; rw [hw.2]; simp)
              rw [this]
              simp [restr, hF]

/-- What is known of the operations done. -/
def Down (ops : Array Oper) (L : Nat → Bool) : Prop := ∀ i o, ops[i]? = some o → L i = true → ∀ e ∈ o.after.toList, bindsAny e = true → L e.on = true

theorem AllD.anc (A : AllD X rec ops st0 s v ft an on) (hd : Down ops L) : ∀ m i, i < m → i < ops.size → L i = true → ∀ j ∈ an i, L j = true
  | 0, i, h, _, _, _, _ => by omega
  | m + 1, i, h, hi, hL, j, hj => by
    have G := A.good i ops[i] (Array.getElem?_eq_getElem hi)
    obtain ⟨e, h1, h2, h3⟩ := G.anc j hj
    have hlt := G.edges e h1 h2
    have hLe := hd i ops[i] (Array.getElem?_eq_getElem hi) hL e h1 h2
    rcases h3 with rfl | h3
    · exact hLe
    · exact A.anc hd m e.on (by omega) (by omega) hLe j h3

theorem noclash {nid : Nat} {a b : Foot} (h : clash nid a b = false) :
    (∀ d, a.dst = some d → d ∉ b.temps) ∧ (∀ d, b.dst = some d → d ∉ a.temps) ∧ (∀ d, a.dst = some d → b.dst ≠ some d) ∧ (∀ x ∈ a.writes, x ∉ b.objs) ∧ (∀ x ∈ b.writes, x ∉ a.objs) ∧ (∀ x ∈ b.objs, inIds nid x = false) := by
  unfold clash at h
  simp only [Bool.or_eq_false_iff] at h
  obtain ⟨⟨⟨⟨⟨h1, h2⟩, h3⟩, h4⟩, h5⟩, h6⟩ := h
  have m : ∀ {xs ys : List Nat}, meets xs ys = false → ∀ x ∈ xs, x ∉ ys := by
    intro xs ys h x hx
    unfold meets at h
    have := List.any_eq_false.1 h x hx
    rw [memN_iff] at this
    exact this
  refine ⟨fun d hd => ?_, fun d hd => ?_, fun d hd hd' => ?_, m h4, m h5, fun x hx => ?_⟩
  · unfold optMem at h1; rw [hd] at h1; exact memN_false.1 h1
  · unfold optMem at h2; rw [hd] at h2; exact memN_false.1 h2
  · rw [hd, hd'] at h3
    simp only [] at h3
    rw [beq_iff.2 rfl] at h3; cases h3
  · have := List.any_eq_false.1 h6 x hx
    simpa using this

/-- The names in use. -/
def pD (st0 n : Nat) (L : Nat → Bool) (x : Nat) : Prop := x < st0 ∨ ∃ j, j < n ∧ L j = true ∧ st0 + 32 * j ≤ x ∧ x < st0 + 32 * j + 32

theorem AllD.step (A : AllD X rec ops st0 s v ft an on) (hn : NamesOk X.c) (hg0 : X.c.gok X.g0.h) (hrec : RecOk X.c rec) (hd : Down ops L) {i : Nat} {o : Oper} (ho : ops[i]? = some o) (hL : L i = false) (hready : ∀ e ∈ o.after.toList, bindsAny e = true → L e.on = true)
    {g : G} {a : Act} {w : World} (N : Now X (pD st0 ops.size L) g (ST st0 s v ft on ops.size L) a w) {K : Act → World → Prop}
    (hK : ∀ g' a' w', Now X (pD st0 ops.size fun k => bif Nat.beq k i then true else L k) g' (ST st0 s v ft on ops.size fun k => bif Nat.beq k i then true else L k) a' w' → K a' w') :
    if Region.wanted o (yielded ops a.tmps) = true then o.wp X.c.P a w K Q else K (a.put o.dst undef) w := by
  have hi : i < ops.size := by
    rcases Array.getElem?_eq_some_iff.1 ho with ⟨h, _⟩; exact h
  have G := A.good i o ho
  have S := G.step
  have hanc : ∀ j ∈ an i, L j = true := fun j hj => by
    obtain ⟨e, h1, h2, h3⟩ := G.anc j hj
    have hLe := hready e h1 h2
    rcases h3 with rfl | h3
    · exact hLe
    · have hlt := G.edges e h1 h2
      exact A.anc hd (e.on + 1) e.on (by omega) (by omega) hLe j h3
  -- earlier ones that are not done, and later ones that are, are apart
  have bef : ∀ j, j < i → L j = true ∨ clash (st0 + 32 * j) (ft j) (ft i) = false := fun j hj => (G.apart j hj).imp (hanc j) id
  have aft : ∀ k, i < k → k < ops.size → L k = false ∨ clash (st0 + 32 * i) (ft i) (ft k) = false := fun k h1 h2 => by
    cases hk : L k with
    | false => exact .inl rfl
    | true =>
      right
      have Gk := A.good k ops[k] (Array.getElem?_eq_getElem h2)
      rcases Gk.apart i h1 with h | h
      · have := A.anc hd (k + 1) k (by omega) h2 hk i h
        rw [hL] at this; cases this
      · exact h
  obtain ⟨tx1, tx2, tx3⟩ := A.text i (by omega)
  have objlt : ∀ k, k < ops.size → on k = true → ∀ x ∈ (ft k).objs, x < st0 + 32 * k := fun k hk hon => by
    obtain ⟨st1, _, _, h, _⟩ := (A.good k ops[k] (Array.getElem?_eq_getElem hk)).step.yes hon
    exact h
  have wrobj : ∀ k, k < ops.size → on k = true → ∀ x ∈ (ft k).writes, x ∈ (ft k).objs := fun k hk hon x hx => by
    obtain ⟨st1, _, h, _⟩ := (A.good k ops[k] (Array.getElem?_eq_getElem hk)).step.yes hon
    rw [h] at hx
    cases hro : isRO ops[k].op with
    | true => rw [hro] at hx; cases hx
    | false => rw [hro] at hx; exact hx
  -- slots
  have rdT : ∀ t ∈ (ft i).temps, (ST st0 s v ft on ops.size L).t t = (s i).t t := fun t ht => by
    rw [tx2 t]
    refine foldW_read _ _ _ hi hL (fun j hj => ?_) (fun k h1 h2 => ?_)
    · refine (bef j hj).imp id fun h => ?_
      unfold wtD
      split
      · rename_i d hdj
        exact beq_false fun e => (noclash h).1 d hdj (by rw [← e]; exact ht)
      · rfl
    · refine (aft k h1 h2).imp id fun h => ?_
      unfold wtD
      split
      · rename_i d hdk
        exact beq_false fun e => (noclash h).2.1 d hdk (by rw [← e]; exact ht)
      · rfl
  have addT : ∀ t, (ST st0 s v ft on ops.size fun k => bif Nat.beq k i then true else L k).t t = ((ST st0 s v ft on ops.size L).put o.dst (v i)).t t := fun t => by
    rw [put_t]
    refine (foldW_add _ _ _ ops.size hi fun k h1 h2 => ?_).trans ?_
    · refine (aft k h1 h2).imp id fun h => ?_
      have h3 := (noclash h).2.2.1
      unfold wtD
      cases hdi : (ft i).dst with
      | none => exact .inl rfl
      | some d =>
        cases hdk : (ft k).dst with
        | none => exact .inr rfl
        | some d' =>
          simp only []
          by_cases e : t = d
          · right
            refine beq_false fun e' => h3 d hdi ?_
            rw [hdk, ← e', e]
          · exact .inl (beq_false e)
    · unfold wtD
      rw [S.dst]
      cases hdo : o.dst with
      | none => simp only [cond_false]; rw [if_neg (by simp)]; rfl
      | some d =>
        by_cases e : t = d
        · subst e; rw [if_pos rfl]; simp only []; rw [beq_iff.2 rfl, cond_true]
        · simp only []; rw [beq_false e, cond_false, if_neg (by intro h; cases h; exact e rfl)]; rfl
  -- objects
  have addH : ∀ x, (ST st0 s v ft on ops.size fun k => bif Nat.beq k i then true else L k).h x = bif whD st0 ft on i x then (s (i + 1)).h x else (ST st0 s v ft on ops.size L).h x := fun x => by
    refine foldW_add _ _ _ ops.size hi fun k h1 h2 => ?_
    refine (aft k h1 h2).imp id fun h => ?_
    obtain ⟨_, _, _, c4, c5, c6⟩ := noclash h
    cases hwi : whD st0 ft on i x with
    | false => exact .inl rfl
    | true =>
      right
      cases hwk : whD st0 ft on k x with
      | false => rfl
      | true =>
        exfalso
        unfold whD at hwi hwk
        rw [Bool.and_eq_true, Bool.or_eq_true] at hwi hwk
        obtain ⟨oi, wi⟩ := hwi
        obtain ⟨ok, wk⟩ := hwk
        rcases wi with wi | wi
        · have wi := memN_iff.1 wi
          rcases wk with wk | wk
          · exact c4 x wi (wrobj k h2 ok x (memN_iff.1 wk))
          · have := objlt i hi oi x (wrobj i hi oi x wi)
            have := inIds_iff.1 wk
            omega
        · rcases wk with wk | wk
          · have := c6 x (wrobj k h2 ok x (memN_iff.1 wk))
            rw [wi] at this; cases this
          · have := inIds_iff.1 wi
            have := inIds_iff.1 wk
            omega
  have rdH : on i = true → ∀ x ∈ (ft i).objs, (ST st0 s v ft on ops.size L).h x = (s i).h x := fun hon x hx => by
    rw [tx3 x]
    refine foldW_read _ _ _ hi hL (fun j hj => ?_) (fun k h1 h2 => ?_)
    · refine (bef j hj).imp id fun h => ?_
      obtain ⟨_, _, _, c4, c5, c6⟩ := noclash h
      unfold whD
      cases hoj : on j with
      | false => rfl
      | true =>
        rw [Bool.true_and, Bool.or_eq_false_iff]
        exact ⟨memN_false.2 fun hw => c4 x hw hx, c6 x hx⟩
    · refine (aft k h1 h2).imp id fun h => ?_
      obtain ⟨_, _, _, c4, c5, c6⟩ := noclash h
      unfold whD
      cases hok : on k with
      | false => rfl
      | true =>
        rw [Bool.true_and, Bool.or_eq_false_iff]
        refine ⟨memN_false.2 fun hw => c5 x hw hx, ?_⟩
        have := objlt i hi hon x hx
        cases hin : inIds (st0 + 32 * k) x with
        | false => rfl
        | true => have := inIds_iff.1 hin; omega
  have hpq : ∀ x, pD st0 ops.size L x → pD st0 ops.size (fun k => bif Nat.beq k i then true else L k) x := fun x hx => by
    rcases hx with hx | ⟨j, h1, h2, h3⟩
    · exact .inl hx
    · refine .inr ⟨j, h1, ?_, h3⟩
      show (bif Nat.beq j i then true else L j) = true
      rw [h2]; cases Nat.beq j i <;> rfl
  have hfr : Fresh (pD st0 ops.size L) (pD st0 ops.size fun k => bif Nat.beq k i then true else L k) (st0 + 32 * i) := fun k hk => by
    constructor
    · rintro (h | ⟨j, h1, h2, h3, h4⟩)
      · omega
      · have : j = i := by omega
        subst this
        rw [hL] at h2; cases h2
    · refine .inr ⟨i, hi, ?_, by omega, by omega⟩
      show (bif Nat.beq i i then true else L i) = true
      rw [beq_iff.2 rfl]; rfl
  -- the guard
  have hw : Region.wanted o (yielded ops a.tmps) = on i := by
    cases hg : o.guard with
    | none => simp [Region.wanted, hg, S.free hg]
    | some jw =>
      obtain ⟨j, want⟩ := jw
      obtain ⟨d, h1, h2, h3⟩ := S.guard j want hg
      rw [Array.getElem?_toList] at h1
      have htm := N.at_.tm d
      rw [rdT d h2] at htm
      rcases h3 with ⟨h3, h4⟩ | ⟨b, h3, h4⟩
      · rw [h3] at htm
        simp [Region.wanted, hg, yielded_und h1 htm, h4]
      · rw [h3] at htm
        simp [Region.wanted, hg, yielded_of h1 (VV_bool htm), h4]
  rw [hw]
  cases hon : on i with
  | false =>
    rw [if_neg (by simp)]
    obtain ⟨hv, hh⟩ := S.no hon
    refine hK g _ _ ?_
    have N1 := N.put (vv := v i) (st1 := ST st0 s v ft on ops.size L) (v := undef) G.okd hpq (N.at_.hp.more hpq) (Agree.refl _ g) (Ext.refl g w) (by rw [hv]; exact (rfl : undef = undef)) (by rw [hv]; trivial) rfl rfl
    have e : (ST st0 s v ft on ops.size fun k => bif Nat.beq k i then true else L k).h = ((ST st0 s v ft on ops.size L).put o.dst (v i)).h := by
      funext x
      rw [addH x]
      have : whD st0 ft on i x = false := by unfold whD; rw [hon]; rfl
      rw [this, cond_false]
      cases o.dst <;> rfl
    refine ⟨⟨?_, fun t => ?_, fun t => ?_⟩, N1.size, (by have k := N1.def_; simp only [put_m] at k; exact k), N1.ext, N1.keep, N1.pre⟩
    · rw [e]; exact N1.at_.hp
    · rw [addT t]; exact N1.at_.tm t
    · rw [addT t]; exact N1.at_.nm t
  | true =>
    rw [if_pos rfl]
    obtain ⟨st1, k1, k2, k3, k4, k5⟩ := S.yes hon
    have er : restr (tempsOf o.op.operands.toList) (ft i).objs (s i) = restr (tempsOf o.op.operands.toList) (ft i).objs (ST st0 s v ft on ops.size L) := by
      have e1 : (fun t => bif memN t (tempsOf o.op.operands.toList) then (s i).t t else V.top) = fun t => bif memN t (tempsOf o.op.operands.toList) then (ST st0 s v ft on ops.size L).t t else V.top := by
        funext t
        cases ht : memN t (tempsOf o.op.operands.toList) with
        | false => rfl
        | true => simp only [cond_true]; rw [rdT t (k1 t (memN_iff.1 ht))]
      have e2 : (fun x => bif memN x (ft i).objs then (s i).h x else none) = fun x => bif memN x (ft i).objs then (ST st0 s v ft on ops.size L).h x else none := by
        funext x
        cases hx : memN x (ft i).objs with
        | false => rfl
        | true => simp only [cond_true]; rw [rdH hon x (memN_iff.1 hx)]
      unfold restr
      rw [e1, e2, tx1]; rfl
    rw [er] at k4
    have hold := N.at_.hp
    have S0 : SimH X.u (pD st0 ops.size L) g (restr (tempsOf o.op.operands.toList) (ft i).objs (ST st0 s v ft on ops.size L)).h w := hold.fewer fun x ob hx => by
      simp only [restr] at hx
      cases hm : memN x (ft i).objs with
      | false => rw [hm] at hx; cases hx
      | true => rw [hm] at hx; exact hx
    have P : Pass X.u (pD st0 ops.size L) (pD st0 ops.size L) g g (ST st0 s v ft on ops.size L).h (restr (tempsOf o.op.operands.toList) (ft i).objs (ST st0 s v ft on ops.size L)).h w (fun l o => l = o) :=
      ⟨hold, S0, fun _ _ h => h, fun l x0 hl => ⟨l, x0, rfl, by
        simp only [restr] at hl
        cases hm : memN l (ft i).objs with
        | false => rw [hm] at hl; cases hl
        | true => rw [hm] at hl; exact hl, fun _ h => h⟩⟩
    have At0 : At (rest0 g (restr (tempsOf o.op.operands.toList) (ft i).objs (ST st0 s v ft on ops.size L)).h w) (pD st0 ops.size L) g (restr (tempsOf o.op.operands.toList) (ft i).objs (ST st0 s v ft on ops.size L)) a w := by
      refine ⟨P.sim, fun t => ?_, fun t => ?_⟩
      · simp only [restr]
        cases memN t (tempsOf o.op.operands.toList) with
        | true => exact N.at_.tm t
        | false => exact (trivial : VD g.h .top _)
      · simp only [restr]
        cases memN t (tempsOf o.op.operands.toList) with
        | true => exact N.at_.nm t
        | false => trivial
    obtain ⟨vv, st1', hkk, hop⟩ := op_sound hn (hn.2.2.1 _ _ N.ext.h hg0) hrec At0 hpq hfr k4
    cases hkk
    refine hop.wp fun val w' ⟨g', s1, s2, s3, s4, s5, s6, s7⟩ => hK g' _ _ ?_
    have hH : SimH X.u (pD st0 ops.size fun k => bif Nat.beq k i then true else L k) g' (ST st0 s v ft on ops.size fun k => bif Nat.beq k i then true else L k).h w' := by
      refine P.back (f := fun l => l) s1 s2.h s2 (fun _ _ h => h) hpq fun x ob hx => ?_
      have right : st1.h x = some ob → (∃ l ob1, st1.h l = some ob1 ∧ x = l ∧ OB g' x ob w' ∧ (∀ b, obk g' x ob = some b → obk g' l ob1 = some b) ∧ pD st0 ops.size (fun k => bif Nat.beq k i then true else L k) x ∧ ob.uses (pD st0 ops.size fun k => bif Nat.beq k i then true else L k)) := fun h1 =>
        ⟨x, ob, h1, rfl, s1.ob _ _ h1, fun _ h => h, (s1.use _ _ h1).1, (s1.use _ _ h1).2⟩
      rw [addH x] at hx
      cases hwi : whD st0 ft on i x with
      | true =>
        rw [hwi, cond_true, k5] at hx
        refine .inr (right ?_)
        unfold joinH at hx
        have : (memN x (ft i).objs || inIds (st0 + 32 * i) x) = true := by
          unfold whD at hwi
          rw [Bool.and_eq_true, Bool.or_eq_true] at hwi
          rw [Bool.or_eq_true]
          exact hwi.2.imp (fun h => memN_iff.2 (wrobj i hi hon x (memN_iff.1 h))) id
        rw [this] at hx; exact hx
      | false =>
        rw [hwi, cond_false] at hx
        unfold whD at hwi
        rw [hon, Bool.true_and, Bool.or_eq_false_iff] at hwi
        cases hF : memN x (ft i).objs with
        | false =>
          refine .inl ⟨hx, fun l x0 hl e => ?_, fun b hb => .inl (hold.sep _ _ _ hx hb).1⟩
          subst e
          simp only [restr, hF] at hl; cases hl
        | true =>
          refine .inr (right ?_)
          cases hro : isRO o.op with
          | false => rw [k2, hro, cond_false] at hwi; rw [hwi.1] at hF; cases hF
          | true =>
            have := opK_own hro k4 x (by rw [← inIds_iff]; rw [hwi.2]; simp)
            rw [this]
            simp only [restr, hF, cond_true]; exact hx
    have N1 := N.put (st1 := { ST st0 s v ft on ops.size L with h := (ST st0 s v ft on ops.size fun k => bif Nat.beq k i then true else L k).h }) G.okd hpq hH s2 s3 s4 s5 rfl rfl
    refine ⟨⟨?_, fun t => ?_, fun t => ?_⟩, N1.size, (by have k := N1.def_; simp only [put_m] at k; exact k), N1.ext, N1.keep, N1.pre⟩
    · exact hH
    · rw [addT t]
      have := N1.at_.tm t
      rw [put_t] at this ⊢; exact this
    · rw [addT t]
      have := N1.at_.nm t
      rw [put_t] at this ⊢; exact this

theorem foldW_none {Rs Vl : Type} (m0 : Rs → Vl) (wr : Nat → Rs → Bool) (e : Nat → Rs → Vl) : ∀ (n : Nat) (x : Rs), foldW m0 wr e (fun _ => false) n x = m0 x
  | 0, _ => rfl
  | n + 1, x => by simp only [foldW, Bool.false_and, cond_false]; exact foldW_none m0 wr e n x

def LD (listed : Array Bool) (i : Nat) : Bool := listed.getD i false
theorem LD_set {listed : Array Bool} {i : Nat} (hi : i < listed.size) : LD (listed.setIfInBounds i true) = fun k => bif Nat.beq k i then true else LD listed k := by
  funext k
  unfold LD
  by_cases e : k = i
  · subst e; rw [beq_iff.2 rfl]; simp [Array.getD_eq_getD_getElem?, hi]
  · rw [beq_false e]; simp [Array.getD_eq_getD_getElem?, Array.getElem?_setIfInBounds, Ne.symm e]

theorem AllD.any (A : AllD X rec ops st0 s v ft an on) (hn : NamesOk X.c) (hg0 : X.c.gok X.g0.h) (hrec : RecOk X.c rec)
    (hQ : ∀ g a w, Now X (pD st0 ops.size fun _ => true) g (s ops.size) a w → Q .normal a w) :
    ∀ (fuel : Nat) (listed : Array Bool) (g : G) (a : Act) (w : World), listed.size = ops.size → (List.range ops.size).countP (fun i => !LD listed i) ≤ fuel → Down ops (LD listed) →
      Now X (pD st0 ops.size (LD listed)) g (ST st0 s v ft on ops.size (LD listed)) a w → wpAny X.c.P .any ops Q fuel listed a w := by
  -- when none is ready, all are done
  have fin : ∀ (listed : Array Bool) (g : G) (a : Act) (w : World), listed.size = ops.size → Region.ready .any ops listed = [] → Now X (pD st0 ops.size (LD listed)) g (ST st0 s v ft on ops.size (LD listed)) a w → Q .normal a w := by
    intro listed g a w hsz hr N
    have hall : ∀ m i, i < m → i < ops.size → LD listed i = true := by
      intro m
      induction m with
      | zero => intro i h; omega
      | succ m ih =>
        intro i h1 h2
        cases hL : LD listed i with
        | true => rfl
        | false =>
          exfalso
          have : i ∈ Region.ready .any ops listed := by
            unfold Region.ready
            rw [List.mem_filter]
            refine ⟨by simpa using h2, ?_⟩
            have hl : listed.getD i true = false := by
              unfold LD at hL
              rw [Array.getD_eq_getD_getElem?, Array.getElem?_eq_getElem (by omega)] at hL ⊢
              exact hL
            rw [hl, Array.getElem?_eq_getElem h2]
            simp only [Bool.not_false, Bool.true_and, Option.map_some, Option.getD_some]
            rw [← Array.all_toList, List.all_eq_true]
            intro e he
            rw [binds_any]
            cases hb : bindsAny e with
            | false => rfl
            | true =>
              have hlt := (A.good i ops[i] (Array.getElem?_eq_getElem h2)).edges e he hb
              have := ih e.on (by omega) (by omega)
              unfold LD at this
              simp [this]
          rw [hr] at this; cases this
    have eT : ∀ t, (ST st0 s v ft on ops.size (LD listed)).t t = (s ops.size).t t := fun t => by
      rw [(A.text ops.size (Nat.le_refl _)).2.1 t]
      exact foldW_congr _ _ _ _ fun i hi => .inl (hall (i + 1) i (by omega) hi)
    have eH : (ST st0 s v ft on ops.size (LD listed)).h = (s ops.size).h := funext fun x => by
      rw [(A.text ops.size (Nat.le_refl _)).2.2 x]
      exact foldW_congr _ _ _ _ fun i hi => .inl (hall (i + 1) i (by omega) hi)
    have hpq : ∀ x, pD st0 ops.size (LD listed) x → pD st0 ops.size (fun _ => true) x := fun x hx => hx.imp id fun ⟨j, h1, _, h3⟩ => ⟨j, h1, rfl, h3⟩
    refine hQ g a w ⟨⟨?_, fun t => ?_, fun t => ?_⟩, N.size, (by rw [(A.text ops.size (Nat.le_refl _)).1]; exact N.def_), N.ext, N.keep, fun l o h => hpq _ (N.pre l o h)⟩
    · rw [← eH]; exact N.at_.hp.more hpq
    · rw [← eT t]; exact N.at_.tm t
    · rw [← eT t]; exact (N.at_.nm t).mono hpq
  intro fuel
  induction fuel with
  | zero =>
    intro listed g a w hsz hc hd N
    have hr : Region.ready .any ops listed = [] := by
      rw [List.eq_nil_iff_forall_not_mem]
      intro i hi
      unfold Region.ready at hi
      rw [List.mem_filter] at hi
      have h0 := List.countP_eq_zero.1 (Nat.le_zero.1 hc) i hi.1
      have hi2 := hi.2
      rw [Bool.and_eq_true] at hi2
      have hlt : i < listed.size := by rw [hsz]; simpa using hi.1
      unfold LD at h0
      rw [Array.getD_eq_getD_getElem?, Array.getElem?_eq_getElem hlt] at h0 hi2
      simp at h0 hi2
      rw [h0] at hi2; simp at hi2
    exact ⟨hr, fin listed g a w hsz hr N⟩
  | succ fuel ih =>
    intro listed g a w hsz hc hd N
    refine ⟨fun hr => fin listed g a w hsz hr N, fun i hi => ?_⟩
    unfold Region.ready at hi
    rw [List.mem_filter] at hi
    obtain ⟨hi1, hi2⟩ := hi
    have hlt : i < ops.size := by simpa using hi1
    rw [Bool.and_eq_true] at hi2
    have hL : LD listed i = false := by
      have := hi2.1
      unfold LD
      rw [Array.getD_eq_getD_getElem?, Array.getElem?_eq_getElem (by omega)] at this ⊢
      simpa using this
    have ho : ops[i]? = some ops[i] := Array.getElem?_eq_getElem hlt
    have hready : ∀ e ∈ ops[i].after.toList, bindsAny e = true → LD listed e.on = true := by
      have h2 := hi2.2
      rw [ho] at h2
      simp only [Option.map_some, Option.getD_some] at h2
      rw [← Array.all_toList, List.all_eq_true] at h2
      intro e he hb
      have := h2 e he
      rw [binds_any, hb] at this
      simpa [LD] using this
    have key := A.step hn hg0 hrec (Q := Q) (K := wpAny X.c.P .any ops Q fuel (listed.setIfInBounds i true)) hd ho hL hready N fun g' a' w' N' => by
      rw [← LD_set (by omega)] at N'
      refine ih _ g' a' w' (by simpa using hsz) ?_ (fun k o hk hLk e he hb => ?_) N'
      · rw [LD_set (by omega)]
        have hcnt : ∀ (l : List Nat), i ∈ l → l.Nodup → l.countP (fun k => !(bif Nat.beq k i then true else LD listed k)) + 1 = l.countP (fun k => !LD listed k) := by
          intro l
          induction l with
          | nil => intro h; cases h
          | cons x xs ihl =>
            intro hm hnd
            rw [List.nodup_cons] at hnd
            by_cases e : x = i
            · subst e
              rw [List.countP_cons, List.countP_cons, beq_iff.2 rfl, hL]
              have : xs.countP (fun k => !(bif Nat.beq k x then true else LD listed k)) = xs.countP (fun k => !LD listed k) := by
                refine List.countP_congr fun k hk => ?_
                have : k ≠ x := fun e => hnd.1 (by rw [← e]; exact hk)
                rw [beq_false this]; rfl
              rw [this]; simp
            · have := ihl ((List.mem_cons.1 hm).resolve_left (Ne.symm e)) hnd.2
              rw [List.countP_cons, List.countP_cons, beq_false e, cond_false]
              omega
        have := hcnt (List.range ops.size) hi1 List.nodup_range
        show (List.range ops.size).countP (fun k => !(bif Nat.beq k i then true else LD listed k)) ≤ fuel
        omega
      · rw [LD_set (by omega)] at hLk ⊢
        have hdone : LD listed e.on = true := by
          by_cases ek : k = i
          · subst ek
            rw [ho] at hk; cases hk
            exact hready e he hb
          · simp only [beq_false ek, cond_false] at hLk
            exact hd k o hk hLk e he hb
        show (bif Nat.beq e.on i then true else LD listed e.on) = true
        rw [hdone]; cases Nat.beq e.on i <;> rfl
    unfold wpOp
    rw [ho]
    simp only []
    split
    · rename_i hw; rw [if_pos hw] at key; exact .inl key
    · rename_i hw; rw [if_neg hw] at key; exact key

theorem drawK_sound {id : Nat} (hn : NamesOk X.c) (hg0 : X.c.gok X.g0.h) (hrec : RecOk X.c rec) (hm : X.c.P.follows .mixedOrders = true) {st : St} {g : G} {a : Act} {w : World} {K : St → Out} {r : Bool × List D} (N : Now X (· < st.n) g st a w) (h : drawK X.c rec X.fn.ntmps ops.toList st.n 0 ops.toList [] [] st K = some r)
    (hK : ∀ st' a' w' g', K st' = some r → Now X (· < st.n + 32 * ops.size) g' st' a' w' → st'.n = st.n → Q .normal a' w') : (Code.region id ops true).wp X.c.P Q a w := by
  obtain ⟨s, v, ft, an, on, e1, _, _, e4, e5⟩ := drawK_spec ops.toList 0 [] [] st rfl rfl h
  have A : AllD X rec ops st.n s v ft an on := ⟨by rw [e1], fun i o ho => by
    have := e4 i o (by rw [Array.getElem?_toList]; exact ho)
    rw [Nat.zero_add] at this; exact this⟩
  have hsz : 0 + ops.toList.length = ops.size := by simp
  rw [hsz] at e5
  refine wp_region_any hm ?_
  have hL0 : LD (Array.replicate ops.size false) = fun _ => false := by
    funext i
    unfold LD
    rw [Array.getD_eq_getD_getElem?, Array.getElem?_replicate]
    split <;> rfl
  refine A.any hn hg0 hrec (fun g' a' w' N' => ?_) ops.size _ g a _ (by simp) (Nat.le_trans List.countP_le_length (by simp)) (fun i o _ hLi => by rw [hL0] at hLi; cases hLi) ?_
  · refine hK (s ops.size) a' w' g' e5 ?_ (by have := (A.text ops.size (Nat.le_refl _)).1; rw [e1] at this; exact congrArg Mk.k this)
    have hpq : ∀ x, pD st.n ops.size (fun _ => true) x → x < st.n + 32 * ops.size := fun x hx => by
      rcases hx with hx | ⟨j, h1, _, h3, h4⟩ <;> omega
    exact ⟨⟨N'.at_.hp.more hpq, N'.at_.tm, fun t => (N'.at_.nm t).mono hpq⟩, N'.size, N'.def_, N'.ext, N'.keep, fun l o h => hpq _ (N'.pre l o h)⟩
  · rw [hL0]
    have eT : (ST st.n s v ft on ops.size fun _ => false).t = st.t := funext fun t => by rw [← e1]; exact foldW_none _ _ _ _ t
    have eH : (ST st.n s v ft on ops.size fun _ => false).h = st.h := funext fun x => by rw [← e1]; exact foldW_none _ _ _ _ x
    have hpq : ∀ x, x < st.n → pD st.n ops.size (fun _ => false) x := fun x hx => .inl hx
    refine ⟨⟨?_, fun t => ?_, fun t => ?_⟩, N.size, (by show a.defers = dls X.g0 (s 0).m.df ∧ ∀ d ∈ (s 0).m.df, ∀ l ∈ d.2, lookN X.pre l.1 = some l.1; rw [e1]; exact N.def_), ⟨N.ext.h, N.ext.os, N.ext.tape, N.ext.output, N.ext.size⟩, N.keep, fun l o h => hpq _ (N.pre l o h)⟩
    · rw [eH]; exact (N.at_.hp.more hpq).same rfl
    · rw [eT]; exact N.at_.tm t
    · rw [eT]; exact (N.at_.nm t).mono hpq
end
end Go.AE

/- Code, loops, functions: what the run says is so. -/
namespace Go.AE
open Go.RowKit

/-- What a function hands back. -/
def FinR (X : FX) (out : List D) (v : Value) (w : World) : Prop :=
  ∃ g' tm', SimH X.u (· < X.osk.objs.length) g' (injectE E0 X.osk out).h w ∧
    (∀ t, VV g' ((injectE E0 X.osk out).t t) (tm' t) ∧ ((injectE E0 X.osk out).t t).uses (· < X.osk.objs.length)) ∧ Ext X.g0 X.w0 g' w ∧ Keep X.pre X.g0 g' ∧ v = resVal X.osk.slots tm'
/-- The function is at its end: its deferred calls are made, then it hands back what is told. -/
def Fin (X : FX) (out : List D) (a : Act) (w : World) : Prop := Leaves X.c.P X.fn a.tmps (fun e w' => ∃ v, e = .returned v ∧ FinR X out v w') a.defers .returning w

def LoopSpec (m : Nat) (c : Cfg) (f : Nat) (osk : Sk) (pre : List (Nat × Nat)) (df : List (Nat × List (Nat × Nat))) (once : Bool) (id : Nat) (body : Code) (sk : Sk) (ds : List D) (b : Bool) (out : List D) : Prop :=
  ∀ (X : FX), X.c = c → c.gok X.g0.h → c.P.funcs[f]? = some X.fn → X.osk = osk → X.pre = pre → (∀ l o, lookN pre l = some o → o = l) → ∀ (a : Act) (w : World) (g : G), Now X (· < sk.objs.length) g ((injectE E0 sk ds).later df) a w →
    ∀ Q : Exit → Act → World → Prop, (b = false → ∀ a' w' g', Now X (· < sk.objs.length) g' ((injectE E0 sk out).later df) a' w' → Q .normal a' w') → (b = true → ∀ a' w', Fin X out a' w' → Q .ret a' w') →
      if once = true then body.wp c.P Q a w else Code.rounds c.P body (Exit.inBlock id Q) m a w
def RecL (m : Nat) (c : Cfg) (rec : Task → Out) : Prop := ∀ f osk pre df once id body sk ds b out, rec (.loop f osk pre df once id body sk ds) = some (b, out) → LoopSpec m c f osk pre df once id body sk ds b out

/-- A deferred function that itself defers. -/
theorem leaves_stepsD {P : Program} {fn : Func} {tmps : Array Value} {R : Ending → World → Prop} : ∀ (ds : List Deferred) (u : FrameMode) (w : World) (fr : Frame)
    (cs : List Frame), fr.mode = u → fr.defers = ds → fr.tmps = tmps → P.funcs[fr.fn]? = some fn → fr.kind = .deferred → Leaves P fn tmps R ds u w →
    ∃ e w' fr', R e w' ∧ Comes P (lone fr cs w) (lone fr' cs w') e ∧ fr'.kind = .deferred ∧ fr'.going P w' e
  | [], u, w, fr, cs, hu, hd, ht, hf, hk, h => by
    cases u with
    | run => exact h.elim
    | returning =>
      obtain ⟨v, hr, hR⟩ := h
      exact ⟨.returned v, w, fr, hR, Steps.refl P _, hk, hu, hd, fn, hf, ht ▸ hr⟩
    | panicking chain => exact ⟨.panicked chain, w, fr, h, Steps.refl P _, hk, hu, hd, fn, hf⟩
  | d :: ds, u, w, fr, cs, hu, hd, ht, hf, hk, h => by
    obtain ⟨hrun, fv, cap, f, args, htar, hinv, hcall⟩ := h
    have h1 := step_defer (cs := cs) (hu ▸ hrun) hd htar hinv
    obtain ⟨e, u', w', frX, hR, hsteps, hkX, hgo⟩ := hcall { fr with defers := ds } cs hu
    cases e with
    | returned v =>
      have h2 := step_going_returned (c := { { fr with defers := ds } with mode := u' }) (cs := cs) hkX hgo
      obtain ⟨e', w'', fr', hR', hs', hk', hl'⟩ := leaves_stepsD ds (settle u') w' { { { fr with defers := ds } with mode := u' } with mode := settle u' } cs rfl rfl ht hf hk hR
      exact ⟨e', w'', fr', hR', Comes.of_steps (.head h1 (Steps.trans hsteps (.one h2))) hs', hk', hl'⟩
    | panicked chain =>
      have h2 := step_going_panicked (c := { { fr with defers := ds } with mode := u' }) (cs := cs) hgo
      obtain ⟨e', w'', fr', hR', hs', hk', hl'⟩ := leaves_stepsD ds (raised u' chain) w' { { { fr with defers := ds } with mode := u' } with mode := raised u' chain } cs rfl rfl ht hf hk hR
      exact ⟨e', w'', fr', hR', Comes.of_steps (.head h1 (Steps.trans hsteps (.one h2))) hs', hk', hl'⟩
    | outgrown => exact ⟨.outgrown, w', fr, hR, Outgrown.of_steps (.one h1) hsteps, hk, trivial⟩
theorem callsD_of_wp_defers {P : Program} {f : FuncId} {fn : Func} {c : Code} {args : Array Value} {u : FrameMode} {w : World} {R : Ending → World → Prop}
    (hu : u = .returning) (hf : P.funcs[f]? = some fn) (hb : fn.body = some c)
    (h : c.wp P (bodyPostD P fn R) { tmps := args ++ Array.replicate (fn.ntmps - args.size) undef, defers := [] } w) :
    CallsD P f args u w fun e u' w' => u' = u ∧ R e w' := by
  intro c₀ cs hu
  let b : Frame := { (default : Frame) with fn := f, kind := .deferred }
  have henter : Frame.enter P f args .deferred =
      b.at { tmps := args ++ Array.replicate (fn.ntmps - args.size) undef, defers := [] } [.code c] := by
    simp [Frame.enter, Frame.at, hf, hb, b]
  have hc : ({ c₀ with mode := u } : Frame) = c₀ := by subst hu; rfl
  obtain ⟨e, a', w', hq, harr⟩ := h b [] (c₀ :: cs)
  rw [← henter] at harr
  cases e with
  | normal =>
    obtain ⟨e', w'', fr', hR, hs, hk, hl⟩ := leaves_stepsD a'.defers .returning w' { b.at a' [] with mode := .returning } (c₀ :: cs) rfl rfl rfl hf rfl hq
    exact ⟨e', u, w'', fr', ⟨rfl, hR⟩, (by rw [hc]; exact Comes.of_steps (Steps.trans harr (.one step_end)) hs), hk, hl⟩
  | ret =>
    obtain ⟨todo, hs₀⟩ := harr
    obtain ⟨e', w'', fr', hR, hs, hk, hl⟩ := leaves_stepsD a'.defers .returning w' { b.at a' todo with mode := .returning } (c₀ :: cs) rfl rfl rfl hf rfl hq
    exact ⟨e', u, w'', fr', ⟨rfl, hR⟩, (by rw [hc]; exact Comes.of_steps hs₀ hs), hk, hl⟩
  | panic chain =>
    obtain ⟨todo, hs₀⟩ := harr
    obtain ⟨e', w'', fr', hR, hs, hk, hl⟩ := leaves_stepsD a'.defers (.panicking chain) w' { b.at a' todo with mode := .panicking chain } (c₀ :: cs) rfl rfl rfl hf rfl hq
    exact ⟨e', u, w'', fr', ⟨rfl, hR⟩, (by rw [hc]; exact Comes.of_steps hs₀ hs), hk, hl⟩
  | exit id => exact hq.elim
  | goto l => exact hq.elim
  | outgrown => exact ⟨.outgrown, u, w', b, ⟨rfl, hq⟩, harr.resolve_left (by simp [b]), rfl, trivial⟩

theorem sameLs_eq : ∀ {a b : List (Nat × Nat)}, sameLs a b = true → a = b
  | [], [], _ => rfl
  | [], _ :: _, h => by cases h
  | _ :: _, [], h => by cases h
  | (x, y) :: r, (x', y') :: q, h => by
    simp only [sameLs, Bool.and_eq_true] at h
    rw [Nat.eq_of_beq_eq_true h.1.1, Nat.eq_of_beq_eq_true h.1.2, sameLs_eq h.2]
theorem sameDf_eq : ∀ {a b : List (Nat × List (Nat × Nat))}, sameDf a b = true → a = b
  | [], [], _ => rfl
  | [], _ :: _, h => by cases h
  | _ :: _, [], h => by cases h
  | (x, y) :: r, (x', y') :: q, h => by
    simp only [sameDf, Bool.and_eq_true] at h
    rw [Nat.eq_of_beq_eq_true h.1.1, sameLs_eq h.1.2, sameDf_eq h.2]

def toEx : Ex → Exit
  | .normal => .normal
  | .ret => .ret
  | .exit id => .exit id

section
variable {X : FX} {rec : Task → Out} {r : Bool × List D} {f : Nat}

theorem bindL_some {x : Out} {k : List D → Out} (h : bindL x k = some r) : (∃ ds, x = some (true, ds) ∧ r = (true, ds)) ∨ ∃ ds, x = some (false, ds) ∧ k ds = some r := by
  unfold bindL at h
  split at h
  · rename_i ds; cases h; exact .inl ⟨ds, rfl, rfl⟩
  · rename_i ds; exact .inr ⟨ds, rfl, h⟩
  · cases h

theorem refine_now {p : Nat → Prop} {g : G} {st : St} {a : Act} {w : World} (N : Now X p g st a w) {x : Operand} {b : Bool} (h : evalV st x = .d (.bool b)) : refine st x b = st := by
  cases x with
  | tmp t => exact set_self h
  | const _ => rfl
  | global _ => rfl
  | func _ => rfl

theorem exec_sound (hn : NamesOk X.c) (hg0 : X.c.gok X.g0.h) (hrec : RecOk X.c rec) {m : Nat} (hrecL : RecL m X.c rec) (hid : ∀ l o, lookN X.pre l = some o → o = l) (hf : X.c.P.funcs[f]? = some X.fn) :
    ∀ (code : Code) {st : St} {a : Act} {w : World} {g : G} {K : Ex → St → Out} {Q : Exit → Act → World → Prop}, exec X.c rec f X.fn.ntmps X.osk X.pre code st K = some r → Now X (· < st.n) g st a w →
      (∀ e st' a' w' g', K e st' = some r → Now X (· < st'.n) g' st' a' w' → Q (toEx e) a' w') → (∀ out, r = (true, out) → ∀ a' w', Fin X out a' w' → Q .ret a' w') → code.wp X.c.P Q a w
  | .skip, st, a, w, g, K, Q, h, N, hK, hR => wp_skip (hK .normal st a w g h N)
  | .exit id, st, a, w, g, K, Q, h, N, hK, hR => wp_exit (hK (.exit id) st a w g h N)
  | .ret, st, a, w, g, K, Q, h, N, hK, hR => wp_ret (hK .ret st a w g h N)
  | .region id ops draw, st, a, w, g, K, Q, h, N, hK, hR => by
    simp only [exec] at h
    cases draw with
    | true =>
      simp only [cond_true] at h
      obtain ⟨hm, h⟩ := bif_some h
      refine drawK_sound hn hg0 hrec hm N h fun st' a' w' g' h1 h2 h3 => hK .normal _ a' w' g' h1 ?_
      exact ⟨⟨h2.at_.hp, h2.at_.tm, h2.at_.nm⟩, h2.size, h2.def_, h2.ext, h2.keep, h2.pre⟩
    | false =>
      simp only [cond_false] at h
      refine wp_region_list (opsK_sound hn hg0 hrec ops.toList 0 h (by simpa using N) rfl fun st' a' w' g' h1 h2 h3 => hK .normal _ a' w' g' h1 ?_)
      have e : st.n + 32 * (0 + ops.toList.length) = st.n + 32 * ops.size := by simp
      rw [e] at h2
      exact ⟨⟨h2.at_.hp, h2.at_.tm, h2.at_.nm⟩, h2.size, h2.def_, h2.ext, h2.keep, h2.pre⟩
  | .seq x y, st, a, w, g, K, Q, h, N, hK, hR => by
    simp only [exec] at h
    refine wp_seq (exec_sound hn hg0 hrec hrecL hid hf x h N (fun e st' a' w' g' h1 h2 => ?_) (fun out ho a' w' hfin => hR out ho a' w' hfin))
    cases e with
    | normal => exact exec_sound hn hg0 hrec hrecL hid hf y h1 h2 hK hR
    | ret => exact hK .ret st' a' w' g' h1 h2
    | exit id => exact hK (.exit id) st' a' w' g' h1 h2
  | .cond x y z, st, a, w, g, K, Q, h, N, hK, hR => by
    simp only [exec] at h
    split at h
    · rename_i t ts hcut
      obtain ⟨g1, N1⟩ := widen_ok N (X.pre.map (·.1)) (t :: ts)
      split at h
      · rename_i cf hcf
        obtain ⟨g2, N2⟩ := conf_now N1 hid hcf
        rcases bindL_some h with ⟨ds, h1, h2⟩ | ⟨ds, h1, h2⟩
        · have := hrecL _ _ _ _ _ _ _ _ _ _ _ h1 X rfl hg0 hf rfl rfl hid a w g2 N2 Q (fun hb => by cases hb) (fun _ a' w' hfin => hR ds h2 a' w' hfin)
          simpa using this
        · obtain ⟨hchk, h2⟩ := bif_some h2
          have := hrecL _ _ _ _ _ _ _ _ _ _ _ h1 X rfl hg0 hf rfl rfl hid a w g2 N2 Q (fun _ a' w' g' N3 => hK .normal _ a' w' g' h2 (exp_now N3 hchk)) (fun hb => by cases hb)
          simpa using this
      · cases h
    · split at h
      · rename_i b hb
        have hv := N.at_.ev x
        rw [hb] at hv
        have hv := VV_bool hv
        cases b with
        | true =>
          simp only [cond_true] at h
          rw [refine_now N hb] at h
          exact wp_cond_true hv (exec_sound hn hg0 hrec hrecL hid hf y h N hK hR)
        | false =>
          simp only [cond_false] at h
          rw [refine_now N hb] at h
          exact wp_cond_false hv (exec_sound hn hg0 hrec hrecL hid hf z h N hK hR)
      · rename_i hb
        have hv := N.at_.ev x
        rw [hb] at hv
        obtain ⟨b, hv⟩ := hv
        obtain ⟨h1, h2⟩ := agree_some h
        cases b with
        | true => exact wp_cond_true hv (exec_sound hn hg0 hrec hrecL hid hf y h1 N hK hR)
        | false => exact wp_cond_false hv (exec_sound hn hg0 hrec hrecL hid hf z h2 N hK hR)
      · cases h
  | .block id b, st, a, w, g, K, Q, h, N, hK, hR => by
    by_cases hb : ∃ body, b = .loop body
    · obtain ⟨body, rfl⟩ := hb
      simp only [exec] at h
      obtain ⟨g1, N1⟩ := widen_ok N (X.pre.map (·.1)) (bif X.c.nowid f then [] else X.c.keep f id)
      split at h
      · rename_i cf hcf
        obtain ⟨g2, N2⟩ := conf_now N1 hid hcf
        have fin : Code.rounds X.c.P body (Exit.inBlock id Q) m a w → (Code.block id (.loop body)).wp X.c.P Q a w := fun hn => wp_block (wp_loop_rounds m hn)
        rcases bindL_some h with ⟨ds, h1, h2⟩ | ⟨ds, h1, h2⟩
        · have := hrecL _ _ _ _ _ _ _ _ _ _ _ h1 X rfl hg0 hf rfl rfl hid a w g2 N2 Q (fun hb => by cases hb) (fun _ a' w' hfin => hR ds h2 a' w' hfin)
          exact fin (by simpa using this)
        · obtain ⟨hchk, h2⟩ := bif_some h2
          have := hrecL _ _ _ _ _ _ _ _ _ _ _ h1 X rfl hg0 hf rfl rfl hid a w g2 N2 Q (fun _ a' w' g' N3 => hK .normal _ a' w' g' h2 (exp_now N3 hchk)) (fun hb => by cases hb)
          exact fin (by simpa using this)
      · cases h
    · have h' : exec X.c rec f X.fn.ntmps X.osk X.pre b st (fun e st' => match e with | .exit j => bif Nat.beq j id then K .normal st' else K (.exit j) st' | e => K e st') = some r := by
        cases b <;> first | exact h | exact absurd ⟨_, rfl⟩ hb
      refine wp_block (exec_sound hn hg0 hrec hrecL hid hf b h' N (fun e st' a' w' g' h1 h2 => ?_) (fun out ho a' w' hfin => hR out ho a' w' hfin))
      cases e with
      | normal => exact hK .normal st' a' w' g' h1 h2
      | ret => exact hK .ret st' a' w' g' h1 h2
      | exit j =>
        simp only [] at h1
        show Exit.inBlock id Q (.exit j) a' w'
        by_cases hj : j = id
        · subst hj
          rw [beq_iff.2 rfl] at h1
          simp only [Exit.inBlock, if_true]
          exact hK .normal st' a' w' g' h1 h2
        · rw [beq_false hj] at h1
          simp only [Exit.inBlock, hj, if_false]
          exact hK (.exit j) st' a' w' g' h1 h2
  | .loop _, st, a, w, g, K, Q, h, N, hK, hR => by simp [exec] at h
  | .scope _, st, a, w, g, K, Q, h, N, hK, hR => by simp [exec] at h
  | .label _, st, a, w, g, K, Q, h, N, hK, hR => by simp [exec] at h
  | .goto _, st, a, w, g, K, Q, h, N, hK, hR => by simp [exec] at h
  | .refuse _, st, a, w, g, K, Q, h, N, hK, hR => by simp [exec] at h
  | .rangeFunc .., st, a, w, g, K, Q, h, N, hK, hR => by simp [exec] at h

theorem results_run {p : Nat → Prop} {g : G} {st : St} {a : Act} {w : World} {P : Program} {u : Nat → Option Obj} (S : At u p g st a w) : ∀ {rs : List ResultVar}, resultsOk P st rs = true →
    ∃ vals, (rs.mapM fun rv => (match rv with | .tmp t => pure (a.tmps.getD t undef) | .cell b t => do loadVar t (← asAddr (a.tmps.getD b undef)) : Sem Value)).run P w = .ok vals w ∧ F2 (VV g) (resultsV P st rs) vals ∧ ∀ x ∈ resultsV P st rs, x.uses p
  | [], _ => ⟨[], by simp, .nil, fun x hx => nomatch hx⟩
  | .tmp t :: rs, h => by
    obtain ⟨vals, h1, h2, h3⟩ := results_run S (rs := rs) h
    refine ⟨a.tmps.getD t undef :: vals, ?_, .cons (S.tm t) h2, fun x hx => ?_⟩
    · rw [List.mapM_cons]
      simp only [Sem.run_bind, Sem.run_pure, Result.andThen_ok, h1]
    · simp only [resultsV] at hx
      rcases List.mem_cons.1 hx with rfl | hx
      · exact S.nm t
      · exact h3 x hx
  | .cell b t :: rs, h => by
    simp only [resultsOk, Bool.and_eq_true] at h
    obtain ⟨vals, h1, h2, h3⟩ := results_run S (rs := rs) h.2
    have h0 := h.1
    split at h0
    · rename_i o off he
      split at h0
      · rename_i cs ho
        have hv := S.tm b
        rw [he] at hv
        have hv := VV_ptr hv
        obtain ⟨c, e, hb, hF, hone⟩ := S.hp.ob _ _ ho
        simp only [Bool.and_eq_true] at h0
        obtain ⟨htok, h0⟩ := h0
        obtain ⟨d, info, hd, hinfo, hg, hs⟩ := tOk_spec htok
        have hcell : CellsAt w ⟨g.blk o, 0, none⟩ c.toList := fun j v hj => by
          rw [addr_add_plain, Nat.zero_add, cell_of_row w _ j c e (0, 0) hb]
          simpa using hj
        have fin : ∀ v vv, resultsV P st (.cell b t :: rs) = vv :: resultsV P st rs → (loadVar t ⟨g.blk o, off, none⟩).run P w = .ok v w → VV g vv v → vv.uses p →
            ∃ vals, ((ResultVar.cell b t :: rs).mapM fun rv => (match rv with | .tmp t => pure (a.tmps.getD t undef) | .cell b t => do loadVar t (← asAddr (a.tmps.getD b undef)) : Sem Value)).run P w = .ok vals w ∧ F2 (VV g) (resultsV P st (.cell b t :: rs)) vals ∧
              ∀ x ∈ resultsV P st (.cell b t :: rs), x.uses p := by
          intro v vv e1 e2 e3 e4
          rw [e1]
          refine ⟨v :: vals, ?_, .cons e3 h2, fun x hx => ?_⟩
          · have hA : (asAddr (a.tmps.getD b undef)).run P w = .ok ⟨g.blk o, off, none⟩ w := by rw [hv]; simp [asAddr]
            rw [List.mapM_cons]
            simp only [Sem.run_bind, hA, Sem.run_pure, Result.andThen_ok, e2, h1]
          · rcases List.mem_cons.1 hx with rfl | hx
            · exact e4
            · exact h3 x hx
        cases hag : isAggT P t with
        | true =>
          rw [hag] at h0 hg
          have hle : off + szT P t ≤ cs.length := Nat.le_of_ble_eq_true h0
          have hlen := hF.length
          refine fin _ (mkAgg ((cs.drop off).take (szT P t))) (by simp only [resultsV, he, ho, hag, cond_true]) (run_loadVar_agg hd hinfo hg.symm (us := (c.toList.drop off).take (szT P t)) (by simp at hlen ⊢; omega) ?_) (VV_of_VA (mkAgg_VA ((hF.drop off).take _))) (uses_of_A (mkAgg_uses fun y hy => ?_))
          · have := (hcell.sub (w := w) off).take (szT P t)
            rwa [addr_add_plain, Nat.zero_add] at this
          · exact (S.hp.use _ _ ho).2 y (List.mem_of_mem_drop (List.mem_of_mem_take hy))
        | false =>
          rw [hag] at h0 hg
          have hlt : Nat.ble (off + 1) cs.length = true := h0
          have hlt := Nat.le_of_ble_eq_true hlt
          obtain ⟨v, hv2, hvv⟩ := hF.get off _ (List.getElem?_eq_getElem hlt)
          have := hcell off v hv2
          rw [addr_add_plain, Nat.zero_add] at this
          refine fin v cs[off] ?_ (run_loadVar_one hd hg.symm this) (VV_of_VA hvv) (uses_of_A ((S.hp.use _ _ ho).2 _ (List.getElem_mem hlt)))
          simp only [resultsV, he, ho, hag, cond_false]
          rw [List.getElem?_eq_getElem hlt]; rfl
      · cases h0
    · cases h0

theorem consec_map : ∀ {sl : List (Nat × SV)} {i : Nat} {pre vals : List Value}, consec i sl = true → pre.length = i → sl.length = vals.length → (sl.map fun x => (pre ++ vals).getD x.1 undef) = vals
  | [], i, pre, vals, _, _, hl => by
    have : vals = [] := List.eq_nil_of_length_eq_zero hl.symm
    subst this; rfl
  | (j, s) :: sl, i, pre, [], _, _, hl => by simp at hl
  | (j, s) :: sl, i, pre, v :: vals, hc, hp, hl => by
    simp only [consec, Bool.and_eq_true] at hc
    have hj : i = j := beq_iff.1 hc.1
    subst hj
    have ih := consec_map (sl := sl) (i := i + 1) (pre := pre ++ [v]) (vals := vals) hc.2 (by simp [hp]) (by simpa using hl)
    simp only [List.append_assoc, List.singleton_append] at ih
    simp only [List.map_cons, ih]
    congr 1
    subst hp
    simp

theorem finish_sound {p : Nat → Prop} {st : St} {a : Act} {w : World} {g : G} {b : Bool} {out : List D} (hid : ∀ l o, lookN X.pre l = some o → o = l) (hat : At X.u p g st a w) (hext : Ext X.g0 X.w0 g w) (hkeep : Keep X.pre X.g0 g) (h : finish X.c.P X.fn.results.toList X.osk X.pre st = some (b, out)) :
    ∃ v, (results X.fn a.tmps).run X.c.P w = .ok v w ∧ FinR X out v w := by
  unfold finish at h
  obtain ⟨hc, h⟩ := bif_some h
  simp only [Bool.and_eq_true] at hc
  obtain ⟨⟨hok, hcon⟩, hlen⟩ := hc
  have hlen : X.osk.slots.length = X.fn.results.toList.length := beq_iff.1 hlen
  obtain ⟨vals, h1, h2, h3⟩ := results_run hat hok
  split at h
  · rename_i cf hcf
    cases h
    have hone : OneR X.pre := fun l l' o h h' => by rw [← hid l o h, ← hid l' o h']
    obtain ⟨gF, M⟩ := conf_sound (tm := fun t => vals.getD t undef) hcf hat.hp (nthV_F2 h2) (nthV_uses h3) hone
    have hrl : (resultsV X.c.P st X.fn.results.toList).length = X.fn.results.toList.length := by
      generalize X.fn.results.toList = rs
      induction rs with
      | nil => rfl
      | cons x rs ih => cases x <;> simp [resultsV, ih]
    have hvl : X.osk.slots.length = vals.length := by rw [hlen, ← hrl, h2.length]
    refine ⟨resVal X.osk.slots fun t => vals.getD t undef, ?_, gOf g gF cf.ren, fun t => vals.getD t undef, M.sim hat.hp, fun t => ⟨M.tm t, M.nm t⟩, hext.trans ⟨M.a.h, rfl, rfl, rfl, Nat.le_refl _⟩, fun l o hl => ?_, rfl⟩
    · have hm := consec_map (pre := []) hcon rfl hvl
      simp only [List.nil_append] at hm
      unfold resVal
      rw [hm]
      unfold results
      have e : (X.fn.results.mapM fun rv => (match rv with | .tmp t => pure (a.tmps.getD t undef) | .cell b t => do loadVar t (← asAddr (a.tmps.getD b undef)) : Sem Value)).run X.c.P w = .ok vals.toArray w := by
        rw [Array.mapM_eq_mapM_toList, map_eq_pure_bind]
        simp only [Sem.run_bind, h1, Result.andThen_ok, Sem.run_pure]
      simp only [Sem.run_bind]
      refine (congrArg (fun z : Result (Array Value) => z.andThen fun (a : Array Value) w' => Sem.run X.c.P (pure (if h : a.size = 1 then a[0] else .tuple a)) w') e).trans ?_
      simp only [Result.andThen_ok, Sem.run_pure]
      congr 1
      match vals with
      | [] => rfl
      | [v] => rfl
      | v :: v' :: vs => simp
    · have k1 := M.pre l o hl
      have k2 := hid l o hl
      subst k2
      obtain ⟨k3, k4⟩ := hkeep o o hl
      exact ⟨by simp only [gOf, k1, Option.getD_some]; exact k3, by simp only [gOf, k1, Option.getD_some]; exact k4⟩
  · cases h
theorem finish_true {st : St} {b : Bool} {out : List D} (h : finish X.c.P X.fn.results.toList X.osk X.pre st = some (b, out)) : b = true := by
  unfold finish at h
  obtain ⟨_, h⟩ := bif_some h
  split at h
  · cases h; rfl
  · cases h
theorem finishL_true : ∀ {df : List (Nat × List (Nat × Nat))} {st : St} {b : Bool} {out : List D}, finishL X.c rec X.fn.results.toList X.osk X.pre df st = some (b, out) → b = true
  | [], st, b, out, h => finish_true h
  | (f, zs) :: r, st, b, out, h => by
    simp only [finishL] at h
    rw [doCall_par] at h
    obtain ⟨⟨v, st'⟩, _, h⟩ := bindSome h
    exact finishL_true h
theorem ptrs_F2 {g : G} (hkeep : Keep X.pre X.g0 g) : ∀ {zs : List (Nat × Nat)}, (∀ l ∈ zs, lookN X.pre l.1 = some l.1) → F2 (VV g) (zs.map fun x => V.ptr x.1 x.2) (zs.map fun l => Value.pointer (some ⟨X.g0.blk l.1, l.2, none⟩))
  | [], _ => .nil
  | x :: zs, h => by
    refine .cons ?_ (ptrs_F2 hkeep fun l hl => h l (by simp [hl]))
    show Value.pointer _ = .pointer (some ⟨g.blk x.1, x.2, none⟩)
    rw [(hkeep _ _ (h x (by simp))).1]
/-- The deferred calls are made, and the function hands back what is told. -/
theorem finishL_sound (hn : NamesOk X.c) (hg0 : X.c.gok X.g0.h) (hrec : RecOk X.c rec) (hid : ∀ l o, lookN X.pre l = some o → o = l) {b : Bool} {out : List D} : ∀ (df : List (Nat × List (Nat × Nat))) (st : St) (a : Act) (w : World) (g : G), finishL X.c rec X.fn.results.toList X.osk X.pre df st = some (b, out) →
    At X.u (· < st.n) g st a w → Ext X.g0 X.w0 g w → Keep X.pre X.g0 g → (∀ l o, lookN X.pre l = some o → l < st.n) → (∀ d ∈ df, ∀ l ∈ d.2, lookN X.pre l.1 = some l.1) →
    Leaves X.c.P X.fn a.tmps (fun e w' => ∃ v, e = .returned v ∧ FinR X out v w') (dls X.g0 df) .returning w := by
  intro df
  induction df with
  | nil =>
    intro st a w g h hat hext hkeep hpre hlab
    obtain ⟨v, h1, h2⟩ := finish_sound hid hat hext hkeep h
    exact ⟨v, h1, v, rfl, h2⟩
  | cons d r ih =>
    obtain ⟨fid, zs⟩ := d
    intro st a w g h hat hext hkeep hpre hlab
    simp only [finishL] at h
    have hl0 := hlab (fid, zs) (by simp)
    have hF := ptrs_F2 (g := g) hkeep hl0
    have hu : ∀ x ∈ (zs.map fun x => V.ptr x.1 x.2), x.uses (· < st.n) := by
      intro x hx
      obtain ⟨y, hy, rfl⟩ := List.mem_map.1 hx
      exact hpre _ _ (hl0 y hy)
    obtain ⟨fn, hfn, hb, vv, st1, hk, hc⟩ := doCall_core (CL := Later X.c.P) (q := (· < st.n + 32)) (fun f a w R R' h hr => CallsD.mono h fun e u' w' k => ⟨k.1, hr _ _ k.2⟩) (no := true) hn.2.2.1 (hn.2.2.1 _ _ hext.h hg0) (fun sk ds out h hno => (hrec _ _ _ _ h).2 (hno rfl)) hat.hp (fun x hx => (Nat.lt_add_right 32 hx : x < st.n + 32)) (fun k hk => ⟨Nat.not_lt.2 (Nat.le_add_right _ _), (Nat.add_lt_add_left hk _ : st.n + k < st.n + 32)⟩) hF hu h
    have e0 : dls X.g0 ((fid, zs) :: r) = { target := .fn (.func fid) #[], args := (zs.map fun l => Value.pointer (some ⟨X.g0.blk l.1, l.2, none⟩)).toArray } :: dls X.g0 r := rfl
    rw [e0]
    generalize (zs.map fun l => Value.pointer (some ⟨X.g0.blk l.1, l.2, none⟩)).toArray = vals at hc
    generalize dls X.g0 r = ds0 at ih
    refine leaves_cons (f := fid) (args := vals) (u := .returning) (by simp) ?_ (CallsD.mono hc ?_)
    · have hname := hn.1 fid fn hfn
      have hname : fn.name ≠ "runtime.NumGoroutine" := by simpa using hname
      have hbn : fn.body ≠ none := by intro h; rw [h] at hb; cases hb
      simp [invoke, callFunc, hfn, hname, hbn]
    · rintro e u' w' ⟨rfl, v, rfl, g', s1, s2, s3, s4, s5, s6, s7⟩
      show Leaves _ _ _ _ _ .returning w'
      refine ih { st1 with m := ⟨st.n + 32, st1.m.df⟩ } a w' g' hk ⟨s1, fun t => ?_, fun t => ?_⟩ (hext.trans s3) (hkeep.agree s2 hpre) (fun l o hl => Nat.lt_of_lt_of_le (hpre l o hl) (by show st.n ≤ st.n + 32; omega)) (fun d hd => hlab d (by simp [hd]))
      · show VV g' (st1.t t) _
        rw [s6]
        exact (hat.tm t).agree s2 (hat.nm t)
      · show (st1.t t).uses _
        rw [s6]
        exact (hat.nm t).mono (fun x hx => by show x < st.n + 32; omega)
/-- .. of a function's state. -/
theorem finishN (hn : NamesOk X.c) (hg0 : X.c.gok X.g0.h) (hrec : RecOk X.c rec) (hid : ∀ l o, lookN X.pre l = some o → o = l) {b : Bool} {out : List D} {st : St} {a : Act} {w : World} {g : G} (h : finishL X.c rec X.fn.results.toList X.osk X.pre st.m.df st = some (b, out)) (N : Now X (· < st.n) g st a w) : b = true ∧ Fin X out a w := by
  refine ⟨finishL_true h, ?_⟩
  unfold Fin
  rw [N.def_.1]
  exact finishL_sound hn hg0 hrec hid _ _ _ _ _ h N.at_ N.ext N.keep N.pre N.def_.2

theorem execIn_sound (hn : NamesOk X.c) (hg0 : X.c.gok X.g0.h) (hrec : RecOk X.c rec) {m : Nat} (hrecL : RecL m X.c rec) (hid : ∀ l o, lookN X.pre l = some o → o = l) (hf : X.c.P.funcs[f]? = some X.fn) {code : Code} {st : St} {a : Act} {w : World} {g : G} {K : Ex → St → Out} {Q : Exit → Act → World → Prop}
    (h : execIn X.c rec f X.fn.ntmps X.osk X.pre code st K = some r) (N : Now X (· < st.n) g st a w)
    (hK : ∀ e st' a' w' g', K e st' = some r → Now X (· < st'.n) g' st' a' w' → Q (toEx e) a' w') (hR : ∀ out, r = (true, out) → ∀ a' w', Fin X out a' w' → Q .ret a' w') : code.wp X.c.P Q a w := by
  unfold execIn at h
  split at h
  · rename_i x y z
    split at h
    · rename_i b hb
      have hv := N.at_.ev x
      rw [hb] at hv
      have hv := VV_bool hv
      cases b with
      | true =>
        simp only [cond_true] at h
        rw [refine_now N hb] at h
        exact wp_cond_true hv (exec_sound hn hg0 hrec hrecL hid hf y h N hK hR)
      | false =>
        simp only [cond_false] at h
        rw [refine_now N hb] at h
        exact wp_cond_false hv (exec_sound hn hg0 hrec hrecL hid hf z h N hK hR)
    · cases h
  · cases h

theorem getD_start (args : Array Value) (n t : Nat) : (args ++ Array.replicate n undef).getD t undef = args.getD t undef := by
  simp only [Array.getD_eq_getD_getElem?, Array.getElem?_append]
  split
  · rfl
  · rename_i hlt
    rw [Array.getElem?_eq_none (by omega : args.size ≤ t), Array.getElem?_replicate]
    split <;> rfl

theorem run_sound {c : Cfg} (hn : NamesOk c) (horc : ∀ f sk ds r, c.orc f sk ds = some r → CallSpec c f sk ds r) : ∀ n, RecOk c (run c n) ∧ RecL n c (run c n)
  | 0 => ⟨fun f sk ds out h => by simp [run] at h, fun f osk pre df once id body sk ds b out h => by simp [run] at h⟩
  | n + 1 => by
    obtain ⟨ih1, ih2⟩ := run_sound hn horc n
    refine ⟨fun f sk ds out h => ?_, fun f osk pre df once id body sk ds b out h => ?_⟩
    · simp only [run] at h
      split at h
      · rename_i r hr
        cases h
        exact ⟨horc f sk ds _ hr, fun hno => by rw [hno] at hr; cases hr⟩
      · split at h
        · rename_i fn hfn
          split at h
          · rename_i body hbody
            obtain ⟨hchk, h⟩ := bif_some h
            have main : ∀ (u : Nat → Option Obj) (g : G), c.gok g.h → ∀ (args : Array Value) (w : World), args.size = sk.slots.length → SimH u (· < sk.objs.length) g (injectE E0 sk ds).h w →
                (∀ t, VV g ((injectE E0 sk ds).t t) (args.getD t undef) ∧ ((injectE E0 sk ds).t t).uses (· < sk.objs.length)) →
                body.wp c.P (bodyPostD c.P fn fun e w' => ∃ v, e = .returned v ∧ FinR ⟨c, fn, u, outSk c.P (c.dres f) fn.resultTypes.toList sk, preOf 0 sk.objs, g, w⟩ out v w') { tmps := args ++ Array.replicate (fn.ntmps - args.size) undef, defers := [] } w := by
              intro u g hg0 args w hsize S T
              let X : FX := ⟨c, fn, u, outSk c.P (c.dres f) fn.resultTypes.toList sk, preOf 0 sk.objs, g, w⟩
              have hid : ∀ l o, lookN X.pre l = some o → o = l := fun l o hl => (preOf_iff.1 hl).1
              have N0 : Now X (· < sk.objs.length) g ((injectE E0 sk ds).later []) { tmps := args ++ Array.replicate (fn.ntmps - args.size) undef, defers := [] } w := by
                refine ⟨⟨S, fun t => ?_, fun t => (T t).2⟩, ?_, ⟨rfl, fun d hd => by cases hd⟩, Ext.refl g w, fun l o _ => ⟨rfl, rfl⟩, fun l o hl => ?_⟩
                · show VV g _ ((args ++ Array.replicate (fn.ntmps - args.size) undef).getD t undef)
                  rw [getD_start]; exact (T t).1
                · show fn.ntmps ≤ (args ++ Array.replicate (fn.ntmps - args.size) undef).size
                  simp; omega
                · obtain ⟨_, k, s, h1, h2, _⟩ := preOf_iff.1 hl
                  have := (List.getElem?_eq_some_iff.1 h2).1
                  omega
              refine exec_sound (X := X) hn hg0 ih1 ih2 hid hfn body h (exp_now N0 hchk) (fun e st' a' w' g' h1 h2 => ?_) (fun out' ho a' w' hfin => ?_)
              · cases e with
                | ret => exact (finishN hn hg0 ih1 hid h1 h2).2
                | normal => exact (finishN hn hg0 ih1 hid h1 h2).2
                | exit j => cases h1
              · cases ho
                exact hfin
            refine ⟨fun fn' hfn' u g hg0 args w hsize S T => ?_, fun _ fn' hfn' u g hg0 args w hsize S T => ?_⟩
            · rw [hfn] at hfn'
              cases hfn'
              exact calls_of_wp_defers hfn hbody (main u g hg0 args w hsize S T)
            · rw [hfn] at hfn'
              cases hfn'
              exact callsD_of_wp_defers rfl hfn hbody (main u g hg0 args w hsize S T)
          · cases h
        · cases h
    · simp only [run] at h
      split at h
      · rename_i fn hfn
        obtain ⟨hchk, h⟩ := bif_some h
        intro X hX hg0 hXf hXo hXp hid a w g N Q hQ hQr
        subst hX
        rw [hfn] at hXf
        simp only [Option.some.injEq] at hXf
        subst hXf
        subst hXo
        subst hXp
        have N1 := exp_now N hchk
        cases once with
        | true =>
          simp only [cond_true] at h
          simp only [if_true]
          refine execIn_sound hn hg0 ih1 ih2 hid hfn h N1 (fun e st' a' w' g' h1 h2 => ?_) (fun out' ho a' w' hfin => ?_)
          · cases e with
            | ret =>
              obtain ⟨hb, hfin⟩ := finishN hn hg0 ih1 hid h1 h2
              exact hQr hb a' w' hfin
            | normal =>
              simp only [] at h1
              replace h1 := bif_none_some h1
              obtain ⟨hdf, h1⟩ := h1
              rw [Bool.not_eq_false'] at hdf
              have hdf := sameDf_eq hdf
              subst hdf
              split at h1
              · rename_i cf hcf
                simp only [cond_true, Option.some.injEq, Prod.mk.injEq] at h1
                obtain ⟨h1, h3⟩ := h1
                obtain ⟨g2, N2⟩ := conf_now h2 hid hcf
                rw [h3] at N2
                exact hQ h1.symm a' w' g2 N2
              · cases h1
            | exit j => simp at h1
          · cases ho
            exact hQr rfl a' w' hfin
        | false =>
          simp only [cond_false] at h
          simp only [Bool.false_eq_true, if_false, rounds_succ]
          refine exec_sound hn hg0 ih1 ih2 hid hfn body h N1 (fun e st' a' w' g' h1 h2 => ?_) (fun out' ho a' w' hfin => ?_)
          · cases e with
            | ret =>
              obtain ⟨hb, hfin⟩ := finishN hn hg0 ih1 hid h1 h2
              exact hQr hb a' w' hfin
            | normal =>
              simp only [] at h1
              replace h1 := bif_none_some h1
              obtain ⟨hdf, h1⟩ := h1
              rw [Bool.not_eq_false'] at hdf
              have hdf := sameDf_eq hdf
              subst hdf
              split at h1
              · rename_i cf hcf
                obtain ⟨g2, N2⟩ := conf_now h2 hid hcf
                have := ih2 _ _ _ _ _ _ _ _ _ _ _ h1 X rfl hg0 hfn rfl rfl hid a' w' g2 N2 Q hQ hQr
                simp only [Bool.false_eq_true, if_false] at this
                exact this
              · cases h1
            | exit j =>
              replace h1 := bif_some h1
              obtain ⟨hj, h1⟩ := h1
              simp only [Bool.not_false, Bool.and_true, Bool.and_eq_true] at hj
              have hdf := sameDf_eq hj.2
              subst hdf
              have hj : j = id := beq_iff.1 hj.1
              subst hj
              split at h1
              · rename_i cf hcf
                cases h1
                obtain ⟨g2, N2⟩ := conf_now h2 hid hcf
                show Exit.inBlock j Q (.exit j) a' w'
                simp only [Exit.inBlock, if_true]
                exact hQ rfl a' w' g2 N2
              · cases h1
          · cases ho
            exact hQr rfl a' w' hfin
      · cases h
end
end Go.AE

/- Functions without a body, that the model answers itself. -/
namespace Go.AE
open Go.RowKit

def extAdd64 : List D → Option (Bool × List D)
  | [.int .u64 x, .int .u64 y, .int .u64 c] => some (decide (0 ≤ x) && decide (0 ≤ y) && decide (0 ≤ c) && decide (c ≤ 1), [.int .u64 ((x + y + c) % 18446744073709551616), .int .u64 ((x + y + c) / 18446744073709551616)])
  | _ => none
def idxByte (c : UInt8) : List UInt8 → Nat → Int
  | [], _ => -1
  | x :: xs, j => bif x == c then (j : Int) else idxByte c xs (j + 1)
def extIndexByte : List D → Option (Bool × List D)
  | [.str s, .int .u8 c] => some (true, [.int .i64 (idxByte c.toNat.toUInt8 s 0)])
  | _ => none

/-- A variable of the library's holds an integer. -/
def HasInt (gv : Nat) (h : Nat → Option Obj) : Prop := ∃ m : Int, cellIn h ⟨gv, 0, none⟩ = some (.int .i64 m)

def ExtOne (c : Cfg) (f : Nat) (x : List D → Option (Bool × List D)) : Prop := ∀ (ds r : List D), x ds = some (true, r) → ∀ (g : G) (vals : Array Value) (w : World), F2 (VV g) (ds.map V.d) vals.toList →
  ∃ v, (callFunc f vals).run c.P w = .ok (.value v) w ∧ VV g (oneV (r.map V.d)) v

def extTab : List (Nat × (List D → Option (Bool × List D))) → Nat → List D → Option (Bool × List D)
  | [], _, _ => none
  | (a, x) :: r, f, ds => bif Nat.beq f a then x ds else extTab r f ds
theorem extTab_spec {c : Cfg} : ∀ (l : List (Nat × (List D → Option (Bool × List D)))), (∀ p ∈ l, ExtOne c p.1 p.2) → (∀ f ds, c.ext f ds = extTab l f ds) → ExtSpec c := by
  intro l hl he f ds r h
  rw [he] at h
  clear he
  induction l with
  | nil => cases h
  | cons p l ih =>
    obtain ⟨a, x⟩ := p
    simp only [extTab] at h
    by_cases e : f = a
    · subst e
      rw [beq_iff.2 rfl, cond_true] at h
      exact hl (f, x) (by simp) ds r h
    · rw [beq_false e, cond_false] at h
      exact ih (fun p hp => hl p (by simp [hp])) h

theorem ext_add64 {c : Cfg} {f : Nat} {fn : Func} (hf : c.P.funcs[f]? = some fn) (hname : (fn.name == "runtime.NumGoroutine") = false) (hb : fn.body.isNone = true) (hn : Extern.findNext fn = none) (he : Extern.find fn = some add64Entry) : ExtOne c f extAdd64 := by
  intro ds r h g vals w hF
  unfold extAdd64 at h
  split at h
  · rename_i x y z
    cases h1 : (decide (0 ≤ x) && decide (0 ≤ y) && decide (0 ≤ z) && decide (z ≤ 1)) with
    | false => rw [h1] at h; cases h
    | true =>
      rw [h1] at h
      simp only [Bool.and_eq_true, decide_eq_true_eq] at h1
      cases h
      have hv : vals = #[.int .u64 x, .int .u64 y, .int .u64 z] := by
        obtain ⟨l, hv⟩ : ∃ l, vals.toList = l := ⟨_, rfl⟩
        rw [hv] at hF
        cases hF with
        | @cons _ v1 _ _ a1 hF => cases hF with
          | @cons _ v2 _ _ a2 hF => cases hF with
            | @cons _ v3 _ _ a3 hF => cases hF with
              | nil =>
                apply Array.ext'
                rw [hv]
                have b1 : v1 = .int .u64 x := a1
                have b2 : v2 = .int .u64 y := a2
                have b3 : v3 = .int .u64 z := a3
                rw [b1, b2, b3]
      subst hv
      refine ⟨.tuple #[.int .u64 ((x + y + z) % 18446744073709551616), .int .u64 ((x + y + z) / 18446744073709551616)], ?_, ?_⟩
      · rw [run_callFunc_extern hf hname hb hn he, run_add64 x y z h1.1.1.1 h1.1.1.2 h1.1.2 h1.2]
        rfl
      · exact ⟨_, rfl, .cons rfl (.cons rfl .nil)⟩
  · cases h

theorem idxByte_spec (c : UInt8) (s : List UInt8) (b : ByteArray) (hb : b.data.toList = s) : firstIdx b c = idxByte c s 0 := by
  have key : ∀ (l : List UInt8) (j : Nat), (∀ k, k < l.length → b[j + k]! = l[k]!) → idxByte c l j = match (List.range' j l.length).find? (fun i => b[i]! == c) with | some i => (i : Int) | none => -1 := by
    intro l
    induction l with
    | nil => intro j _; rfl
    | cons x xs ih =>
      intro j hk
      simp only [idxByte, List.length_cons, List.range'_succ, List.find?_cons]
      have h0 := hk 0 (by simp)
      simp at h0
      rw [h0]
      cases x == c with
      | true => rfl
      | false =>
        simp only [cond_false]
        rw [ih (j + 1) fun k hkl => by
          have := hk (k + 1) (by simpa using hkl)
          rw [show j + (k + 1) = j + 1 + k by omega] at this
          rw [this]; simp]
  have hsz : b.size = s.length := by rw [← hb]; simp
  unfold firstIdx
  rw [key s 0 fun k hk => by
    rw [Nat.zero_add]
    subst hb
    have hk' : k < b.size := by rw [hsz]; exact hk
    rw [getElem!_pos b k hk', getElem!_pos b.data.toList k hk]
    simp [ByteArray.getElem_eq_getElem_data], hsz, List.range_eq_range']
  cases List.find? (fun i => b[i]! == c) (List.range' 0 s.length) <;> rfl

theorem ext_indexByte {c : Cfg} {f : Nat} {fn : Func} (hf : c.P.funcs[f]? = some fn) (hname : (fn.name == "runtime.NumGoroutine") = false) (hb : fn.body.isNone = true) (hn : Extern.findNext fn = none) (he : Extern.find fn = some Extern.BytealgIndexByte.indexByte) : ExtOne c f extIndexByte := by
  intro ds r h g vals w hF
  unfold extIndexByte at h
  split at h
  · rename_i s n
    cases h
    have hv : ∃ b : ByteArray, b.data.toList = s ∧ vals = #[.string b, .int .u8 n] := by
      obtain ⟨l, hv⟩ : ∃ l, vals.toList = l := ⟨_, rfl⟩
      rw [hv] at hF
      cases hF with
      | @cons _ v1 _ _ a1 hF => cases hF with
        | @cons _ v2 _ _ a2 hF => cases hF with
          | nil =>
            obtain ⟨b, b1, b2⟩ := (show VD g.h (.str s) v1 from a1)
            have b3 : v2 = .int .u8 n := a2
            refine ⟨b, b2, ?_⟩
            apply Array.ext'
            rw [hv, b1, b3]
    obtain ⟨b, hs, rfl⟩ := hv
    refine ⟨.int .i64 (firstIdx b n.toNat.toUInt8), ?_, ?_⟩
    · rw [run_callFunc_extern hf hname hb hn he, run_indexByte_string]
      rfl
    · show Value.int .i64 _ = _
      rw [idxByte_spec _ s b hs]
  · cases h
end Go.AE

/- From a run of the interpreter to a law: arguments that are read as data are data of the interpreter; a law that the run answers true is met. -/
namespace Go.AE
open Go.ChangeShapes Go.WideShapes Go.ChangeAt Go.RowKit

def snap (W : World) : Nat → Option Obj := fun b => W.heap[b]?

mutual
/-- How many values and letters data hold. -/
def bulkD : D → Nat
  | .str s => s.length + 1
  | .lst _ xs => bulkL xs + 1
  | .agg cs => bulkL cs
  | _ => 1
def bulkL : List D → Nat
  | [] => 0
  | x :: xs => bulkD x + bulkL xs
end

/-- A measure of what arguments read as. -/
structure Meas {H : Type} (m : DataW H → Nat) (ma : List (DataW H) → Nat) : Prop where
  one : ∀ d, 1 ≤ m d
  str : ∀ b, b.length + 1 ≤ m (.lit (.string b))
  slice : ∀ e s, ma e + 1 ≤ m (.slice e s)
  agg : ∀ p, ma p ≤ m (.agg p)
  nil : ma [] = 0
  cons : ∀ d r, ma (d :: r) = m d + ma r

def layOk (P : Program) (total : Nat) : Nat → List Field → Bool
  | off, [] => Nat.beq off total
  | off, f :: fs => Nat.beq f.offset off && layOk P total (off + P.cellsOf f.type) fs
/-- A type of bools, integers, texts, slices, structs, arrays. -/
def plainT (P : Program) : Nat → TypeId → Bool
  | 0, _ => false
  | n + 1, t => match P.underlying t with
    | some .bool => true
    | some (.int _) => true
    | some .string => true
    | some (.slice e) => plainT P n e && tOk P e
    | some (.struct fs) => layOk P (P.cellsOf t) 0 fs.toList && fs.toList.all fun f => plainT P n f.type
    | some (.array k e) => Nat.beq (P.cellsOf t) (k * P.cellsOf e) && plainT P n e
    | _ => false

/-- Data of a type: its leaves. -/
def wtL (P : Program) : Nat → TypeId → List D → Prop
  | 0, _, _ => False
  | n + 1, t, xs => match P.underlying t with
    | some .bool => ∃ b, xs = [.bool b]
    | some (.int k) => ∃ i, xs = [.int k i] ∧ (Lit.int k i).wf = true
    | some .string => ∃ s, xs = [.str s]
    | some (.slice e) => ∃ ys, xs = [.lst (szT P e) ys] ∧ ∀ y ∈ ys, if isAggT P e = true then ∃ cs, y = .agg cs ∧ wtL P n e cs else wtL P n e [y]
    | some (.struct fs) => ∃ parts : List (List D), xs = parts.flatten ∧ F2 (fun f p => wtL P n f.type p) fs.toList parts
    | some (.array k e) => ∃ parts : List (List D), xs = parts.flatten ∧ parts.length = k ∧ ∀ p ∈ parts, wtL P n e p
    | _ => False
def wtV (P : Program) (n : Nat) (t : TypeId) (x : D) : Prop := if isAggT P t = true then ∃ cs, x = .agg cs ∧ wtL P n t cs else wtL P n t [x]

theorem szT_cellsOf (P : Program) (t : TypeId) : szT P t = P.cellsOf t := by
  unfold szT Program.cellsOf
  cases P.info? t <;> rfl
theorem bulkL_append (xs ys : List D) : bulkL (xs ++ ys) = bulkL xs + bulkL ys := by
  induction xs with
  | nil => simp [bulkL]
  | cons x xs ih => simp only [List.cons_append, bulkL, ih]; omega
theorem VDs_append {h : Nat → Option Obj} {xs ys : List D} {us vs : List Value} (h1 : VDs h xs us) (h2 : VDs h ys vs) : VDs h (xs ++ ys) (us ++ vs) :=
  (VDs_F2 h _ _).2 (((VDs_F2 h _ _).1 h1).append ((VDs_F2 h _ _).1 h2))

section
variable {H : Type} {enc : TypeId × Value → H} {P : Program} {W : World} {base : Nat} {sp : Nat → Bool} {held : Bool} {m : DataW H → Nat} {ma : List (DataW H) → Nat}

/-- What a cell list reads as. -/
def Leaves (P : Program) (W : World) (n : Nat) (t : TypeId) (cs : List Value) (b : Nat) : Prop :=
  ∃ xs, VDs (snap W) xs cs ∧ wtL P n t xs ∧ bulkL xs ≤ b ∧ ∀ u ∈ cs, u.oneCell' = true

theorem mapM_cons_some {α β : Type} {f : α → Option β} {x : α} {l : List α} {r : List β} (h : (x :: l).mapM f = some r) : ∃ y ys, f x = some y ∧ l.mapM f = some ys ∧ r = y :: ys := by
  rw [List.mapM_cons] at h
  cases hx : f x with
  | none => rw [hx] at h; cases h
  | some y =>
    rw [hx] at h
    cases hl : l.mapM f with
    | none => rw [hl] at h; cases h
    | some ys => rw [hl] at h; cases h; exact ⟨y, ys, rfl, rfl, rfl⟩

theorem fields_leaves (M : Meas m ma) {n fuel : Nat} (ih : ∀ t cs d ps, DataW.trod enc P W base sp held fuel t cs = some (d, ps) → plainT P n t = true → Leaves P W n t cs (m d)) {cs : List Value} {total : Nat} (hlen : cs.length = total) :
    ∀ (fs : List Field) (off : Nat) (ys : List (DataW H × List MemPlace)), layOk P total off fs = true → (fs.all fun f => plainT P n f.type) = true →
      (fs.mapM fun f => DataW.trod enc P W base sp held fuel f.type ((cs.drop f.offset).take (P.cellsOf f.type))) = some ys →
      ∃ parts : List (List D), F2 (fun f p => wtL P n f.type p) fs parts ∧ VDs (snap W) parts.flatten (cs.drop off) ∧ bulkL parts.flatten ≤ ma (ys.map (·.1)) ∧ ∀ u ∈ cs.drop off, u.oneCell' = true
  | [], off, ys, hl, _, h => by
    have : off = total := beq_iff.1 hl
    subst this
    have e : cs.drop off = [] := List.drop_eq_nil_of_le (by omega)
    cases h
    rw [e]
    exact ⟨[], .nil, rfl, by simp [bulkL], fun u hu => by cases hu⟩
  | f :: fs, off, ys, hl, hp, h => by
    simp only [layOk, Bool.and_eq_true] at hl
    simp only [List.all_cons, Bool.and_eq_true] at hp
    have ho : f.offset = off := beq_iff.1 hl.1
    obtain ⟨y, ys', h1, h2, rfl⟩ := mapM_cons_some h
    obtain ⟨d, ps⟩ := y
    obtain ⟨xs, k1, k2, k3, k4⟩ := ih _ _ _ _ h1 hp.1
    obtain ⟨parts, j1, j2, j3, j4⟩ := fields_leaves M ih hlen fs (off + P.cellsOf f.type) ys' hl.2 hp.2 h2
    rw [ho] at k1 k4
    have e : cs.drop off = (cs.drop off).take (P.cellsOf f.type) ++ cs.drop (off + P.cellsOf f.type) := by
      rw [← List.drop_drop, List.take_append_drop]
    refine ⟨xs :: parts, .cons k2 j1, ?_, ?_, fun u hu => ?_⟩
    · rw [e, List.flatten_cons]; exact VDs_append k1 j2
    · rw [List.flatten_cons, bulkL_append, List.map_cons, M.cons]; exact Nat.add_le_add k3 j3
    · rw [e] at hu
      rcases List.mem_append.1 hu with hu | hu
      · exact k4 u hu
      · exact j4 u hu

theorem array_leaves (M : Meas m ma) {n fuel : Nat} (ih : ∀ t cs d ps, DataW.trod enc P W base sp held fuel t cs = some (d, ps) → plainT P n t = true → Leaves P W n t cs (m d)) {cs : List Value} {e : TypeId} (he : plainT P n e = true) :
    ∀ (k s : Nat) (ys : List (DataW H × List MemPlace)), cs.length = (s + k) * P.cellsOf e →
      ((List.range' s k).mapM fun i => DataW.trod enc P W base sp held fuel e ((cs.drop (i * P.cellsOf e)).take (P.cellsOf e))) = some ys →
      ∃ parts : List (List D), parts.length = k ∧ (∀ p ∈ parts, wtL P n e p) ∧ VDs (snap W) parts.flatten (cs.drop (s * P.cellsOf e)) ∧ bulkL parts.flatten ≤ ma (ys.map (·.1)) ∧ ∀ u ∈ cs.drop (s * P.cellsOf e), u.oneCell' = true
  | 0, s, ys, hl, h => by
    have e : cs.drop (s * P.cellsOf e) = [] := List.drop_eq_nil_of_le (by rw [hl]; simp)
    cases h
    rw [e]
    refine ⟨[], rfl, fun p hp => (by cases hp), rfl, by simp [bulkL], fun u hu => (by cases hu)⟩
  | k + 1, s, ys, hl, h => by
    rw [List.range'_succ] at h
    obtain ⟨y, ys', h1, h2, rfl⟩ := mapM_cons_some h
    obtain ⟨d, ps⟩ := y
    obtain ⟨xs, k1, k2, k3, k4⟩ := ih _ _ _ _ h1 he
    obtain ⟨parts, j1, j2, j3, j4, j5⟩ := array_leaves M ih he k (s + 1) ys' (by rw [hl]; congr 1; omega) h2
    have e : cs.drop (s * P.cellsOf e) = (cs.drop (s * P.cellsOf e)).take (P.cellsOf e) ++ cs.drop ((s + 1) * P.cellsOf e) := by
      rw [Nat.succ_mul, ← List.drop_drop, List.take_append_drop]
    refine ⟨xs :: parts, by simp [j1], fun p hp => ?_, ?_, ?_, fun u hu => ?_⟩
    · rcases List.mem_cons.1 hp with rfl | hp
      · exact k2
      · exact j2 p hp
    · rw [e, List.flatten_cons]; exact VDs_append k1 j3
    · rw [List.flatten_cons, bulkL_append, List.map_cons, M.cons]; exact Nat.add_le_add k3 j4
    · rw [e] at hu
      rcases List.mem_append.1 hu with hu | hu
      · exact k4 u hu
      · exact j5 u hu

theorem mapM_get {α β : Type} {f : α → Option β} : ∀ {l : List α} {r : List β}, l.mapM f = some r → ∀ (j : Nat) (y : β), r[j]? = some y → ∃ x, l[j]? = some x ∧ f x = some y
  | [], r, h, j, y, hj => by cases h; simp at hj
  | x :: l, r, h, j, y, hj => by
    obtain ⟨y0, ys, h1, h2, rfl⟩ := mapM_cons_some h
    cases j with
    | zero => simp at hj; subst hj; exact ⟨x, rfl, h1⟩
    | succ j => simpa using mapM_get h2 j y (by simpa using hj)

/-- Leaves as one value. -/
theorem one_value {n : Nat} {t : TypeId} {cs : List Value} {b : Nat} (h : Leaves P W n t cs b) : ∃ (x : D) (v : Value), VD (snap W) x v ∧ wtV P n t x ∧ bulkD x ≤ b ∧ v.cells.toList = cs := by
  obtain ⟨xs, h1, h2, h3, h4⟩ := h
  unfold wtV
  cases n with
  | zero => exact h2.elim
  | succ n =>
    cases hg : isAggT P t with
    | true =>
      refine ⟨.agg xs, .agg cs.toArray, ⟨cs.toArray, rfl, by simpa using h1⟩, by rw [if_pos rfl]; exact ⟨xs, rfl, h2⟩, by simpa [bulkD] using h3, by simp [Value.cells]⟩
    | false =>
      have one : ∀ x, xs = [x] → ∃ (x : D) (v : Value), VD (snap W) x v ∧ (if false = true then ∃ cs, x = .agg cs ∧ wtL P (n + 1) t cs else wtL P (n + 1) t [x]) ∧ bulkD x ≤ b ∧ v.cells.toList = cs := by
        intro x hx
        subst hx
        obtain ⟨u, r, rfl, k1, k2⟩ := h1
        have k2 : r = [] := k2
        subst k2
        refine ⟨x, u, k1, by rw [if_neg (by simp)]; exact h2, ?_, ?_⟩
        · simpa [bulkL] using h3
        · rw [cells_one (h4 u (by simp))]
      have h2' := h2
      simp only [wtL] at h2'
      split at h2'
      · obtain ⟨b, rfl⟩ := h2'; exact one _ rfl
      · obtain ⟨b, rfl, _⟩ := h2'; exact one _ rfl
      · obtain ⟨b, rfl⟩ := h2'; exact one _ rfl
      · obtain ⟨b, rfl, _⟩ := h2'; exact one _ rfl
      · rename_i e; simp [isAggT, e, isAggD] at hg
      · rename_i e; simp [isAggT, e, isAggD] at hg
      · exact h2'.elim

theorem slice_leaves (M : Meas m ma) {n fuel : Nat} (ih : ∀ t cs d ps, DataW.trod enc P W base sp held fuel t cs = some (d, ps) → plainT P n t = true → Leaves P W n t cs (m d)) {a : Addr} {e : TypeId} (he : plainT P n e = true) :
    ∀ (k s : Nat) (ys : List (DataW H × List MemPlace)),
      ((List.range' s k).mapM fun i => (W.cells? base (a.add (i * P.cellsOf e)) (P.cellsOf e)).bind (DataW.trod enc P W base sp held fuel e)) = some ys →
      ∃ xs : List D, xs.length = k ∧ VDr (snap W) (P.cellsOf e) xs (a.add (s * P.cellsOf e)) ∧ (∀ x ∈ xs, wtV P n e x) ∧ bulkL xs ≤ ma (ys.map (·.1))
  | 0, s, ys, h => by cases h; exact ⟨[], rfl, trivial, fun x hx => (by cases hx), by simp [bulkL]⟩
  | k + 1, s, ys, h => by
    rw [List.range'_succ] at h
    obtain ⟨y, ys', h1, h2, rfl⟩ := mapM_cons_some h
    obtain ⟨d, ps⟩ := y
    obtain ⟨xs, j1, j2, j3, j4⟩ := slice_leaves M ih he k (s + 1) ys' h2
    cases hc : W.cells? base (a.add (s * P.cellsOf e)) (P.cellsOf e) with
    | none => rw [hc] at h1; cases h1
    | some cs =>
      rw [hc] at h1
      have hL := ih _ _ _ _ h1 he
      have h4 : ∀ u ∈ cs, u.oneCell' = true := hL.choose_spec.2.2.2
      obtain ⟨x, v, k1, k2, k3, k4⟩ := one_value hL
      unfold World.cells? at hc
      split at hc
      · have hlen : cs.length = P.cellsOf e := by
          have := Go.mapM_some_length hc
          simpa using this
        refine ⟨x :: xs, by simp [j1], ⟨⟨v, ?_, fun j u hj => ?_, ?_, k1⟩, ?_⟩, fun y hy => ?_, ?_⟩
        · rw [← Array.length_toList, k4, hlen]
        · rw [← Array.getElem?_toList, k4] at hj
          obtain ⟨i, hi, hcell⟩ := mapM_get hc j u hj
          have : i = j := by
            have hlt : j < P.cellsOf e := by
              rcases Nat.lt_or_ge j (P.cellsOf e) with h | h
              · exact h
              · rw [List.getElem?_eq_none (by simpa using h)] at hi; cases hi
            rw [List.getElem?_range hlt] at hi
            cases hi; rfl
          subst this
          exact hcell
        · rw [k4]; exact h4
        · rw [addr_add_add]
          rw [show (s + 1) * P.cellsOf e = s * P.cellsOf e + P.cellsOf e from Nat.succ_mul _ _] at j2
          exact j2
        · rcases List.mem_cons.1 hy with rfl | hy
          · exact k2
          · exact j3 y hy
        · simp only [bulkL, List.map_cons, M.cons]; exact Nat.add_le_add k3 j4
      · cases hc

theorem trod_leaves (M : Meas m ma) : ∀ (fuel n : Nat) (t : TypeId) (cs : List Value) (d : DataW H) (ps : List MemPlace), DataW.trod enc P W base sp held fuel t cs = some (d, ps) → plainT P n t = true → Leaves P W n t cs (m d)
  | 0, n, t, cs, d, ps, h, hp => by simp [DataW.trod] at h
  | fuel + 1, 0, t, cs, d, ps, h, hp => by simp [plainT] at hp
  | fuel + 1, n + 1, t, cs, d, ps, h, hp => by
    have ih := fun t cs d ps => trod_leaves M fuel n t cs d ps
    unfold Leaves
    simp only [plainT] at hp
    split at hp
    · rename_i hu
      obtain ⟨b, rfl, hz⟩ := DataW.trod_bool hu h
      refine ⟨[.bool b], ⟨_, _, rfl, rfl, rfl⟩, by simp only [wtL, hu]; exact ⟨b, rfl⟩, by simpa [bulkL, bulkD] using M.one d, fun u hu => by simp at hu; subst hu; rfl⟩
    · rename_i k hu
      obtain ⟨i, rfl, hz, hw⟩ := DataW.trod_int hu h
      exact ⟨[.int _ _], ⟨_, _, rfl, rfl, rfl⟩, by simp only [wtL, hu]; exact ⟨_, rfl, hw⟩, by simpa [bulkL, bulkD] using M.one d, fun u hu => by simp at hu; subst hu; rfl⟩
    · rename_i hu
      obtain ⟨s, rfl, hz, hw⟩ := DataW.trod_string hu h
      cases hz
      exact ⟨[.str _], ⟨_, _, rfl, ⟨_, rfl, rfl⟩, rfl⟩, by simp only [wtL, hu]; exact ⟨_, rfl⟩, by simp only [bulkL, bulkD]; exact M.str _, fun u hu => by simp at hu; subst hu; rfl⟩
    · rename_i e hu
      simp only [Bool.and_eq_true] at hp
      rcases DataW.trod_slice hu h with ⟨rfl, hz⟩ | ⟨a, len, cap, elems, rest, n', hf, rfl, hz, hb, hl, hc, hel, hget, _, _⟩
      · cases hz
        refine ⟨[.lst (szT P e) []], ⟨_, _, rfl, ⟨none, 0, rfl, Nat.le_refl _, by unfold maxLen; omega, .inl rfl⟩, rfl⟩, by simp only [wtL, hu]; exact ⟨[], rfl, fun y hy => (by cases hy)⟩, by simpa [bulkL, bulkD] using M.one _, fun u hu => by simp at hu; subst hu; rfl⟩
      · cases hz
        cases hf
        have hm : (List.range len).mapM (fun i => (W.cells? base (a.add (i * P.cellsOf e)) (P.cellsOf e)).bind (DataW.trod enc P W base sp held fuel e)) = some elems :=
          mapM_some_of_get _ _ (by simp [hel]) fun i x hi => by
            obtain ⟨hlt, hx⟩ := List.getElem?_eq_some_iff.1 hi
            simp at hlt hx
            subst hx
            exact hget i hlt
        rw [List.range_eq_range'] at hm
        obtain ⟨xs, k1, k2, k3, k4⟩ := slice_leaves M ih hp.1 len 0 elems hm
        rw [Nat.zero_mul] at k2
        have ha0 : a.add 0 = a := by simp [Addr.add]
        rw [ha0] at k2
        refine ⟨[.lst (szT P e) xs], ⟨_, _, rfl, ⟨some a, cap, by rw [k1], by omega, hc, .inr ⟨a, rfl, by rw [szT_cellsOf]; exact k2⟩⟩, rfl⟩, ?_, ?_, fun u hu => by simp at hu; subst hu; rfl⟩
        · simp only [wtL, hu]; exact ⟨xs, rfl, k3⟩
        · have := M.slice (elems.map (·.1)) (rest.map (·.1))
          simp only [bulkL, bulkD]
          omega
    · rename_i fs hu
      simp only [Bool.and_eq_true] at hp
      obtain ⟨ys, n', hf, hz, hlen, hsz, hget⟩ := DataW.trod_struct hu h
      cases hf
      cases hz
      have hm : (fs.toList.mapM fun f => DataW.trod enc P W base sp held fuel f.type ((cs.drop f.offset).take (P.cellsOf f.type))) = some ys :=
        mapM_some_of_get _ _ (by simp [hsz]) fun i x hi => hget i x (by simpa using hi)
      obtain ⟨parts, j1, j2, j3, j4⟩ := fields_leaves M ih hlen fs.toList 0 ys hp.1 hp.2 hm
      rw [List.drop_zero] at j2 j4
      exact ⟨parts.flatten, j2, by simp only [wtL, hu]; exact ⟨parts, rfl, j1⟩, Nat.le_trans j3 (M.agg _), j4⟩
    · rename_i k e hu
      simp only [Bool.and_eq_true] at hp
      obtain ⟨ys, n', hf, hz, hlen, hsz, hget⟩ := DataW.trod_array hu h
      cases hf
      cases hz
      have hm : ((List.range k).mapM fun i => DataW.trod enc P W base sp held fuel e ((cs.drop (i * P.cellsOf e)).take (P.cellsOf e))) = some ys :=
        mapM_some_of_get _ _ (by simp [hsz]) fun i x hi => by
          obtain ⟨hlt, hx⟩ := List.getElem?_eq_some_iff.1 hi
          simp at hlt hx
          subst hx
          exact hget i hlt
      rw [List.range_eq_range'] at hm
      have hsz : P.cellsOf t = k * P.cellsOf e := beq_iff.1 hp.1
      obtain ⟨parts, j1, j2, j3, j4, j5⟩ := array_leaves M ih hp.2 k 0 ys (by rw [hlen, hsz]; simp) hm
      rw [Nat.zero_mul, List.drop_zero] at j3 j5
      exact ⟨parts.flatten, j3, by simp only [wtL, hu]; exact ⟨parts, rfl, j1, j2⟩, Nat.le_trans j4 (M.agg _), j5⟩
    · cases hp
end
end Go.AE

/- A law that the run answers true for all data of its parameters' types is met. -/
namespace Go.AE
open Go.ChangeShapes Go.WideShapes Go.ChangeAt Go.RowKit Go.WideElems

def lawSlots (P : Program) : Nat → List TypeId → List (Nat × SV)
  | _, [] => []
  | i, t :: ts => (i, .d (tyT P t)) :: lawSlots P (i + 1) ts
/-- A law's arguments: all data. -/
def lawSk (P : Program) (ts : List TypeId) : Sk := ⟨lawSlots P 0 ts, []⟩
def lawArg (P : Program) (t : TypeId) : Bool := plainT P 8 t && P.readableRec t && decide (t < P.types.size)

section
variable {H : Type} {enc : TypeId × Value → H} {P : Program} {W W' : World} {base : Nat} {m : DataW H → Nat} {ma : List (DataW H) → Nat}

theorem cells_leaf {r : Reach} {t : TypeId} {v : Value} (hg : isAggT P t = false) (hp : plainT P 8 t = true) (hv : Value.okWide P W r base t v) : v.cells = #[v] := by
  unfold Value.okWide at hv
  unfold isAggT at hg
  simp only [plainT] at hp
  cases v with
  | agg cs =>
    split at hp <;> rename_i hu <;> first | (rw [hu] at hg; simp [isAggD] at hg; done) | (simp [hu, Cell.okWide, Cell.ok] at hv; done) | (cases hp; done)
  | _ => rfl

theorem leaf_not_agg {h : Nat → Option Obj} {n : Nat} {t : TypeId} {x : D} {v : Value} (hg : isAggT P t = false) (j2 : wtV P n t x) (j1 : VD h x v) (cs : Array Value) : v ≠ .agg cs := by
  rintro rfl
  unfold wtV at j2
  rw [hg, if_neg (by simp)] at j2
  cases n with
  | zero => exact j2
  | succ n =>
    simp only [wtL] at j2
    split at j2
    · obtain ⟨b, e⟩ := j2; cases e; cases j1
    · obtain ⟨b, e, _⟩ := j2; cases e; cases j1
    · obtain ⟨b, e⟩ := j2; cases e; obtain ⟨_, e, _⟩ := j1; cases e
    · obtain ⟨b, e, _⟩ := j2; cases e; obtain ⟨_, _, e, _⟩ := j1; cases e
    · rename_i e; simp [isAggT, e, isAggD] at hg
    · rename_i e; simp [isAggT, e, isAggD] at hg
    · exact j2

theorem args_leaves (M : Meas m ma) {r : Reach} {sp : Nat → Bool} {held : Bool} : ∀ {ts : List TypeId} {vs : List Value} {ds : List (DataW H)} {ps : List MemPlace}, DataW.TrodAll enc P W base sp held ts vs ds ps → (ts.all (lawArg P)) = true →
    (∀ (j : Nat) (t : TypeId) (v : Value), ts[j]? = some t → vs[j]? = some v → ∃ r b, Value.okWide P W r b t v) → ∃ xs, F2 (VD (snap W)) xs vs ∧ F2 (wtV P 8) ts xs ∧ bulkL xs ≤ ma ds
  | [], [], [], _, _, _, _ => ⟨[], .nil, .nil, by simp [bulkL]⟩
  | t :: ts, v :: vs, d :: ds, ps, ⟨p, q, h1, h2, _⟩, hp, hv => by
    simp only [List.all_cons, Bool.and_eq_true] at hp
    obtain ⟨xs, k1, k2, k3⟩ := args_leaves M (r := r) h2 hp.2 fun j t v ht hv' => hv (j + 1) t v (by simpa using ht) (by simpa using hv')
    obtain ⟨fuel, h1⟩ := h1
    have hpl : plainT P 8 t = true := by
      have := hp.1
      simp only [lawArg, Bool.and_eq_true] at this
      exact this.1.1
    have hL := trod_leaves M _ 8 _ _ _ _ h1 hpl
    obtain ⟨x, v', j1, j2, j3, j4⟩ := one_value hL
    obtain ⟨r', b', hok⟩ := hv 0 t v rfl rfl
    have hvv : v' = v := by
      cases hg : isAggT P t with
      | true =>
        have : ∃ cs, v = .agg cs := by
          unfold Value.okWide at hok
          unfold isAggT at hg
          split at hg
          · rename_i d hu
            rw [hu] at hok
            cases d <;> simp [isAggD] at hg <;> (obtain ⟨cs, h, _⟩ := hok; exact ⟨cs, h⟩)
          · cases hg
        obtain ⟨cs, rfl⟩ := this
        unfold wtV at j2
        rw [hg, if_pos rfl] at j2
        obtain ⟨ys, rfl, _⟩ := j2
        obtain ⟨us, rfl, _⟩ := j1
        congr 1
        apply Array.ext'
        exact j4
      | false =>
        have h5 := cells_leaf hg hpl hok
        rw [h5] at j4
        have h6 : ∀ u ∈ v.cells.toList, u.oneCell' = true := hL.choose_spec.2.2.2
        have h7 : v.oneCell' = true := h6 v (by rw [h5]; simp)
        cases v' with
        | agg cs =>
          exact absurd rfl (leaf_not_agg hg j2 j1 cs)
        | _ => exact (List.cons.inj j4).1
    subst hvv
    refine ⟨x :: xs, .cons j1 k1, .cons j2 k2, ?_⟩
    simp only [bulkL]
    rw [M.cons]
    exact Nat.add_le_add j3 k3
  | [], _ :: _, _, _, h, _, _ => h.elim
  | [], [], _ :: _, _, h, _, _ => h.elim
  | _ :: _, [], _, _, h, _, _ => h.elim
  | _ :: _, _ :: _, [], _, h, _, _ => h.elim

theorem trodAll_stays (hl : laidOutB P = true) {sp : Nat → Bool} : ∀ {ts : List TypeId} {vs : List Value} {ds : List (DataW H)} {ps : List MemPlace}, DataW.TrodAll enc P W 0 (fun _ => true) true ts vs ds ps → (ts.all (lawArg P)) = true →
    (∀ p ∈ ps, W.sameAt W' p) → (∀ p ∈ ps, sp p.block = true) → DataW.TrodAll enc P W' 0 sp true ts vs ds ps
  | [], [], [], _, h, _, _, _ => h
  | t :: ts, v :: vs, d :: ds, ps, ⟨p, q, h1, h2, e⟩, hp, hs, hsp => by
    simp only [List.all_cons, Bool.and_eq_true] at hp
    have h0 := hp.1
    simp only [lawArg, Bool.and_eq_true, decide_eq_true_eq] at h0
    refine ⟨p, q, Trod_stays hl h0.1.2 h0.2 h1 (fun x hx => hs x (by rw [e]; simp [hx])) (fun x hx => hsp x (by rw [e]; simp [hx])), trodAll_stays hl h2 hp.2 (fun x hx => hs x (by rw [e]; simp [hx])) (fun x hx => hsp x (by rw [e]; simp [hx])), e⟩
  | [], _ :: _, _, _, h, _, _, _ => h.elim
  | [], [], _ :: _, _, h, _, _, _ => h.elim
  | _ :: _, [], _, _, h, _, _, _ => h.elim
  | _ :: _, _ :: _, [], _, h, _, _, _ => h.elim

theorem post_below {f : Func} {s : ChangeSpec} {apart fresh handsOn again : Bool} {args : Array Value} {v : Value} {ds gs : List (DataW H)} {before pa pv : List MemPlace}
    (hW : DataW.Whole enc P f.params.toList s.vars apart W args.toList ds gs before)
    (hres : ∀ (b : Nat) (sp : Nat → Bool) (hd : Bool), DataW.TrodAll enc P W' b sp hd f.resultTypes.toList (v.resultList f.resultTypes.size) (s.fn H (ds ++ gs)).results [])
    (hargs : ∀ sp : Nat → Bool, (∀ p ∈ before, sp p.block = true) → DataW.TrodAll enc P W' 0 sp true f.params.toList args.toList (s.fn H (ds ++ gs)).args pa)
    (hvars : ∀ sp : Nat → Bool, (∀ p ∈ before, sp p.block = true) → DataW.TrodVars enc P W' sp s.vars (s.fn H (ds ++ gs)).vars pv)
    (hps : before = pa ++ pv) (hb : Below W.heap.size W W')
    (hok : ∀ (j : Nat) (t : TypeId) (r : Value), f.resultTypes[j]? = some t → (v.resultList f.resultTypes.size)[j]? = some r → Value.okWide P W' .any 0 t r) :
    s.post enc P f apart fresh handsOn again W args v W' := by
  have hlt : ∀ p ∈ before, p.block < W.heap.size := fun p hp => hW.lt p hp
  have hold : ∀ p ∈ before, (fun b => decide (b < W.heap.size)) p.block = true := fun p hp => by simpa using hlt p hp
  refine ⟨ds, gs, before, [], pa, pv, hW, hres _ _ _, hargs _ hold, hvars _ hold, World.keptBut_mono (fun p hp => ⟨hp, ?_⟩) (hb.frame (· ∈ before)), fun _ => ?_⟩
  · rw [hps, List.mem_append] at hp
    exact Or.inr hp
  · obtain ⟨_, _, _, _, _, hz, hn⟩ := hW
    refine ⟨hok, _, _, ([] ++ pa) ++ pv, ⟨[] ++ pa, pv, trodAll_append (hargs _ (fun _ _ => rfl)) (hres _ _ _), hvars _ (fun _ _ => rfl), rfl, ?_, ?_⟩, ?_⟩
    · intro b off hp
      have hin : MemPlace.cell b off ∈ before := by rw [hps]; simpa using hp
      rw [hb.frozen (hlt _ hin)]
      exact hz b off hin
    · intro ha
      have := hn ha
      rw [hps] at this
      simpa using this
    · intro p hp _
      rw [hps]
      simpa using hp

theorem lawSlots_len : ∀ (ts : List TypeId) (i : Nat), (lawSlots P i ts).length = ts.length
  | [], _ => rfl
  | t :: ts, i => by simp [lawSlots, lawSlots_len ts (i + 1)]
theorem lawSlots_inj {g : G} {q : Nat → Prop} : ∀ {ts : List TypeId} {i j : Nat} {xs pre : List D} {vs prev : List Value}, F2 (VD g.h) xs vs → ts.length = xs.length → pre.length = j → prev.length = i →
    ∀ t, VV g ((injSlots E0 (pre ++ xs) (lawSlots P i ts) j).1 t) ((prev ++ vs).getD t undef) ∧ ((injSlots E0 (pre ++ xs) (lawSlots P i ts) j).1 t).uses q
  | [], i, j, xs, pre, vs, prev, _, _, _, _, t => ⟨trivial, trivial⟩
  | ty :: ts, i, j, [], pre, vs, prev, _, hl, _, _, t => by simp at hl
  | ty :: ts, i, j, x :: xs, pre, _, prev, .cons (b := v) (bs := vs) h1 h2, hl, hp, hq, t => by
    have ih := lawSlots_inj (q := q) (ts := ts) (i := i + 1) (j := j + 1) (pre := pre ++ [x]) (prev := prev ++ [v]) h2 (by simpa using hl) (by simp [hp]) (by simp [hq]) t
    simp only [List.append_assoc, List.singleton_append] at ih
    simp only [lawSlots, injSlots, injV, injLeaf]
    have hn : nth (pre ++ x :: xs) j = x := by rw [← hp]; exact nth_at pre x xs
    by_cases e : t = i
    · subst e
      rw [beq_iff.2 rfl, cond_true, hn]
      refine ⟨?_, trivial⟩
      have : (prev ++ v :: vs).getD t undef = v := by
        rw [← hq]; simp
      rw [this]
      exact h1
    · rw [beq_false e, cond_false]
      exact ih

theorem law_calls {c : Cfg} (hn : NamesOk c) (horc : ∀ f sk ds r, c.orc f sk ds = some r → CallSpec c f sk ds r) {f : Nat} {fn : Func} (hf : c.P.funcs[f]? = some fn) {tb : TypeId} (hres : fn.resultTypes = #[tb]) (hb : c.P.underlying tb = some .bool)
    (hd : c.dres f 0 = 0) (hgok : c.gok (snap W)) (hl : laidOutB c.P = true) (hpl : fn.params.toList.all (lawArg c.P) = true) {B : Nat}
    (hrun : ∀ xs, F2 (wtV c.P 8) fn.params.toList xs → bulkL xs ≤ B → ∃ n, run c n (.call f (lawSk c.P fn.params.toList) xs) = some (true, [.bool true]))
    (M : Meas m ma) {args : Array Value} {ds gs : List (DataW H)} {before : List MemPlace} {s : ChangeSpec} {apart fresh handsOn again : Bool}
    (hval : ∀ (j : Nat) t v, fn.params[j]? = some t → args[j]? = some v → Value.okWide c.P W .any base t v) (hvars : s.vars = []) (hW : DataW.Whole enc c.P fn.params.toList s.vars apart W args.toList ds gs before) (hB : ma (ds ++ gs) ≤ B)
    (hs : gs = [] → s.fn H (ds ++ gs) = { results := [.lit (.bool true)], args := ds }) :
    Calls c.P f args W fun e W' => ∃ v, e = .returned v ∧ s.post enc c.P fn apart fresh handsOn again W args v W' := by
  have hW0 := hW
  obtain ⟨p, q, hA, hV, hpq, hz, hnd⟩ := hW
  rw [hvars] at hV
  obtain ⟨rfl, rfl⟩ := trodVars_none hV
  have hs := hs rfl
  simp only [List.append_nil] at hs hB hpq
  subst hpq
  obtain ⟨xs, k1, k2, k3⟩ := args_leaves M (r := .any) hA hpl fun j t v ht hv => ⟨.any, base, hval j t v (by simpa using ht) (by simpa using hv)⟩
  obtain ⟨n, hrun⟩ := hrun xs k2 (Nat.le_trans k3 hB)
  have hspec := ((run_sound hn horc n).1 f _ _ _ hrun).1 fn hf (fun _ => none) ⟨snap W, fun _ => 0, fun _ => undef⟩ hgok args W
  have hlen : fn.params.toList.length = xs.length := k2.length
  have hlen2 : xs.length = args.toList.length := k1.length
  have hinj : (injectE E0 (lawSk c.P fn.params.toList) xs).h = fun _ => none := rfl
  refine (hspec ?_ ?_ ?_).mono ?_
  · simp only [lawSk, lawSlots_len]
    rw [hlen, hlen2]; simp
  · refine ⟨fun b x h => h, fun b x h => (by cases h), fun o x h => ?_, fun o x b h => ?_, fun o o' x x' b h => ?_, fun o x h => ?_, fun b => .inr rfl⟩
    all_goals (rw [hinj] at h; cases h)
  · intro t
    have := lawSlots_inj (P := c.P) (g := ⟨snap W, fun _ => 0, fun _ => undef⟩) (q := (· < (lawSk c.P fn.params.toList).objs.length)) (ts := fn.params.toList) (i := 0) (j := 0) (pre := []) (prev := []) k1 hlen rfl rfl t
    simp only [List.nil_append] at this
    have e : args.getD t undef = args.toList.getD t undef := by simp [Array.getD_eq_getD_getElem?, List.getD_eq_getElem?_getD]
    rw [e]
    exact this
  · rintro e W' ⟨v, he, g', tm', h1, h2, h3, h4, h5⟩
    refine ⟨v, he, ?_⟩
    have hbel : Below W.heap.size W W' := by
      refine ⟨h3.os, h3.tape, h3.output, h3.size, fun k hk => ?_⟩
      have hk' : W.heap[k]? = some W.heap[k] := Array.getElem?_eq_getElem hk
      rw [h1.frz k _ (h3.h k _ hk'), hk']
    have hel : elemT c.P tb = none := by simp [elemT, hb]
    have hosk : (outSk c.P (c.dres f) fn.resultTypes.toList (lawSk c.P fn.params.toList)) = ⟨[(0, .d (.leaf .bool))], []⟩ := by
      have : tyT c.P tb = .leaf .bool := by simp [tyT, isAggT, hb, isAggD, leafT]
      simp only [hres, outSk, outRes, hd, hel, lawSk, outObs, this]
      rfl
    rw [hosk] at h5 h2
    have hv : v = .bool true := by
      rw [h5]
      have := (h2 0).1
      exact this
    subst hv
    have htrod : ∀ sp : Nat → Bool, (∀ x ∈ before, sp x.block = true) → DataW.TrodAll enc c.P W' 0 sp true fn.params.toList args.toList ds before := fun sp hsp =>
      trodAll_stays hl hA hpl (fun x hx => ?_) hsp
    · refine post_below (pa := before) (pv := []) hW0 (fun b sp hd => ?_) (fun sp hsp => ?_) (fun sp hsp => ?_) (by simp) hbel ?_
      · rw [hres]
        simp only [List.append_nil]
        rw [hs]
        exact trodAll_mk1 (shut_bool hb _)
      · simp only [List.append_nil]
        rw [hs]
        exact htrod sp hsp
      · simp only [List.append_nil]
        rw [hs, hvars]
        exact rfl
      · exact ok_one hres rfl (okWide_bool_mk hb _)
    · have hlt := hW0.lt x hx
      cases x with
      | cell b off =>
        have := hbel.block b hlt
        simp only [World.sameAt, World.cell?, this]
      | map b => exact hbel.block b hlt
end

/-! Data of a type, taken apart. -/
section
variable {P : Program} {n : Nat} {t e : TypeId} {x : D} {xs : List D}
theorem isAggT_leaf (h : P.underlying t = some .bool ∨ (∃ k, P.underlying t = some (.int k)) ∨ P.underlying t = some .string ∨ ∃ e, P.underlying t = some (.slice e)) : isAggT P t = false := by
  rcases h with h | ⟨k, h⟩ | h | ⟨e, h⟩ <;> simp [isAggT, h, isAggD]
theorem wtV_leaf (hg : isAggT P t = false) (h : wtV P n t x) : wtL P n t [x] := by
  unfold wtV at h
  rwa [hg, if_neg (by simp)] at h
theorem wtV_bool (ht : P.underlying t = some .bool) (h : wtV P (n + 1) t x) : ∃ b, x = .bool b := by
  have := wtV_leaf (isAggT_leaf (.inl ht)) h
  simp only [wtL, ht] at this
  obtain ⟨b, e⟩ := this
  cases e; exact ⟨b, rfl⟩
theorem wtV_int {k : IntKind} (ht : P.underlying t = some (.int k)) (h : wtV P (n + 1) t x) : ∃ i, x = .int k i ∧ (Lit.int k i).wf = true := by
  have := wtV_leaf (isAggT_leaf (.inr (.inl ⟨k, ht⟩))) h
  simp only [wtL, ht] at this
  obtain ⟨b, e, hw⟩ := this
  cases e; exact ⟨b, rfl, hw⟩
theorem wtV_str (ht : P.underlying t = some .string) (h : wtV P (n + 1) t x) : ∃ s, x = .str s := by
  have := wtV_leaf (isAggT_leaf (.inr (.inr (.inl ht)))) h
  simp only [wtL, ht] at this
  obtain ⟨b, e⟩ := this
  cases e; exact ⟨b, rfl⟩
theorem wtV_slice (ht : P.underlying t = some (.slice e)) (h : wtV P (n + 1) t x) : ∃ ys, x = .lst (szT P e) ys ∧ ∀ y ∈ ys, wtV P n e y := by
  have := wtV_leaf (isAggT_leaf (.inr (.inr (.inr ⟨e, ht⟩)))) h
  simp only [wtL, ht] at this
  obtain ⟨ys, e, hw⟩ := this
  cases e; exact ⟨ys, rfl, hw⟩
theorem wtV_struct {fs : Array Field} (ht : P.underlying t = some (.struct fs)) (h : wtV P (n + 1) t x) : ∃ parts : List (List D), x = .agg parts.flatten ∧ F2 (fun f p => wtL P n f.type p) fs.toList parts := by
  unfold wtV at h
  rw [if_pos (by simp [isAggT, ht, isAggD])] at h
  obtain ⟨cs, rfl, h⟩ := h
  simp only [wtL, ht] at h
  obtain ⟨parts, rfl, h⟩ := h
  exact ⟨parts, rfl, h⟩
theorem wtV_array {k : Nat} (ht : P.underlying t = some (.array k e)) (h : wtV P (n + 1) t x) : ∃ parts : List (List D), x = .agg parts.flatten ∧ parts.length = k ∧ ∀ p ∈ parts, wtL P n e p := by
  unfold wtV at h
  rw [if_pos (by simp [isAggT, ht, isAggD])] at h
  obtain ⟨cs, rfl, h⟩ := h
  simp only [wtL, ht] at h
  obtain ⟨parts, rfl, h⟩ := h
  exact ⟨parts, rfl, h⟩
theorem wf_u8 {i : Int} (h : (Lit.int .u8 i).wf = true) : 0 ≤ i ∧ i ≤ 255 := by
  simpa [Lit.wf, IntKind.min, IntKind.max, IntKind.signed, IntKind.bits] using h
theorem wf_i64 {i : Int} (h : (Lit.int .i64 i).wf = true) : -9223372036854775808 ≤ i ∧ i ≤ 9223372036854775807 := by
  simpa [Lit.wf, IntKind.min, IntKind.max, IntKind.signed, IntKind.bits] using h
end
end Go.AE

/- Runs with fuel enough: what a task comes to, told without fuel. -/
namespace Go.AE

/-- With fuel enough the task comes to one answer, and that is as told. -/
def Ev (t : Nat → Out) (P : Bool × List D → Prop) : Prop := ∃ r, P r ∧ ∃ N, ∀ n, N ≤ n → t n = some r

theorem Ev.mono {t : Nat → Out} {P Q : Bool × List D → Prop} (h : Ev t P) (hp : ∀ r, P r → Q r) : Ev t Q :=
  ⟨h.choose, hp _ h.choose_spec.1, h.choose_spec.2⟩
theorem Ev.ret {P : Bool × List D → Prop} {b : Bool} {ds : List D} (h : P (b, ds)) : Ev (fun _ => some (b, ds)) P := ⟨_, h, 0, fun _ _ => rfl⟩
theorem Ev.eq {t u : Nat → Out} {P : Bool × List D → Prop} (he : ∀ n, t (n + 1) = u n) (h : Ev u P) : Ev t P := by
  obtain ⟨r, h1, N, h2⟩ := h
  refine ⟨r, h1, N + 1, fun n hn => ?_⟩
  obtain ⟨k, rfl⟩ : ∃ k, n = k + 1 := ⟨n - 1, by omega⟩
  rw [he]; exact h2 k (by omega)
theorem Ev.bindC {t : Nat → Out} {k : List D → Nat → Out} {P Q : Bool × List D → Prop} (h : Ev t Q) (hq : ∀ b ds, Q (b, ds) → b = true ∧ Ev (k ds) P) : Ev (fun n => AE.bindC (t n) fun ds => k ds n) P := by
  obtain ⟨⟨b, ds⟩, h1, N, h2⟩ := h
  obtain ⟨rfl, r, h3, M, h4⟩ := hq b ds h1
  refine ⟨r, h3, N + M, fun n hn => ?_⟩
  simp only [h2 n (by omega), AE.bindC]
  exact h4 n (by omega)
theorem Ev.bindL {t : Nat → Out} {k : List D → Nat → Out} {P Q : Bool × List D → Prop} (h : Ev t Q) (hr : ∀ ds, Q (true, ds) → P (true, ds)) (hq : ∀ ds, Q (false, ds) → Ev (k ds) P) : Ev (fun n => AE.bindL (t n) fun ds => k ds n) P := by
  obtain ⟨⟨b, ds⟩, h1, N, h2⟩ := h
  cases b with
  | true => exact ⟨(true, ds), hr _ h1, N, fun n hn => by simp only [h2 n hn, AE.bindL]⟩
  | false =>
    obtain ⟨r, h3, M, h4⟩ := hq ds h1
    refine ⟨r, h3, N + M, fun n hn => ?_⟩
    simp only [h2 n (by omega), AE.bindL]
    exact h4 n (by omega)
theorem Ev.test {c : Bool} {x y : Nat → Out} {P : Bool × List D → Prop} (ht : c = true → Ev x P) (hf : c = false → Ev y P) : Ev (fun n => bif c then x n else y n) P := by
  cases c with
  | true => exact ht rfl
  | false => exact hf rfl
theorem Ev.yes {c : Bool} {x y : Nat → Out} {P : Bool × List D → Prop} (hc : c = true) (h : Ev x P) : Ev (fun n => bif c then x n else y n) P := by subst hc; exact h
theorem Ev.no {c : Bool} {x y : Nat → Out} {P : Bool × List D → Prop} (hc : c = false) (h : Ev y P) : Ev (fun n => bif c then x n else y n) P := by subst hc; exact h
theorem Ev.run {t : Nat → Out} {P : Bool × List D → Prop} (h : Ev t P) : ∃ r, P r ∧ ∃ n, t n = some r := by
  obtain ⟨r, h1, N, h2⟩ := h
  exact ⟨r, h1, N, h2 N (Nat.le_refl _)⟩
mutual
theorem D.eq_refl : ∀ x : D, D.eq x x = true
  | .top => rfl
  | .bool _ => by simp [D.eq]
  | .int _ _ => by simp [D.eq]
  | .str _ => by simp [D.eq]
  | .lst _ xs => by simp [D.eq, D.eqs_refl xs]
  | .nils _ _ => by simp [D.eq]
  | .und => rfl
  | .agg xs => by simp [D.eq, D.eqs_refl xs]
  | .fn _ => by simp [D.eq]
  | .nilp => rfl
  | .nilf => rfl
  | .nilm => rfl
  | .nili => rfl
  | .ub => rfl
  | .iface _ x => by simp [D.eq, D.eq_refl x]
theorem D.eqs_refl : ∀ xs : List D, D.eqs xs xs = true
  | [] => rfl
  | x :: xs => by simp [D.eqs, D.eq_refl x, D.eqs_refl xs]
end
/-- Both ways come to the same. -/
theorem Ev.agree {t u : Nat → Out} {r : Bool × List D} {P : Bool × List D → Prop} (h : Ev t fun x => x = r) (h' : Ev u fun x => x = r) (hP : P r) : Ev (fun n => AE.agree (t n) (u n)) P := by
  obtain ⟨_, rfl, N, h2⟩ := h
  obtain ⟨_, rfl, N', h2'⟩ := h'
  refine ⟨_, hP, N + N', fun n hn => ?_⟩
  simp only [h2 n (by omega), h2' n (by omega), AE.agree, D.eqs_refl, beq_self_eq_true, Bool.and_self, cond_true]
theorem agreeL_all {r : Bool × List D} : ∀ {l : List Out}, l ≠ [] → (∀ x ∈ l, x = some r) → agreeL l = some r
  | [], h, _ => absurd rfl h
  | [x], _, h => h x (List.mem_cons_self ..)
  | x :: y :: l, _, h => by
    show AE.agree x (agreeL (y :: l)) = some r
    rw [agreeL_all (l := y :: l) (by simp) (fun z hz => h z (List.mem_cons_of_mem _ hz)), h x (List.mem_cons_self ..)]
    simp only [AE.agree, D.eqs_refl, beq_self_eq_true, Bool.and_self, cond_true]
/-- Whichever comes next, all ways come to the same. -/
theorem Ev.pick {l : List Nat} {a : Nat → Out} {f : Nat → Nat → Out} {P : Bool × List D → Prop} (r : Bool × List D) (ha : l = [] → Ev a P) (hf : ∀ j ∈ l, Ev (fun n => f n j) fun x => x = r) (hP : l ≠ [] → P r) : Ev (fun n => pickL l (a n) (f n)) P := by
  cases l with
  | nil => exact ha rfl
  | cons i is =>
    have all : ∀ l : List Nat, (∀ j ∈ l, Ev (fun n => f n j) fun x => x = r) → ∃ N, ∀ n, N ≤ n → ∀ j ∈ l, f n j = some r := by
      intro l
      induction l with
      | nil => exact fun _ => ⟨0, fun n _ j hj => absurd hj (List.not_mem_nil)⟩
      | cons k ks ih =>
        intro h
        obtain ⟨N, h1⟩ := ih fun j hj => h j (List.mem_cons_of_mem _ hj)
        obtain ⟨_, rfl, N', h2⟩ := h k (List.mem_cons_self ..)
        refine ⟨N + N', fun n hn j hj => ?_⟩
        rcases List.mem_cons.1 hj with rfl | hj
        · exact h2 n (by omega)
        · exact h1 n (by omega) j hj
    obtain ⟨N, hN⟩ := all (i :: is) hf
    refine ⟨r, hP (by simp), N, fun n hn => ?_⟩
    show agreeL ((i :: is).map (f n)) = some r
    refine agreeL_all (by simp) fun x hx => ?_
    obtain ⟨j, hj, rfl⟩ := List.mem_map.1 hx
    exact hN n hn j hj
/-- A closed run. -/
theorem Ev.same {t : Nat → Out} {P Q : Bool × List D → Prop} (h : Ev t P) (h' : Ev t Q) : Ev t fun r => P r ∧ Q r := by
  obtain ⟨r, h1, N, h2⟩ := h
  obtain ⟨r', h1', N', h2'⟩ := h'
  have : r = r' := by
    have a := h2 (N + N') (by omega)
    have b := h2' (N + N') (by omega)
    rw [a] at b; exact Option.some.inj b
  subst this
  exact ⟨r, ⟨h1, h1'⟩, N, h2⟩
end Go.AE

/- Library functions whose answers are told by plain functions: their definitions. -/
namespace Go.AE
def orcTab : List (Nat × (Sk → List D → Option (List D))) → Nat → Sk → List D → Option (List D)
  | [], _, _, _ => none
  | (a, x) :: r, f, sk, ds => bif Nat.beq f a then x sk ds else orcTab r f sk ds
/-- Texts in their order. -/
def insS (x : List UInt8) : List (List UInt8) → List (List UInt8)
  | [] => [x]
  | y :: r => bif Op.bytesLess y x then y :: insS x r else x :: y :: r
def sortS : List (List UInt8) → List (List UInt8)
  | [] => []
  | x :: r => insS x (sortS r)
def strsOf : List D → Option (List (List UInt8))
  | [] => some []
  | .str s :: r => match strsOf r with | some l => some (s :: l) | none => none
  | _ => none
/-- A row of texts that is lent: sorted. -/
def orcSort : Sk → List D → Option (List D)
  | ⟨[(0, .row 0)], [.row _ 1 1]⟩, [.lst 1 xs] => match strsOf xs with | some l => bif Nat.ble l.length maxLst then some [.lst 1 ((sortS l).map D.str)] else none | none => none
  | _, _ => none
/-- Without what equals the one before it. -/
def compS : List (List UInt8) → List (List UInt8)
  | [] => []
  | x :: r => match r with
    | [] => [x]
    | y :: _ => bif x == y then compS r else x :: compS r
/-- A row of texts that is given away: compacted. -/
def orcCompact (e0 : Nat) : Sk → List D → Option (List D)
  | ⟨[(0, .row 0)], [.row e 1 2]⟩, [.lst 1 xs] => match strsOf xs with | some l => bif Nat.beq e e0 then some [.lst 1 ((compS l).map D.str)] else none | none => none
  | _, _ => none
/-- Where a text first stands in another; -1: nowhere. -/
def idxStr (sub : List UInt8) : List UInt8 → Nat → Int
  | [], j => bif sub.isEmpty then (j : Int) else -1
  | b :: l, j => bif sub.isPrefixOf (b :: l) then (j : Int) else idxStr sub l (j + 1)
def orcIndex : Sk → List D → Option (List D)
  | ⟨[(0, .d (.leaf .str)), (1, .d (.leaf .str))], []⟩, [.str s, .str t] => bif Nat.ble s.length 4294967280 then some [.int .i64 (idxStr t s 0)] else none
  | _, _ => none
def orcContains : Sk → List D → Option (List D)
  | ⟨[(0, .d (.leaf .str)), (1, .d (.leaf .str))], []⟩, [.str s, .str t] => bif Nat.ble s.length 4294967280 then some [.bool (decide (0 ≤ idxStr t s 0))] else none
  | _, _ => none
def cutStr (s t : List UInt8) : List UInt8 × List UInt8 × Bool := match idxStr t s 0 with
  | .ofNat i => (s.take i, s.drop (i + t.length), true)
  | .negSucc _ => (s, [], false)
def orcCut : Sk → List D → Option (List D)
  | ⟨[(0, .d (.leaf .str)), (1, .d (.leaf .str))], []⟩, [.str s, .str t] => bif Nat.ble s.length 4294967280 then some [.str (cutStr s t).1, .str (cutStr s t).2.1, .bool (cutStr s t).2.2] else none
  | _, _ => none
def joinStr (sep : List UInt8) : List (List UInt8) → List UInt8
  | [] => []
  | x :: r => match r with
    | [] => x
    | _ :: _ => x ++ (sep ++ joinStr sep r)
def orcJoin : Sk → List D → Option (List D)
  | ⟨[(0, .d (.leaf (.lst 1))), (1, .d (.leaf .str))], []⟩, [.lst 1 xs, .str t] => match strsOf xs with
    | some l => bif Nat.ble l.length maxLst && Nat.ble (joinStr t l).length 140737488355328 then some [.str (joinStr t l)] else none
    | none => none
  | _, _ => none
def orcSplit (e : Nat) : Sk → List D → Option (List D)
  | ⟨[(0, .d (.leaf .str)), (1, .d (.leaf .str))], []⟩, [.str s, .str t] => bif Nat.ble s.length 4294967280 && Nat.ble 1 t.length then some [.lst 1 ((Lib.split s t).map D.str)] else none
  | _, _ => none
/-- Decimal digits, the last laid first. -/
def decS : Nat → Nat → List UInt8 → List UInt8
  | 0, _, acc => acc
  | k + 1, u, acc => bif Nat.ble u 9 then UInt8.ofNat (48 + u) :: acc else decS k (u / 10) (UInt8.ofNat (48 + u % 10) :: acc)
def itoaS (n : Int) : List UInt8 := match n with
  | .ofNat u => decS 20 u []
  | .negSucc u => 45 :: decS 20 (u + 1) []
/-- A number in decimal. -/
def orcItoa : Sk → List D → Option (List D)
  | ⟨[(0, .d (.leaf (.int .i64)))], []⟩, [.int .i64 n] => bif decide (-9223372036854775808 ≤ n) && decide (n ≤ 9223372036854775807) then some [.str (itoaS n)] else none
  | _, _ => none
end Go.AE

/- Small laws for plain proofs over tasks. -/
namespace Go.AE

theorem wrap_id {x : Int} (h1 : -9223372036854775808 ≤ x) (h2 : x ≤ 9223372036854775807) : IntKind.i64.wrap x = x := IntWalk.i64_in x ⟨h1, h2⟩
theorem get_in {P : D → Prop} {xs : List D} (h : ∀ x ∈ xs, P x) {v : Int} (h0 : 0 ≤ v) (h1 : v < xs.length) : P (xs[v.toNat]?.getD D.top) := by
  have : v.toNat < xs.length := by omega
  rw [List.getElem?_eq_getElem this]
  exact h _ (List.getElem_mem this)
/-- Bytes as data. -/
def Bytes (b : List D) : Prop := ∀ y ∈ b, ∃ i : Int, y = .int .u8 i ∧ 0 ≤ i ∧ i ≤ 255
theorem and_tt {a b : Bool} (ha : a = true) (hb : b = true) : (a && b) = true := by rw [ha, hb]; rfl
theorem wrap_succ {j : Nat} (h : j < 4611686018427387904) : IntKind.i64.wrap ((j : Int) + 1) = ((j + 1 : Nat) : Int) := by
  rw [wrap_id (by omega) (by omega)]; omega
theorem get_nat {xs : List D} {j : Nat} (h : j < xs.length) : xs[((j : Nat) : Int).toNat]?.getD D.top = xs[j] := by
  rw [Int.toNat_natCast, List.getElem?_eq_getElem h]; rfl
theorem drop_cons {α : Type} {xs : List α} {j : Nat} (h : j < xs.length) : xs.drop j = xs[j] :: xs.drop (j + 1) := List.drop_eq_getElem_cons h
theorem in_range {j m : Nat} (h : j < m) : (decide ((0 : Int) ≤ (j : Int)) && decide ((j : Int) < (m : Int))) = true := and_tt (decide_eq_true (by omega)) (decide_eq_true (by omega))
end Go.AE
