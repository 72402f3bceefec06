/- The reference's maker of items, ports, modules: what it makes, told exactly. -/
import Derived.Test.YtalibicpmfbieaaGreatDoorTrI
namespace Go.Proofs.YtalibicpmfbieaaGreatDoor
open Go.AE
set_option linter.unusedVariables false
set_option linter.unusedSimpArgs false
def wireT : List UInt8 := [119, 105, 114, 101]
def regT : List UInt8 := [114, 101, 103]
def intT : List UInt8 := [105, 110, 116, 101, 103, 101, 114]
def inT : List UInt8 := [105, 110, 112, 117, 116]
def outT : List UInt8 := [111, 117, 116, 112, 117, 116]
def oregT : List UInt8 := [111, 117, 116, 112, 117, 116, 32, 114, 101, 103]
def lparT : List UInt8 := [108, 111, 99, 97, 108, 112, 97, 114, 97, 109]
def parT : List UInt8 := [112, 97, 114, 97, 109, 101, 116, 101, 114]
def clkT : List UInt8 := [99, 108, 107]
def subT : List UInt8 := [115, 117, 98]
/-- Types: a name, how many numbers at most, may there be a first value. -/
abbrev NT := List (List UInt8 × Nat × Bool)
def wireN : NT := [(wireT, 2, false)]
def regN : NT := [(regT, 4, true), (intT, 0, false)]
def portN : NT := [(inT, 2, false), (outT, 2, false), (oregT, 2, true)]
def funN : NT := [(inT, 2, false), (regT, 2, false), (intT, 0, false)]
/-- A net, exactly. -/
def xN (T : NT) (x : D) : Prop := ∃ nm ty q f sg es fs, x = I 1 nm ty sg es fs [] [] [] [] [] ∧ nm ∈ nameT ∧ (ty, q, f) ∈ T ∧ (ty = intT → sg = true) ∧ es.length ≤ q ∧ (es.length = 0 ∨ es.length = 2 ∨ es.length = 4) ∧ (fs = [] ∨ (f = true ∧ fs.length = 1 ∧ es.length ≤ 2)) ∧ (∀ e ∈ es, wfE 4 e) ∧ ∀ e ∈ fs, wfE 4 e
def xC (x : D) : Prop := ∃ nm es, x = .agg [.str nm, .lst 6 es] ∧ nm ∈ nameT ∧ es.length ≤ 1 ∧ ∀ e ∈ es, wfE 4 e
def gB (t : List UInt8) (its : List D) : D := I 11 t [] false [] [] [] its [] [] []
def xI : Nat → D → Prop
  | 0, _ => False
  | n + 1, x => (xN wireN x ∨ xN regN x) ∨ (∃ nm e, x = I 2 nm lparT false [e] [] [] [] [] [] [] ∧ nm ∈ nameT ∧ wfE 4 e) ∨ (∃ nm, x = I 3 nm [] false [] [] [] [] [] [] [] ∧ nm ∈ nameT) ∨
    (∃ l e, x = I 4 [] [] false [l, e] [] [] [] [] [] [] ∧ isLeft l ∧ wfE 4 e) ∨ (∃ s, x = I 5 [] [] false [] [] [s] [] [] [] [] ∧ wfS 4 s) ∨ (∃ s, x = I 6 clkT [] false [] [] [s] [] [] [] [] ∧ wfS 4 s) ∨
    (∃ sg es its s, x = I 7 [102] [] sg es [] [s] its [] [] [] ∧ (es.length = 0 ∨ es.length = 2) ∧ (∀ e ∈ es, wfE 4 e) ∧ 1 ≤ its.length ∧ its.length ≤ 2 ∧ (∀ i ∈ its, xN funN i) ∧ wfS 4 s) ∨
    (∃ k ps qs, x = I 8 [117, 48 + k] subT false [] [] [] [] [] ps qs ∧ k.toNat ≤ 8 ∧ ps.length ≤ 2 ∧ qs.length ≤ 2 ∧ (∀ c ∈ ps, xC c) ∧ ∀ c ∈ qs, xC c) ∨
    (∃ es its, x = I 9 [105] [] false es [] [] [gB [103] its] [] [] [] ∧ es.length = 3 ∧ (∀ e ∈ es, wfE 4 e) ∧ its.length ≤ 2 ∧ ∀ i ∈ its, xI n i) ∨
    (∃ e its els, x = I 10 [] [] false [e] [] [] [gB [116] its] els [] [] ∧ wfE 4 e ∧ its.length ≤ 2 ∧ (∀ i ∈ its, xI n i) ∧ (els = [] ∨ ∃ ys, els = [gB [101] ys] ∧ ys.length ≤ 2 ∧ ∀ i ∈ ys, xI n i))
theorem xN_form {T : NT} {x : D} (h : xN T x) : ∃ nm ty sg es fs, x = I 1 nm ty sg es fs [] [] [] [] [] := by
  obtain ⟨nm, ty, q, f, sg, es, fs, h0, _⟩ := h
  exact ⟨nm, ty, sg, es, fs, h0⟩
theorem xI_form {n : Nat} {x : D} (h : xI n x) : ∃ k nm ty sg es fs bs its els ps qs, x = I k nm ty sg es fs bs its els ps qs := by
  cases n with
  | zero => exact h.elim
  | succ n =>
    rcases h with (⟨nm, ty, q, f, sg, es, fs, rfl, _⟩ | ⟨nm, ty, q, f, sg, es, fs, rfl, _⟩) | ⟨nm, e, rfl, _⟩ | ⟨nm, rfl, _⟩ | ⟨l, e, rfl, _⟩ | ⟨s, rfl, _⟩ | ⟨s, rfl, _⟩ | ⟨sg, es, its, s, rfl, _⟩ | ⟨k, ps, qs, rfl, _⟩ | ⟨es, its, rfl, _⟩ | ⟨e, its, els, rfl, _⟩
    all_goals exact ⟨_, _, _, _, _, _, _, _, _, _, _, rfl⟩
theorem xdec_ev {v : Int} (h0 : 0 ≤ v) (h1 : v ≤ 9) : Ev (fun n => ref02_Dec n (.int .i64 v)) fun r => r = (true, [.str [48 + UInt8.ofNat v.toNat]]) := by
  have e : ∀ k : Nat, k < 10 → (List.map toByte ([(.int .u8 (IntKind.u8.wrap (IntKind.i64.wrap ((48 : Int) + (k : Int)))))] : List D)) ++ [] = [48 + UInt8.ofNat k] := by decide +kernel
  refine Ev.eq (fun n => ref02_Dec_eq n v) ?_
  refine Ev.bindL (Q := fun r => r = (false, [.int .i64 v, .str []])) (Ev.eq (fun n => ref02_Dec_L0_eq n v []) (Ev.no (decide_eq_false (by omega)) (Ev.ret rfl))) (fun ds h => by cases h) fun ds h => ?_
  cases h
  obtain ⟨k, rfl⟩ : ∃ k : Nat, v = (k : Int) := ⟨v.toNat, by omega⟩
  refine Ev.yes rfl (Ev.yes (decide_eq_true (by show 1 + 0 ≤ maxStr; simp only [maxStr]; omega)) (Ev.ret ?_))
  show (true, [D.str _]) = _
  rw [show ((k : Nat) : Int).toNat = k from rfl, ← e k (by omega)]
  rfl
section
variable {b : List D} {a : Int}
theorem xnet_j1 (hm : Mk b a) {T : NT} {q : Nat} {f : Bool} (g : Bool) (r2 : List D) (ty : List UInt8) (r3 r4 : List D) (hT : (ty, q, f) ∈ T) (hi : ty ≠ intT) (hn : (nth r2 0).s ∈ nameT) (hl0 : (nth r4 2).l.length ≤ q)
    (hl1 : (nth r4 2).l.length = 0 ∨ (nth r4 2).l.length = 2 ∨ (nth r4 2).l.length = 4) (hg : g = true → f = true ∧ (nth r4 2).l.length ≤ 2) (he : ∀ e ∈ (nth r4 2).l, wfE 4 e) :
    Ev (fun n => ref09_MakeNet_j1 n g b a r2 ty r3 r4) (fun r => ∃ x a', r = (true, [x, .lst 1 b, .int .i64 a']) ∧ xN T x ∧ Mk b a') := by
  refine evDf (fun n => ref09_MakeNet_j1_def n _ _ _ _ _ _ _) ?_
  cases g with
  | false => exact Ev.no rfl (Ev.ret ⟨_, a, rfl, ⟨_, _, q, f, _, _, [], rfl, hn, hT, fun h => absurd h hi, hl0, hl1, .inl rfl, he, none_in⟩, hm⟩)
  | true =>
    refine Ev.yes rfl ?_
    (refine Ev.bindC (mexprs_ev 1 (by decide) (c := 1) (by decide) (by decide) (by assumption)) ?_; rintro _ _ ⟨xs, a, h, hl, hx, hm⟩; cases h; refine ⟨rfl, ?_⟩; replace hx : ∀ e ∈ xs, wfE 4 e := fun e h => wfE_up (by decide) (hx e h))
    exact Ev.yes rfl (Ev.ret ⟨_, a, rfl, ⟨_, _, q, f, _, _, xs, rfl, hn, hT, fun h => absurd h hi, hl0, hl1, .inr ⟨(hg rfl).1, hl, (hg rfl).2⟩, he, hx⟩, hm⟩)
def netOk (T : NT) (c : Int) (ty : List UInt8) : Bool := T.any fun p => (p.1 == ty && (bif ty == intT then p.2.1 == 0 else decide ((p.2.1 : Int) = 2 * c))) && (!(decide (c = 2) && (ty == regT || ty == oregT)) || p.2.2)
theorem xmakeNet_ev (ty : List UInt8) {c : Int} {T : NT} (hc : c = 1 ∨ c = 2) (hm : Mk b a) (hok : netOk T c ty = true) : Ev (fun n => ref09_MakeNet n (.str ty) (.int .i64 c) (.lst 1 b) (.int .i64 a)) (fun r => ∃ x a', r = (true, [x, .lst 1 b, .int .i64 a']) ∧ xN T x ∧ Mk b a') := by
  obtain ⟨⟨ty', q, f⟩, hT, hb⟩ := List.any_eq_true.1 hok
  simp only [Bool.and_eq_true] at hb
  obtain ⟨⟨hb1, hb2⟩, hb3⟩ := hb
  have hb1 : ty' = ty := eq_of_beq hb1
  subst hb1
  refine Ev.eq (fun n => ref09_MakeNet_eq n ty' c b a) ?_
  have hw : IntKind.i64.wrap (c + 1) = c + 1 := wrap_id (by omega) (by omega)
  rw [hw]
  refine Ev.bindC (next_ev (by omega) (by omega) hm) ?_
  rintro _ _ ⟨v, a, h, hv0, hv1, hm⟩; cases h; refine ⟨rfl, ?_⟩
  refine Ev.yes rfl ?_
  refine Ev.test (fun hint => ?_) fun hint => ?_
  · (refine Ev.bindC (name_in (by assumption)) ?_; rintro _ _ ⟨s, a, h, hs, hm⟩; cases h; refine ⟨rfl, ?_⟩)
    exact Ev.yes rfl (Ev.ret ⟨_, a, rfl, ⟨_, _, q, f, _, [], [], rfl, hs, hT, fun _ => rfl, Nat.zero_le _, .inl rfl, .inl rfl, none_in, none_in⟩, hm⟩)
  · have hi : ty' ≠ intT := fun e => by
      have hint : (ty' == intT) = false := hint
      rw [e] at hint; simp at hint
    have hq : (q : Int) = 2 * c := by
      rw [show (ty' == intT) = false from hint] at hb2
      exact of_decide_eq_true hb2
    have hf : c = 2 → (ty' == regT) = true ∨ (ty' == oregT) = true → f = true := by
      intro h1 h2
      rw [show (ty' == regT || ty' == oregT) = true from by rcases h2 with h2 | h2 <;> simp [h2], decide_eq_true h1] at hb3
      simpa using hb3
    (refine Ev.bindC (name_in (by assumption)) ?_; rintro _ _ ⟨s, a, h, hs, hm⟩; cases h; refine ⟨rfl, ?_⟩)
    refine Ev.yes rfl ?_
    refine Ev.bindC (next_ev (k := 3) (by decide) (by decide) hm) ?_
    rintro _ _ ⟨v3, a, h, _, _, hm⟩; cases h; refine ⟨rfl, ?_⟩
    refine Ev.yes rfl ?_
    have hw : IntKind.i64.wrap (2 * v) = 2 * v := wrap_id (by omega) (by omega)
    refine Ev.bindC (mexprs_ev 1 (by decide) (c := IntKind.i64.wrap (2 * v)) (by omega) (by omega) hm) ?_
    rintro _ _ ⟨xs, a, h, hl, hx, hm⟩; cases h; refine ⟨rfl, ?_⟩
    rw [hw] at hl
    have hl0 : xs.length ≤ q := by omega
    have hl1 : xs.length = 0 ∨ xs.length = 2 ∨ xs.length = 4 := by omega
    have hx : ∀ e ∈ xs, wfE 4 e := fun e h => wfE_up (by decide) (hx e h)
    refine Ev.yes rfl ?_
    refine Ev.test (fun hr => ?_) fun _ => Ev.test (fun hr => ?_) fun _ => xnet_j1 hm false _ ty' _ _ hT hi hs hl0 hl1 (fun h => by cases h) hx
    all_goals
      refine Ev.test (fun hc2 => Ev.test (fun h4 => ?_) fun _ => xnet_j1 hm false _ ty' _ _ hT hi hs hl0 hl1 (fun h => by cases h) hx) fun _ => xnet_j1 hm false _ ty' _ _ hT hi hs hl0 hl1 (fun h => by cases h) hx
      have hc2 : c = 2 := eq_of_beq hc2
      have h4 : IntKind.i64.wrap (2 * v) < 4 := of_decide_eq_true h4
      rw [hw] at h4
      refine Ev.bindC (next_ev (k := 3) (by decide) (by decide) hm) ?_
      rintro _ _ ⟨v4, a, h, _, _, hm⟩; cases h
      exact ⟨rfl, Ev.yes rfl (xnet_j1 hm _ _ ty' _ _ hT hi hs hl0 hl1 (fun _ => ⟨hf hc2 (by first | exact .inl hr | exact .inr hr), by show xs.length ≤ 2; omega⟩) hx)⟩
theorem xport_j1 (hm : Mk b a) (g : Bool) (x : D) (ds : List D) (h : xN portN x) (hg : g = true → (x.at_ 2).s = oregT) : Ev (fun n => ref09_MakePort_j1 n g b a (x :: ds)) (fun r => ∃ x a', r = (true, [x, .lst 1 b, .int .i64 a']) ∧ xN portN x ∧ Mk b a') := by
  refine evDf (fun n => ref09_MakePort_j1_def n _ _ _ _) ?_
  obtain ⟨nm, ty, q, f, sg, es, fs, rfl, h1, h2, h3, h4, h5, h6, h7, h8⟩ := h
  cases g with
  | false => exact Ev.no rfl (Ev.ret ⟨_, a, rfl, ⟨nm, ty, q, f, sg, es, fs, rfl, h1, h2, h3, h4, h5, h6, h7, h8⟩, hm⟩)
  | true =>
    have hty : ty = oregT := hg rfl
    subst hty
    have hq : q = 2 ∧ f = true := by
      simp only [portN, List.mem_cons, Prod.mk.injEq, List.not_mem_nil, or_false] at h2
      rcases h2 with ⟨h, _⟩ | ⟨h, _⟩ | ⟨_, h, h'⟩
      · exact absurd h (by decide)
      · exact absurd h (by decide)
      · exact ⟨h, h'⟩
    obtain ⟨rfl, rfl⟩ := hq
    refine Ev.yes rfl ?_
    (refine Ev.bindC (mexprs_ev 1 (by decide) (c := 1) (by decide) (by decide) (by assumption)) ?_; rintro _ _ ⟨xs, a, h, hl, hx, hm⟩; cases h; refine ⟨rfl, ?_⟩; replace hx : ∀ e ∈ xs, wfE 4 e := fun e h => wfE_up (by decide) (hx e h))
    exact Ev.yes rfl (Ev.ret ⟨_, a, rfl, ⟨nm, oregT, 2, true, sg, es, xs, rfl, h1, h2, h3, h4, h5, .inr ⟨rfl, hl, h4⟩, h7, hx⟩, hm⟩)
theorem xmakePort_ev (hm : Mk b a) : Ev (fun n => ref09_MakePort n (.lst 1 b) (.int .i64 a)) (fun r => ∃ x a', r = (true, [x, .lst 1 b, .int .i64 a']) ∧ xN portN x ∧ Mk b a') := by
  refine Ev.eq (fun n => ref09_MakePort_eq n b a) ?_
  refine Ev.bindC (next_ev (k := 3) (by decide) (by decide) hm) ?_
  rintro _ _ ⟨v, a, h, hv0, hv1, hm⟩; cases h; refine ⟨rfl, ?_⟩
  have hv : v = 0 ∨ v = 1 ∨ v = 2 := by omega
  refine Ev.yes rfl ?_
  rcases hv with rfl | rfl | rfl
  all_goals
    refine Ev.yes rfl (Ev.yes rfl (Ev.bindC (xmakeNet_ev (T := portN) _ (.inl rfl) hm rfl) ?_))
    rintro _ _ ⟨x, a, h, hx, hm⟩; cases h; refine ⟨rfl, ?_⟩
    have hx0 := hx
    obtain ⟨nm1, ty1, sg1, es1, fs1, rfl⟩ := xN_form hx
    refine Ev.yes rfl (Ev.test (fun ht => ?_) fun _ => xport_j1 hm _ _ _ hx0 (fun h => by cases h))
    refine Ev.bindC (next_ev (k := 3) (by decide) (by decide) hm) ?_
    rintro _ _ ⟨v4, a, h, _, _, hm⟩; cases h
    exact ⟨rfl, Ev.yes rfl (xport_j1 hm _ _ _ hx0 (fun _ => eq_of_beq ht))⟩
theorem xconns_mk : ∀ (c : Nat) (zs : List D) (a : Int), zs.length + c ≤ 2 → (∀ x ∈ zs, xC x) → Mk b a → Ev (fun n => ref09_MakeConns_L0 n (.int .i64 (c : Int)) (.lst 1 b) (.int .i64 a) (.lst 2 zs))
    fun r => ∃ (q : Int) (zs' : List D) (a' : Int), r = (false, [.int .i64 q, .lst 1 b, .int .i64 a', .lst 2 zs']) ∧ zs'.length ≤ 2 ∧ (∀ x ∈ zs', xC x) ∧ Mk b a' := by
  intro c
  induction c with
  | zero =>
    intro zs a hl hz hm
    exact Ev.eq (fun n => ref09_MakeConns_L0_eq n _ _ _ _) (Ev.no rfl (Ev.ret ⟨_, zs, a, rfl, by omega, hz, hm⟩))
  | succ c ih =>
    intro zs a hl hz hm
    have hw : IntKind.i64.wrap (((c + 1 : Nat) : Int) - 1) = (c : Int) := by rw [wrap_id (by omega) (by omega)]; omega
    refine Ev.eq (fun n => ref09_MakeConns_L0_eq n _ _ _ _) (Ev.yes (decide_eq_true (by omega)) ?_)
    rw [hw]
    (refine Ev.bindC (name_in (by assumption)) ?_; rintro _ _ ⟨s, a, h, hs, hm⟩; cases h; refine ⟨rfl, ?_⟩)
    refine Ev.yes rfl ?_
    (refine Ev.bindC (next_ev (by decide) (by decide) (by assumption)) ?_; rintro _ _ ⟨v, a, h, hv0, hv1, hm⟩; cases h; refine ⟨rfl, ?_⟩)
    refine Ev.yes rfl ?_
    refine Ev.bindC (mexprs_ev 1 (by decide) (c := v) hv0 (by omega) hm) ?_
    rintro _ _ ⟨xs, a, h, hl2, hx, hm⟩; cases h; refine ⟨rfl, ?_⟩
    refine Ev.yes rfl (Ev.yes (Nat.ble_eq_true_of_le (by simp only [maxLst]; omega)) (ih _ a (by simp; omega) (snoc_in hz ⟨_, xs, rfl, hs, by omega, fun e h => wfE_up (by decide) (hx e h)⟩) hm))
theorem xmakeConns_ev (hm : Mk b a) : Ev (fun n => ref09_MakeConns n (.lst 1 b) (.int .i64 a)) fun r => ∃ zs a', r = (true, [.lst 1 b, .int .i64 a', .lst 2 zs]) ∧ zs.length ≤ 2 ∧ (∀ x ∈ zs, xC x) ∧ Mk b a' := by
  refine Ev.eq (fun n => ref09_MakeConns_eq n b a) ?_
  (refine Ev.bindC (next_ev (by decide) (by decide) (by assumption)) ?_; rintro _ _ ⟨v, a, h, hv0, hv1, hm⟩; cases h; refine ⟨rfl, ?_⟩)
  obtain ⟨c, rfl⟩ : ∃ c : Nat, v = (c : Int) := ⟨v.toNat, by omega⟩
  refine Ev.yes rfl (Ev.bindL (xconns_mk c [] a (by simp; omega) none_in hm) (fun ds h => by obtain ⟨_, _, _, h, _⟩ := h; cases h) fun ds h => ?_)
  obtain ⟨q, zs, a, h, h1, h2, hm⟩ := h
  cases h
  exact Ev.yes rfl (Ev.ret ⟨zs, a, rfl, h1, h2, hm⟩)
theorem xdecls_mk (sg : Bool) (es : List D) : ∀ (c : Nat) (zs : List D) (a : Int), zs.length + c ≤ 2 → (∀ x ∈ zs, xN funN x) → Mk b a →
    Ev (fun n => ref09_MakeItem_L1 n (.int .i64 (c : Int)) (.lst 1 b) (.int .i64 a) (.int .i64 0) (.str []) (.str []) (.bool false) (.int .i64 7) (.str [102]) (.str []) (.bool sg) (.lst 6 []) (.lst 6 []) (.lst 5 []) (.lst 11 []) (.lst 11 []) (.lst 2 []) (.lst 2 []) (.lst 6 es) (.lst 6 []) (.lst 5 []) (.lst 11 zs) (.lst 11 []) (.lst 2 []) (.lst 2 []))
    fun r => ∃ (q : Int) (zs' : List D) (a' : Int), r = (false, [.int .i64 q, .lst 1 b, .int .i64 a', .int .i64 0, .str [], .str [], .bool false, .int .i64 7, .str [102], .str [], .bool sg, .lst 6 [], .lst 6 [], .lst 5 [], .lst 11 [], .lst 11 [], .lst 2 [], .lst 2 [], .lst 6 es, .lst 6 [], .lst 5 [], .lst 11 zs', .lst 11 [], .lst 2 [], .lst 2 []]) ∧ zs'.length = zs.length + c ∧ (∀ x ∈ zs', xN funN x) ∧ Mk b a' := by
  intro c
  induction c with
  | zero =>
    intro zs a hl hz hm
    exact Ev.eq (fun n => ref09_MakeItem_L1_eq n _ _ _ _ _ _ _ _ _ _ _ _ _ _ _ _ _ _ _ _ _ _ _ _ _) (Ev.no rfl (Ev.ret ⟨_, zs, a, rfl, rfl, hz, hm⟩))
  | succ c ih =>
    intro zs a hl hz hm
    have hw : IntKind.i64.wrap (((c + 1 : Nat) : Int) - 1) = (c : Int) := by rw [wrap_id (by omega) (by omega)]; omega
    refine Ev.eq (fun n => ref09_MakeItem_L1_eq n _ _ _ _ _ _ _ _ _ _ _ _ _ _ _ _ _ _ _ _ _ _ _ _ _) (Ev.yes (decide_eq_true (by omega)) ?_)
    rw [hw]
    refine Ev.bindC (next_ev (k := 3) (by decide) (by decide) hm) ?_
    rintro _ _ ⟨v, a, h, hv0, hv1, hm⟩; cases h; refine ⟨rfl, ?_⟩
    have hv : v = 0 ∨ v = 1 ∨ v = 2 := by omega
    refine Ev.yes rfl ?_
    rcases hv with rfl | rfl | rfl
    all_goals
      refine Ev.yes rfl (Ev.yes rfl (Ev.bindC (xmakeNet_ev (T := funN) _ (.inl rfl) hm rfl) ?_))
      rintro _ _ ⟨x, a, h, hx, hm⟩; cases h; refine ⟨rfl, ?_⟩
      have hx0 := hx
      obtain ⟨nm1, ty1, sg1, es1, fs1, rfl⟩ := xN_form hx
      refine Ev.yes rfl (Ev.yes (Nat.ble_eq_true_of_le (by simp only [maxLst]; omega)) ?_)
      refine (ih _ a (by simp; omega) (snoc_in hz hx0) hm).mono fun r hr => ?_
      obtain ⟨q, zs', a', h1, h2, h3, h4⟩ := hr
      exact ⟨q, zs', a', h1, by rw [h2, List.length_append, List.length_singleton]; omega, h3, h4⟩
/-- The maker of items, one less deep. -/
def xSubI (d : Nat) (deep : Int) : Prop := ∀ (b : List D) (a c : Int), 0 ≤ c → c ≤ 3 → Mk b a → Ev (fun n => ref09_MakeItems n (.int .i64 (IntKind.i64.wrap (deep - 1))) (.int .i64 c) (.lst 1 b) (.int .i64 a))
  fun r => ∃ zs a', r = (true, [.lst 1 b, .int .i64 a', .lst 11 zs]) ∧ zs.length ≤ c.toNat ∧ (∀ x ∈ zs, xI d x) ∧ Mk b a'
end
end Go.Proofs.YtalibicpmfbieaaGreatDoor
