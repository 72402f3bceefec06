/- The reference's words of expressions: they come, they are words, and they are few. -/
import Derived.Test.YtfadegfceobogaaTrI
namespace Go.Proofs.Ytfadegfceobogaa
open Go.AE
set_option linter.unusedVariables false
set_option linter.unusedSimpArgs false
def Str (ws : List D) : Prop := ∀ w ∈ ws, ∃ s, w = .str s
theorem Str_nil : Str [] ↔ True := ⟨fun _ => trivial, fun _ _ h => by cases h⟩
theorem Str_cons {s : List UInt8} {l : List D} : Str (.str s :: l) ↔ Str l := ⟨fun h x hx => h x (List.mem_cons_of_mem _ hx), fun h x hx => by
  rcases List.mem_cons.1 hx with rfl | hx
  · exact ⟨s, rfl⟩
  · exact h x hx⟩
theorem Str_app {l m : List D} : Str (l ++ m) ↔ Str l ∧ Str m := ⟨fun h => ⟨fun x hx => h x (List.mem_append_left _ hx), fun x hx => h x (List.mem_append_right _ hx)⟩, fun ⟨h, h'⟩ x hx => (List.mem_append.1 hx).elim (h x) (h' x)⟩
theorem nth_l {k : Nat} {ws : List D} : (nth [D.lst k ws] 0).l = ws := rfl
/-- Words, at most so many. -/
def Wd (B : Nat) (r : Bool × List D) : Prop := ∃ ws, r = (true, [.lst 1 ws]) ∧ ws.length ≤ B ∧ Str ws
theorem Wd.up {A B : Nat} (h : A ≤ B) {t : Nat → Out} (hw : Ev t (Wd A)) : Ev t (Wd B) := hw.mono fun _ ⟨ws, e, hl, hs⟩ => ⟨ws, e, Nat.le_trans hl h, hs⟩
theorem wdLoop {Q : Bool × List D → Prop} {xs : List D} {N m C : Nat} {T : Int → List D → Nat → Out} {acc0 : List D} (hn : xs.length ≤ N) (hN : N ≤ 1000)
    (step : ∀ (j : Nat) (acc : List D) (hj : j < xs.length), acc.length + m ≤ C → Str acc → (∀ acc', acc'.length ≤ acc.length + m → Str acc' → Ev (T (IntKind.i64.wrap ((j : Int) + 1)) acc') Q) → Ev (T (j : Int) acc) Q)
    (fin : ∀ acc, acc.length ≤ C → Str acc → Ev (T (xs.length : Int) acc) Q) (hC : acc0.length + N * m ≤ C) (h0 : Str acc0) : Ev (T 0 acc0) Q := by
  have aux : ∀ (q j : Nat) (acc : List D), xs.length - j = q → j ≤ xs.length → acc.length + q * m ≤ C → Str acc → Ev (T (j : Int) acc) Q := by
    intro q
    induction q with
    | zero =>
      intro j acc hq hj ha hs
      have : j = xs.length := by omega
      subst this
      exact fin acc (by omega) hs
    | succ q ih =>
      intro j acc hq hj ha hs
      rw [Nat.succ_mul] at ha
      refine step j acc (by omega) (by omega) hs fun acc' h1 h2 => ?_
      rw [wrap_succ (by omega)]
      exact ih (j + 1) acc' (by omega) (by omega) (by omega) h2
  exact aux xs.length 0 acc0 rfl (Nat.zero_le _) (Nat.le_trans (Nat.add_le_add_left (Nat.mul_le_mul_right m hn) _) hC) h0
theorem okE {d : Nat} {x : D} (h : wfE d x) : (notAny ty_iiiisl6 && okTy ty_iiiisl6 x) = true := by rw [(wfE_exp h).2]; rfl
theorem exprW' {d A : Nat} (hE : ∀ x, wfE d x → Ev (fun n => ref09_ExprWords n x) (Wd A)) {x : D} (hx : wfE d x) : Ev (fun n => ref09_ExprWords n (expTy ty_iiiisl6 x)) (Wd A) := by rw [(wfE_exp hx).1]; exact hE x hx
section
variable {d A : Nat} (hA : A ≤ 1000000) (hE : ∀ x, wfE d x → Ev (fun n => ref09_ExprWords n x) (Wd A))
include hA hE
theorem parenW {x : D} (hx : wfE d x) : Ev (fun n => ref09_paren n x) (Wd (A + 2)) := by
  have hx0 := hx
  cases d with
  | zero => exact hx.elim
  | succ d =>
    obtain ⟨k, t, xs, rfl, _⟩ := hx
    refine Ev.eq (fun n => ref09_paren_eq n k 0 0 0 t xs) ?_
    refine Ev.bindC (hE _ hx0) ?_
    (rintro _ _ ⟨ws, h, hl, hs⟩; cases h; refine ⟨rfl, Ev.yes rfl ?_⟩; try simp only [nth_l])
    refine Ev.yes (Nat.ble_eq_true_of_le (by simp only [List.length_append, List.length_cons, List.length_nil, maxLst]; omega)) ?_
    refine Ev.yes (Nat.ble_eq_true_of_le (by simp only [List.length_append, List.length_cons, List.length_nil, maxLst]; omega)) ?_
    exact Ev.ret ⟨_, rfl, by (try simp only [List.length_append, List.length_cons, List.length_nil]); omega, by simp [Str_app, Str_cons, Str_nil, *]⟩
theorem parenW' {x : D} (hx : wfE d x) : Ev (fun n => ref09_paren n (expTy ty_iiiisl6 x)) (Wd (A + 2)) := by rw [(wfE_exp hx).1]; exact parenW hA hE hx
theorem argW {x : D} (hx : wfE d x) : Ev (fun n => ref09_arg n (expTy ty_iiiisl6 x)) (Wd (A + 2)) := by
  rw [(wfE_exp hx).1]
  have hx0 := hx
  cases d with
  | zero => exact hx.elim
  | succ d =>
    obtain ⟨k, t, xs, rfl, _⟩ := hx
    have J : ∀ g, Ev (fun n => ref09_arg_j1 n g k 0 0 0 t xs) (Wd (A + 2)) := by
      intro g
      refine evDf (fun n => ref09_arg_j1_def n _ _ _ _ _ _ _) ?_
      cases g with
      | true =>
        refine Ev.yes rfl (Ev.bindC (parenW hA hE hx0) ?_)
        (rintro _ _ ⟨ws, h, hl, hs⟩; cases h; refine ⟨rfl, Ev.yes rfl ?_⟩; try simp only [nth_l])
        exact Ev.ret ⟨_, rfl, by (try simp only [List.length_append, List.length_cons, List.length_nil]); omega, by simp [Str_app, Str_cons, Str_nil, *]⟩
      | false =>
        refine Ev.no rfl (Ev.bindC (hE _ hx0) ?_)
        (rintro _ _ ⟨ws, h, hl, hs⟩; cases h; refine ⟨rfl, Ev.yes rfl ?_⟩; try simp only [nth_l])
        exact Ev.ret ⟨_, rfl, by (try simp only [List.length_append, List.length_cons, List.length_nil]); omega, by simp [Str_app, Str_cons, Str_nil, *]⟩
    exact Ev.eq (fun n => ref09_arg_eq n k 0 0 0 t xs) (Ev.test (fun _ => J _) fun _ => Ev.test (fun _ => J _) fun _ => J _)
theorem listW {xs : List D} {N : Nat} (hn : xs.length ≤ N) (hN : N ≤ 100) (hx : ∀ x ∈ xs, wfE d x) : Ev (fun n => ref09_List n (.lst 6 xs)) (Wd (N * (A + 1))) := by
  refine Ev.eq (fun n => ref09_List_eq n xs) ?_
  have hb : N * (A + 1) ≤ 100 * (A + 1) := Nat.mul_le_mul_right _ hN
  refine Ev.bindL (Q := fun r => ∃ q acc, r = (false, [.lst 6 xs, .int .i64 q, .lst 1 acc]) ∧ acc.length ≤ N * (A + 1) ∧ Str acc) ?_ (fun ds h => by obtain ⟨_, _, h, _⟩ := h; cases h) fun ds h => ?_
  · refine wdLoop (xs := xs) (N := N) (m := A + 1) (C := N * (A + 1)) (T := fun j acc n => ref09_List_L0 n (.lst 6 xs) (.int .i64 j) (.lst 1 acc)) hn (by omega) (fun j acc hj hl hs K => ?_) (fun acc hl hs => ?_) (by simp) (Str_nil.2 trivial)
    · refine Ev.eq (fun n => ref09_List_L0_eq n xs _ _) (Ev.yes (decide_eq_true (by omega)) ?_)
      have hw := hx xs[j] (List.getElem_mem hj)
      have hw1 := exprW' hE hw
      have hok := okE hw
      refine Ev.test (fun _ => ?_) fun _ => ?_
      · refine Ev.yes (Nat.ble_eq_true_of_le (by simp only [List.length_append, List.length_cons, List.length_nil, maxLst]; omega)) ?_
        refine Ev.yes (in_range hj) ?_
        rw [get_nat hj]
        refine Ev.yes hok (Ev.bindC hw1 ?_)
        (rintro _ _ ⟨ws, h, hl, hs⟩; cases h; refine ⟨rfl, Ev.yes rfl ?_⟩; try simp only [nth_l])
        refine Ev.yes (Nat.ble_eq_true_of_le (by simp only [List.length_append, List.length_cons, List.length_nil, maxLst]; omega)) ?_
        exact K _ (by simp only [List.length_append, List.length_cons, List.length_nil]; omega) (by simp [Str_app, Str_cons, Str_nil, *])
      · refine Ev.yes (in_range hj) ?_
        rw [get_nat hj]
        refine Ev.yes hok (Ev.bindC hw1 ?_)
        (rintro _ _ ⟨ws, h, hl, hs⟩; cases h; refine ⟨rfl, Ev.yes rfl ?_⟩; try simp only [nth_l])
        refine Ev.yes (Nat.ble_eq_true_of_le (by simp only [List.length_append, List.length_cons, List.length_nil, maxLst]; omega)) ?_
        exact K _ (by simp only [List.length_append]; omega) (by simp [Str_app, *])
    · exact Ev.eq (fun n => ref09_List_L0_eq n xs _ _) (Ev.no (decide_eq_false (by omega)) (Ev.ret ⟨_, acc, rfl, hl, hs⟩))
  · obtain ⟨q, acc, h, hl, hs⟩ := h
    cases h
    exact Ev.yes rfl (Ev.ret ⟨acc, rfl, hl, hs⟩)
theorem boundsW {xs : List D} (hx : ∀ x ∈ xs, wfE d x) : Ev (fun n => ref09_bounds n (.lst 6 xs)) (Wd (2 * A + 3)) := by
  refine Ev.eq (fun n => ref09_bounds_eq n xs) ?_
  match xs, hx with
  | [], _ => exact Ev.yes rfl (Ev.ret ⟨[], rfl, by simp, Str_nil.2 trivial⟩)
  | [x], hx =>
    have h1 := hx x (by simp)
    refine Ev.no rfl (Ev.yes rfl (Ev.yes (okE h1) (Ev.bindC (exprW' hE h1) ?_)))
    (rintro _ _ ⟨ws, h, hl, hs⟩; cases h; refine ⟨rfl, Ev.yes rfl ?_⟩; try simp only [nth_l])
    refine Ev.yes (Nat.ble_eq_true_of_le (by simp only [List.length_append, List.length_cons, List.length_nil, maxLst]; omega)) ?_
    refine Ev.no rfl ?_
    refine Ev.yes (Nat.ble_eq_true_of_le (by simp only [List.length_append, List.length_cons, List.length_nil, maxLst]; omega)) ?_
    exact Ev.ret ⟨_, rfl, by (try simp only [List.length_append, List.length_cons, List.length_nil]); omega, by simp [Str_app, Str_cons, Str_nil, *]⟩
  | x :: y :: rest, hx =>
    have h1 := hx x (by simp)
    have h2 := hx y (by simp)
    refine Ev.no (by first | (simp; done) | (simp; omega)) (Ev.yes (by first | (simp; done) | (simp; omega)) (Ev.yes (okE h1) (Ev.bindC (exprW' hE h1) ?_)))
    (rintro _ _ ⟨ws, h, hl, hs⟩; cases h; refine ⟨rfl, Ev.yes rfl ?_⟩; try simp only [nth_l])
    refine Ev.yes (Nat.ble_eq_true_of_le (by simp only [List.length_append, List.length_cons, List.length_nil, maxLst]; omega)) ?_
    refine Ev.yes (by first | (simp; done) | (simp; omega)) ?_
    refine Ev.yes (Nat.ble_eq_true_of_le (by simp only [List.length_append, List.length_cons, List.length_nil, maxLst]; omega)) ?_
    refine Ev.yes (by first | (simp; done) | (simp; omega)) (Ev.yes (okE h2) (Ev.bindC (exprW' hE h2) ?_))
    (rintro _ _ ⟨ws, h, hl, hs⟩; cases h; refine ⟨rfl, Ev.yes rfl ?_⟩; try simp only [nth_l])
    refine Ev.yes (Nat.ble_eq_true_of_le (by simp only [List.length_append, List.length_cons, List.length_nil, maxLst]; omega)) ?_
    refine Ev.yes (Nat.ble_eq_true_of_le (by simp only [List.length_append, List.length_cons, List.length_nil, maxLst]; omega)) ?_
    exact Ev.ret ⟨_, rfl, by (try simp only [List.length_append, List.length_cons, List.length_nil]); omega, by simp [Str_app, Str_cons, Str_nil, *]⟩
end
def EW : Nat → Nat
  | 0 => 0
  | n + 1 => 3 * EW n + 10
theorem exprW : ∀ (d : Nat), EW d ≤ 1000000 → ∀ x, wfE d x → Ev (fun n => ref09_ExprWords n x) (Wd (EW d)) := by
  intro d
  induction d with
  | zero => intro _ x h; exact h.elim
  | succ d ih =>
    intro hd x hx
    have hA : EW d ≤ 1000000 := by simp only [EW] at hd; omega
    have hE := ih hA
    obtain ⟨k, t, xs, rfl, hs, ha⟩ := hx
    simp only [EW] at hd ⊢
    refine Ev.eq (fun n => ref09_ExprWords_eq n k 0 0 0 t xs) ?_
    have flat : ∀ k, (k == 3) = false → (k == 4) = false → (k == 5) = false → (k == 6) = false → (k == 7) = false → (k == 8) = false → (k == 9) = false → (k == 10) = false → True := fun _ _ _ _ _ _ _ _ _ => trivial
    rcases hs with ⟨rfl, _, hm⟩ | ⟨rfl, _, hm⟩ | ⟨rfl, _, hm⟩ | ⟨rfl, _, hm⟩ | ⟨rfl, _, hm⟩ | ⟨rfl, _, hm, hm2⟩ | ⟨rfl, _, hm, hm2⟩ | ⟨rfl, _, hm⟩ | ⟨rfl, _, hm⟩ | ⟨rfl, _, hm, hm2⟩
    · refine Ev.no rfl (Ev.no rfl (Ev.no rfl (Ev.no rfl (Ev.no rfl (Ev.no rfl (evDf (fun n => ref09_ExprWords_j1_def n _ _ _ _) (Ev.no rfl (Ev.no rfl ?_))))))))
      exact Ev.ret ⟨_, rfl, by (try simp only [List.length_append, List.length_cons, List.length_nil]); omega, by simp [Str_app, Str_cons, Str_nil, *]⟩
    · refine Ev.no rfl (Ev.no rfl (Ev.no rfl (Ev.no rfl (Ev.no rfl (Ev.no rfl (evDf (fun n => ref09_ExprWords_j1_def n _ _ _ _) (Ev.no rfl (Ev.no rfl ?_))))))))
      exact Ev.ret ⟨_, rfl, by (try simp only [List.length_append, List.length_cons, List.length_nil]); omega, by simp [Str_app, Str_cons, Str_nil, *]⟩
    · match xs, hm, ha with
      | [x], _, ha =>
        have h1 := ha x (by simp)
        refine Ev.yes rfl (Ev.yes rfl (Ev.yes (okE h1) (Ev.bindC (argW hA hE h1) ?_)))
        (rintro _ _ ⟨ws, h, hl, hs⟩; cases h; refine ⟨rfl, Ev.yes rfl ?_⟩; try simp only [nth_l])
        refine Ev.yes (Nat.ble_eq_true_of_le (by simp only [List.length_append, List.length_cons, List.length_nil, maxLst]; omega)) ?_
        exact Ev.ret ⟨_, rfl, by (try simp only [List.length_append, List.length_cons, List.length_nil]); omega, by simp [Str_app, Str_cons, Str_nil, *]⟩
    · match xs, hm, ha with
      | [x, y], _, ha =>
        have h1 := ha x (by simp)
        have h2 := ha y (by simp)
        refine Ev.no rfl (Ev.yes rfl (Ev.yes rfl (Ev.yes (okE h1) (Ev.bindC (argW hA hE h1) ?_))))
        (rintro _ _ ⟨ws, h, hl, hs⟩; cases h; refine ⟨rfl, Ev.yes rfl ?_⟩; try simp only [nth_l])
        refine Ev.yes (Nat.ble_eq_true_of_le (by simp only [List.length_append, List.length_cons, List.length_nil, maxLst]; omega)) ?_
        refine Ev.yes rfl (Ev.yes (okE h2) (Ev.bindC (argW hA hE h2) ?_))
        (rintro _ _ ⟨ws, h, hl, hs⟩; cases h; refine ⟨rfl, Ev.yes rfl ?_⟩; try simp only [nth_l])
        refine Ev.yes (Nat.ble_eq_true_of_le (by simp only [List.length_append, List.length_cons, List.length_nil, maxLst]; omega)) ?_
        exact Ev.ret ⟨_, rfl, by (try simp only [List.length_append, List.length_cons, List.length_nil]); omega, by simp [Str_app, Str_cons, Str_nil, *]⟩
    · match xs, hm, ha with
      | [x, y, z], _, ha =>
        have h1 := ha x (by simp)
        have h2 := ha y (by simp)
        have h3 := ha z (by simp)
        refine Ev.no rfl (Ev.no rfl (Ev.yes rfl (Ev.yes rfl (Ev.yes (okE h1) (Ev.bindC (argW hA hE h1) ?_)))))
        (rintro _ _ ⟨ws, h, hl, hs⟩; cases h; refine ⟨rfl, Ev.yes rfl ?_⟩; try simp only [nth_l])
        refine Ev.yes (Nat.ble_eq_true_of_le (by simp only [List.length_append, List.length_cons, List.length_nil, maxLst]; omega)) ?_
        refine Ev.yes rfl (Ev.yes (okE h2) (Ev.bindC (argW hA hE h2) ?_))
        (rintro _ _ ⟨ws, h, hl, hs⟩; cases h; refine ⟨rfl, Ev.yes rfl ?_⟩; try simp only [nth_l])
        refine Ev.yes (Nat.ble_eq_true_of_le (by simp only [List.length_append, List.length_cons, List.length_nil, maxLst]; omega)) ?_
        refine Ev.yes (Nat.ble_eq_true_of_le (by simp only [List.length_append, List.length_cons, List.length_nil, maxLst]; omega)) ?_
        refine Ev.yes rfl (Ev.yes (okE h3) (Ev.bindC (argW hA hE h3) ?_))
        (rintro _ _ ⟨ws, h, hl, hs⟩; cases h; refine ⟨rfl, Ev.yes rfl ?_⟩; try simp only [nth_l])
        refine Ev.yes (Nat.ble_eq_true_of_le (by simp only [List.length_append, List.length_cons, List.length_nil, maxLst]; omega)) ?_
        exact Ev.ret ⟨_, rfl, by (try simp only [List.length_append, List.length_cons, List.length_nil]); omega, by simp [Str_app, Str_cons, Str_nil, *]⟩
    · refine Ev.no rfl (Ev.no rfl (Ev.no rfl (Ev.yes rfl (Ev.bindC (listW hA hE (N := 3) hm2 (by decide) ha) ?_))))
      (rintro _ _ ⟨ws, h, hl, hs⟩; cases h; refine ⟨rfl, Ev.yes rfl ?_⟩; try simp only [nth_l])
      refine Ev.yes (Nat.ble_eq_true_of_le (by simp only [List.length_append, List.length_cons, List.length_nil, maxLst]; omega)) ?_
      refine Ev.yes (Nat.ble_eq_true_of_le (by simp only [List.length_append, List.length_cons, List.length_nil, maxLst]; omega)) ?_
      exact Ev.ret ⟨_, rfl, by (try simp only [List.length_append, List.length_cons, List.length_nil]); omega, by simp [Str_app, Str_cons, Str_nil, *]⟩
    · match xs, hm, hm2, ha with
      | x :: rest, hm, hm2, ha =>
        have h1 := ha x (by simp)
        refine Ev.no rfl (Ev.no rfl (Ev.no rfl (Ev.no rfl (Ev.yes rfl (Ev.yes (by first | (simp; done) | (simp; omega)) (Ev.yes (okE h1) (Ev.bindC (exprW' hE h1) ?_)))))))
        (rintro _ _ ⟨ws, h, hl, hs⟩; cases h; refine ⟨rfl, Ev.yes rfl ?_⟩; try simp only [nth_l])
        refine Ev.yes (Nat.ble_eq_true_of_le (by simp only [List.length_append, List.length_cons, List.length_nil, maxLst]; omega)) ?_
        refine Ev.yes (Nat.ble_eq_true_of_le (by simp only [List.length_append, List.length_cons, List.length_nil, maxLst]; omega)) ?_
        refine Ev.yes (by first | (simp; done) | (simp; omega)) (Ev.bindC (listW hA hE (N := 2) (by simp at hm2 ⊢; omega) (by decide) fun e h => ha e (List.mem_of_mem_drop (List.mem_of_mem_take h))) ?_)
        (rintro _ _ ⟨ws, h, hl, hs⟩; cases h; refine ⟨rfl, Ev.yes rfl ?_⟩; try simp only [nth_l])
        refine Ev.yes (Nat.ble_eq_true_of_le (by simp only [List.length_append, List.length_cons, List.length_nil, maxLst]; omega)) ?_
        refine Ev.yes (Nat.ble_eq_true_of_le (by simp only [List.length_append, List.length_cons, List.length_nil, maxLst]; omega)) ?_
        exact Ev.ret ⟨_, rfl, by (try simp only [List.length_append, List.length_cons, List.length_nil]); omega, by simp [Str_app, Str_cons, Str_nil, *]⟩
    · refine Ev.no rfl (Ev.no rfl (Ev.no rfl (Ev.no rfl (Ev.no rfl (Ev.yes rfl (evDf (fun n => ref09_ExprWords_j1_def n _ _ _ _) (Ev.yes rfl (Ev.bindC (boundsW hA hE ha) ?_))))))))
      (rintro _ _ ⟨ws, h, hl, hs⟩; cases h; refine ⟨rfl, Ev.yes rfl ?_⟩; try simp only [nth_l])
      refine Ev.yes (Nat.ble_eq_true_of_le (by simp only [List.length_append, List.length_cons, List.length_nil, maxLst]; omega)) ?_
      exact Ev.ret ⟨_, rfl, by (try simp only [List.length_append, List.length_cons, List.length_nil]); omega, by simp [Str_app, Str_cons, Str_nil, *]⟩
    · refine Ev.no rfl (Ev.no rfl (Ev.no rfl (Ev.no rfl (Ev.no rfl (Ev.no rfl (evDf (fun n => ref09_ExprWords_j1_def n _ _ _ _) (Ev.yes rfl (Ev.bindC (boundsW hA hE ha) ?_))))))))
      (rintro _ _ ⟨ws, h, hl, hs⟩; cases h; refine ⟨rfl, Ev.yes rfl ?_⟩; try simp only [nth_l])
      refine Ev.yes (Nat.ble_eq_true_of_le (by simp only [List.length_append, List.length_cons, List.length_nil, maxLst]; omega)) ?_
      exact Ev.ret ⟨_, rfl, by (try simp only [List.length_append, List.length_cons, List.length_nil]); omega, by simp [Str_app, Str_cons, Str_nil, *]⟩
    · refine Ev.no rfl (Ev.no rfl (Ev.no rfl (Ev.no rfl (Ev.no rfl (Ev.no rfl (evDf (fun n => ref09_ExprWords_j1_def n _ _ _ _) (Ev.no rfl (Ev.yes rfl (Ev.bindC (listW hA hE (N := 2) hm2 (by decide) ha) ?_)))))))))
      (rintro _ _ ⟨ws, h, hl, hs⟩; cases h; refine ⟨rfl, Ev.yes rfl ?_⟩; try simp only [nth_l])
      refine Ev.yes (Nat.ble_eq_true_of_le (by simp only [List.length_append, List.length_cons, List.length_nil, maxLst]; omega)) ?_
      refine Ev.yes (Nat.ble_eq_true_of_le (by simp only [List.length_append, List.length_cons, List.length_nil, maxLst]; omega)) ?_
      exact Ev.ret ⟨_, rfl, by (try simp only [List.length_append, List.length_cons, List.length_nil]); omega, by simp [Str_app, Str_cons, Str_nil, *]⟩
theorem ew4 : ∀ x, wfE 4 x → Ev (fun n => ref09_ExprWords n x) (Wd 400) := exprW 4 (by decide)
/-- A loop's head. -/
theorem loopW {nm : List UInt8} {xs : List D} (hl : 3 ≤ xs.length) (h : ∀ x ∈ xs, wfE 4 x) : Ev (fun n => ref09_loop n (.str nm) (.lst 6 xs)) (Wd 1300) := by
  refine Ev.eq (fun n => ref09_loop_eq n nm xs) ?_
  match xs, hl, h with
  | x :: y :: z :: rest, _, ha =>
    have h1 := ha x (by simp)
    have h2 := ha y (by simp)
    have h3 := ha z (by simp)
    refine Ev.yes (by first | (simp; done) | (simp; omega)) (Ev.yes (okE h1) (Ev.bindC (exprW' ew4 h1) ?_))
    (rintro _ _ ⟨ws, h, hl, hs⟩; cases h; refine ⟨rfl, Ev.yes rfl ?_⟩; try simp only [nth_l])
    refine Ev.yes (Nat.ble_eq_true_of_le (by simp only [List.length_append, List.length_cons, List.length_nil, maxLst]; omega)) ?_
    refine Ev.yes (Nat.ble_eq_true_of_le (by simp only [List.length_append, List.length_cons, List.length_nil, maxLst]; omega)) ?_
    refine Ev.yes (by first | (simp; done) | (simp; omega)) (Ev.yes (okE h2) (Ev.bindC (exprW' ew4 h2) ?_))
    (rintro _ _ ⟨ws, h, hl, hs⟩; cases h; refine ⟨rfl, Ev.yes rfl ?_⟩; try simp only [nth_l])
    refine Ev.yes (Nat.ble_eq_true_of_le (by simp only [List.length_append, List.length_cons, List.length_nil, maxLst]; omega)) ?_
    refine Ev.yes (Nat.ble_eq_true_of_le (by simp only [List.length_append, List.length_cons, List.length_nil, maxLst]; omega)) ?_
    refine Ev.yes (by first | (simp; done) | (simp; omega)) (Ev.yes (okE h3) (Ev.bindC (exprW' ew4 h3) ?_))
    (rintro _ _ ⟨ws, h, hl, hs⟩; cases h; refine ⟨rfl, Ev.yes rfl ?_⟩; try simp only [nth_l])
    refine Ev.yes (Nat.ble_eq_true_of_le (by simp only [List.length_append, List.length_cons, List.length_nil, maxLst]; omega)) ?_
    refine Ev.yes (Nat.ble_eq_true_of_le (by simp only [List.length_append, List.length_cons, List.length_nil, maxLst]; omega)) ?_
    exact Ev.ret ⟨_, rfl, by (try simp only [List.length_append, List.length_cons, List.length_nil]); omega, by simp [Str_app, Str_cons, Str_nil, *]⟩
end Go.Proofs.Ytfadegfceobogaa
