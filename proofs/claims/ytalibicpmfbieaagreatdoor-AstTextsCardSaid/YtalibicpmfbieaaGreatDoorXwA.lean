/- The words of statements, told exactly; the reference's words are these. -/
import Derived.Test.YtalibicpmfbieaaGreatDoorXtI
import Derived.Test.YtalibicpmfbieaaGreatDoorPxA
namespace Go.Proofs.YtalibicpmfbieaaGreatDoor
open Go.AE
set_option linter.unusedVariables false
set_option linter.unusedSimpArgs false
def beginT : List UInt8 := [98, 101, 103, 105, 110]
def endS : List UInt8 := [101, 110, 100]
def ifT : List UInt8 := [105, 102]
def elseT : List UInt8 := [101, 108, 115, 101]
def caseT : List UInt8 := [99, 97, 115, 101]
def ecaseT : List UInt8 := [101, 110, 100, 99, 97, 115, 101]
def defT : List UInt8 := [100, 101, 102, 97, 117, 108, 116]
def forT : List UInt8 := [102, 111, 114]
def asrT : List UInt8 := [97, 115, 115, 101, 114, 116]
def pW (e : D) : List Tk := [(3, [40])] ++ (wE 4 e ++ [(3, [41])])
def x0 (l : List D) : D := l[0]?.getD .top
def x1 (l : List D) : D := l[1]?.getD .top
def x2 (l : List D) : D := l[2]?.getD .top
def loopT (t : List UInt8) (es : List D) : List Tk :=
  [(1, forT), (3, [40]), (1, t), (3, [61])] ++ (wE 4 (x0 es) ++ ([(3, [59])] ++ (wE 4 (x1 es) ++ ([(3, [59]), (1, t), (3, [61])] ++ (wE 4 (x2 es) ++ [(3, [41])])))))
def stm (a : D) : D := .agg (a.cells.drop 1)
def armT (w : D → List Tk) (a : D) : List Tk := (bif (a.at_ 0).l.isEmpty then [(1, defT)] else []) ++ (lW (wE 4) (a.at_ 0).l ++ ([(3, [58])] ++ w (stm a)))
/-- The words of a statement, out of its parts' words. -/
def sW (w : D → List Tk) (k : Int) (t : List UInt8) (es bs zs : List D) : List Tk :=
  bif k == 1 then [(1, beginT)] ++ (bs.flatMap w ++ [(1, endS)])
  else bif k == 2 then wE 4 (x0 es) ++ ([(3, [61])] ++ (wE 4 (x1 es) ++ [(3, [59])]))
  else bif k == 3 then wE 4 (x0 es) ++ ([(3, [60, 61])] ++ (wE 4 (x1 es) ++ [(3, [59])]))
  else bif k == 4 then [(1, ifT)] ++ (pW (x0 es) ++ (w (x0 bs) ++ (bif ((x1 bs).at_ 0).i == 8 then [] else [(1, elseT)] ++ w (x1 bs))))
  else bif k == 5 then [(1, caseT)] ++ (pW (x0 es) ++ (zs.flatMap (armT w) ++ [(1, ecaseT)]))
  else bif k == 6 then loopT t es ++ w (x0 bs)
  else bif k == 7 then (bif t.isEmpty then [] else [(1, t), (3, [58])]) ++ ([(1, asrT)] ++ (pW (x0 es) ++ [(3, [59])]))
  else [(3, [59])]
def wS : Nat → D → List Tk
  | 0, _ => []
  | n + 1, x => sW (wS n) (x.at_ 0).i (x.at_ 1).s (x.at_ 2).l (x.at_ 3).l (x.at_ 4).l
theorem wS_S (n : Nat) (k : Int) (t : List UInt8) (es bs zs : List D) : wS (n + 1) (S k t es bs zs) = sW (wS n) k t es bs zs := rfl
theorem wE4_len {x : D} (h : wfE 4 x) : (wE 4 x).length ≤ 400 := wE_len 4 x h
theorem hE4 (x : D) (h : wfE 4 x) : Ev (fun n => ref09_ExprWords n x) fun r => r = (true, [.lst 1 (txt (wE 4 x))]) := exprWx 4 (by decide) x h
theorem exprR {x : D} (hx : wfE 4 x) : Ev (fun n => ref09_ExprWords n (expTy ty_iiiisl6 x)) fun r => r = (true, [.lst 1 (txt (wE 4 x))]) := exprX hE4 hx
theorem parenR {x : D} (hx : wfE 4 x) : Ev (fun n => ref09_paren n (expTy ty_iiiisl6 x)) fun r => r = (true, [.lst 1 (txt (pW x))]) := parenX (A := 400) (by decide) (fun x h => wE4_len h) hE4 hx
theorem listR {xs : List D} (hn : xs.length ≤ 100) (hx : ∀ x ∈ xs, wfE 4 x) : Ev (fun n => ref09_List n (.lst 6 xs)) fun r => r = (true, [.lst 1 (txt (lW (wE 4) xs))]) := listX (A := 400) (by decide) (fun x h => wE4_len h) hE4 hn hx
theorem okE4 {x : D} (h : wfE 4 x) : (notAny ty_iiiisl6 && okTy ty_iiiisl6 x) = true := okX h
theorem pW_len {x : D} (h : wfE 4 x) : (pW x).length ≤ 402 := by
  have := wE4_len h
  simp only [pW, List.length_append, List.length_cons, List.length_nil]; omega
def SL : Nat → Nat
  | 0 => 0
  | n + 1 => 4 * SL n + 6000
theorem flat_len {w : D → List Tk} {m : Nat} : ∀ {xs : List D}, (∀ x ∈ xs, (w x).length ≤ m) → (xs.flatMap w).length ≤ xs.length * m
  | [], _ => by simp
  | x :: xs, h => by
    have h1 := h x (List.mem_cons_self ..)
    have h2 := flat_len (xs := xs) fun y hy => h y (List.mem_cons_of_mem _ hy)
    simp only [List.flatMap_cons, List.length_append, List.length_cons, Nat.succ_mul]; omega
theorem loopT_len {t : List UInt8} {es : List D} (h : ∀ e ∈ es, wfE 4 e) (hl : es.length = 3) : (loopT t es).length ≤ 1210 := by
  match es, hl with
  | [a, b, c], _ =>
    have h1 := wE4_len (h a (by simp))
    have h2 := wE4_len (h b (by simp))
    have h3 := wE4_len (h c (by simp))
    show ([(1, forT), (3, [40]), (1, t), (3, [61])] ++ (wE 4 a ++ ([(3, [59])] ++ (wE 4 b ++ ([(3, [59]), (1, t), (3, [61])] ++ (wE 4 c ++ [(3, [41])]))))) : List Tk).length ≤ _
    simp only [List.length_append, List.length_cons, List.length_nil]; omega
theorem stm_of {es : List D} {s : D} {n : Nat} (h : wfS n s) : stm (arm es s) = s := by
  cases n with
  | zero => exact h.elim
  | succ n => obtain ⟨k, t, fs, bs, zs, rfl, _⟩ := h; rfl
theorem arm_0 (es : List D) (s : D) : ((arm es s).at_ 0).l = es := rfl
theorem armT_len {w : D → List Tk} {m n : Nat} (hw : ∀ x, wfS n x → (w x).length ≤ m) {a : D} (ha : wfA n a) : (armT w a).length ≤ m + 810 := by
  obtain ⟨es, s, rfl, hl, he, hs⟩ := ha
  have h1 := hw s hs
  have h2 := lW_len (w := wE 4) (A := 400) (xs := es) fun x hx => wE4_len (he x hx)
  have h3 : es.length * 401 ≤ 2 * 401 := Nat.mul_le_mul_right _ hl
  unfold armT
  rw [stm_of hs, arm_0]
  simp only [List.length_append, List.length_cons, List.length_nil]
  have : (bif es.isEmpty then [(1, defT)] else [] : List Tk).length ≤ 1 := by cases es.isEmpty <;> simp
  omega
theorem wS_len : ∀ (n : Nat) (x : D), wfS n x → (wS n x).length ≤ SL n
  | 0, _, h => h.elim
  | n + 1, x, h => by
    obtain ⟨k, t, es, bs, zs, rfl, he, hb, hz, hs⟩ := h
    have ih := wS_len n
    rw [wS_S]
    simp only [SL]
    rcases hs with ⟨rfl, rfl, rfl, hl, rfl⟩ | ⟨hk, rfl, ⟨l, e, rfl, _⟩, rfl, rfl⟩ | ⟨rfl, rfl, hl, ⟨b, c, rfl, _⟩, rfl⟩ | ⟨rfl, rfl, hl, rfl, hz1, hz2⟩ | ⟨rfl, rfl, hl, hl2, rfl⟩ | ⟨rfl, ht, hl, rfl, rfl⟩ | ⟨rfl, rfl, rfl, rfl, rfl⟩
    · have h1 := flat_len (w := wS n) (m := SL n) fun x hx => ih x (hb x hx)
      have h2 : bs.length * SL n ≤ 3 * SL n := Nat.mul_le_mul_right _ hl
      show ([(1, beginT)] ++ (bs.flatMap (wS n) ++ [(1, endS)]) : List Tk).length ≤ _
      simp only [List.length_append, List.length_cons, List.length_nil]; omega
    · have h1 := wE4_len (he l (by simp))
      have h2 := wE4_len (he e (by simp))
      rcases hk with rfl | rfl
      · show (wE 4 l ++ ([(3, [61])] ++ (wE 4 e ++ [(3, [59])])) : List Tk).length ≤ _
        simp only [List.length_append, List.length_cons, List.length_nil]; omega
      · show (wE 4 l ++ ([(3, [60, 61])] ++ (wE 4 e ++ [(3, [59])])) : List Tk).length ≤ _
        simp only [List.length_append, List.length_cons, List.length_nil]; omega
    · match es, hl, he with
      | [e], _, he =>
        have h1 := pW_len (he e (by simp))
        have h2 := ih b (hb b (by simp))
        have h3 := ih c (hb c (by simp))
        have h4 : (bif (c.at_ 0).i == 8 then [] else [(1, elseT)] ++ wS n c : List Tk).length ≤ SL n + 1 := by
          cases (c.at_ 0).i == 8
          · simp only [cond_false, List.length_append, List.length_cons, List.length_nil]; omega
          · simp
        show ([(1, ifT)] ++ (pW e ++ (wS n b ++ (bif (c.at_ 0).i == 8 then [] else [(1, elseT)] ++ wS n c))) : List Tk).length ≤ _
        simp only [List.length_append, List.length_cons, List.length_nil] at h4 ⊢; omega
    · match es, hl, he with
      | [e], _, he =>
        have h1 := pW_len (he e (by simp))
        have h2 := flat_len (w := armT (wS n)) (m := SL n + 810) (xs := zs) fun a ha => armT_len (n := n) (fun x hx => ih x hx) (hz a ha)
        have h3 : zs.length * (SL n + 810) ≤ 4 * (SL n + 810) := Nat.mul_le_mul_right _ hz2
        show ([(1, caseT)] ++ (pW e ++ (zs.flatMap (armT (wS n)) ++ [(1, ecaseT)])) : List Tk).length ≤ _
        simp only [List.length_append, List.length_cons, List.length_nil]; omega
    · have h1 := loopT_len (t := [105]) he hl
      match bs, hl2, hb with
      | [b], _, hb =>
        have h2 := ih b (hb b (by simp))
        show (loopT [105] es ++ wS n b).length ≤ _
        rw [List.length_append]; omega
    · match es, hl, he with
      | [e], _, he =>
        have h1 := pW_len (he e (by simp))
        have h2 : (bif t.isEmpty then [] else [(1, t), (3, [58])] : List Tk).length ≤ 2 := by cases t.isEmpty <;> simp
        show ((bif t.isEmpty then [] else [(1, t), (3, [58])]) ++ ([(1, asrT)] ++ (pW e ++ [(3, [59])])) : List Tk).length ≤ _
        simp only [List.length_append, List.length_cons, List.length_nil] at h2 ⊢; omega
    · show ([(3, [59])] : List Tk).length ≤ _
      simp
end Go.Proofs.YtalibicpmfbieaaGreatDoor
