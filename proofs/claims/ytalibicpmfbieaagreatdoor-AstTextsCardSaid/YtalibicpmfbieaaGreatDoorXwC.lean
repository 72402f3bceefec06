/- The words of items and modules, told exactly; the reference's words are these. -/
import Derived.Test.YtalibicpmfbieaaGreatDoorXwB
namespace Go.Proofs.YtalibicpmfbieaaGreatDoor
open Go.AE
set_option linter.unusedVariables false
set_option linter.unusedSimpArgs false
def sgnT : List UInt8 := [115, 105, 103, 110, 101, 100]
def genT : List UInt8 := [103, 101, 110, 118, 97, 114]
def assT' : List UInt8 := [97, 115, 115, 105, 103, 110]
def alwT : List UInt8 := [97, 108, 119, 97, 121, 115]
def posT : List UInt8 := [112, 111, 115, 101, 100, 103, 101]
def funT : List UInt8 := [102, 117, 110, 99, 116, 105, 111, 110]
def efunT : List UInt8 := [101, 110, 100, 102, 117, 110, 99, 116, 105, 111, 110]
def modT' : List UInt8 := [109, 111, 100, 117, 108, 101]
def emodT : List UInt8 := [101, 110, 100, 109, 111, 100, 117, 108, 101]
def boW (es : List D) : List Tk := match es with
  | [] => []
  | [x] => [(3, [91])] ++ (wE 4 x ++ [(3, [93])])
  | x :: y :: _ => [(3, [91])] ++ (wE 4 x ++ ([(3, [58])] ++ (wE 4 y ++ [(3, [93])])))
def nW (nm ty : List UInt8) (sg : Bool) (es fs : List D) : List Tk :=
  (bif ty == oregT then [(1, outT), (1, regT)] else [(1, ty)]) ++ ((bif sg && !(ty == intT) then [(1, sgnT)] else []) ++ (boW (es.take 2) ++ ([(1, nm)] ++ (boW (es.drop 2) ++ (bif fs.isEmpty then [] else [(3, [61])] ++ wE 4 (x0 fs))))))
def cW (c : D) : List Tk := [(3, [46]), (1, (c.at_ 0).s), (3, [40])] ++ (lW (wE 4) (c.at_ 1).l ++ [(3, [41])])
def csW (xs : List D) : List Tk := [(3, [40])] ++ (lW cW xs ++ [(3, [41])])
def blW (w : D → List Tk) (g : D) : List Tk := [(1, beginT), (3, [58]), (1, (g.at_ 1).s)] ++ ((g.at_ 7).l.flatMap w ++ [(1, endS)])
def nIW (q : D) : List Tk := nW (q.at_ 1).s (q.at_ 2).s (q.at_ 3).b (q.at_ 4).l (q.at_ 5).l ++ [(3, [59])]
/-- The words of an item, out of its items' words. -/
def iW (w : D → List Tk) (k : Int) (nm ty : List UInt8) (sg : Bool) (es fs bs its els ps qs : List D) : List Tk :=
  bif k == 1 then nW nm ty sg es fs ++ [(3, [59])]
  else bif k == 2 then [(1, ty), (1, nm), (3, [61])] ++ (wE 4 (x0 es) ++ [(3, [59])])
  else bif k == 3 then [(1, genT), (1, nm), (3, [59])]
  else bif k == 4 then [(1, assT')] ++ (wE 4 (x0 es) ++ ([(3, [61])] ++ (wE 4 (x1 es) ++ [(3, [59])])))
  else bif k == 5 then [(1, alwT), (3, [64]), (3, [42])] ++ wS 4 (x0 bs)
  else bif k == 6 then [(1, alwT), (3, [64]), (3, [40]), (1, posT), (1, nm), (3, [41])] ++ wS 4 (x0 bs)
  else bif k == 7 then [(1, funT)] ++ ((bif sg then [(1, sgnT)] else []) ++ (boW es ++ ([(1, nm), (3, [59])] ++ (its.flatMap nIW ++ (wS 4 (x0 bs) ++ [(1, efunT)])))))
  else bif k == 8 then [(1, ty)] ++ ((bif ps.isEmpty then [] else [(3, [35])] ++ csW ps) ++ ([(1, nm)] ++ (csW qs ++ [(3, [59])])))
  else bif k == 9 then loopT nm es ++ its.flatMap (blW w)
  else [(1, ifT)] ++ (pW (x0 es) ++ (its.flatMap (blW w) ++ (bif els.isEmpty then [] else [(1, elseT)] ++ els.flatMap (blW w))))
def wI : Nat → D → List Tk
  | 0, _ => []
  | n + 1, x => iW (wI n) (x.at_ 0).i (x.at_ 1).s (x.at_ 2).s (x.at_ 3).b (x.at_ 4).l (x.at_ 5).l (x.at_ 6).l (x.at_ 7).l (x.at_ 8).l (x.at_ 9).l (x.at_ 10).l
def paW (p : D) : List Tk := [(1, (p.at_ 2).s), (1, (p.at_ 1).s), (3, [61])] ++ wE 4 (x0 (p.at_ 4).l)
def poW (q : D) : List Tk := nW (q.at_ 1).s (q.at_ 2).s (q.at_ 3).b (q.at_ 4).l (q.at_ 5).l
def mW (nm : List UInt8) (ps qs its : List D) : List Tk :=
  [(1, modT'), (1, nm)] ++ ((bif ps.isEmpty then [] else [(3, [35]), (3, [40])] ++ (lW paW ps ++ [(3, [41])])) ++ ([(3, [40])] ++ (lW poW qs ++ ([(3, [41]), (3, [59])] ++ (its.flatMap (wI 4) ++ [(1, emodT)])))))
def wM (x : D) : List Tk := mW (x.at_ 0).s (x.at_ 1).l (x.at_ 2).l (x.at_ 3).l
theorem wM_M (nm : List UInt8) (ps qs its : List D) : wM (M nm ps qs its) = mW nm ps qs its := rfl
/-! How many. -/
theorem lW_snoc (w : D → List Tk) (x : D) : ∀ l : List D, lW w (l ++ [x]) = lW w l ++ ((bif l.isEmpty then [] else [(3, [44])]) ++ w x)
  | [] => rfl
  | [y] => by
    show w y ++ ((3, [44]) :: w x) = w y ++ ([(3, [44])] ++ w x)
    rfl
  | y :: z :: r => by
    have ih := lW_snoc w x (z :: r)
    show w y ++ ((3, [44]) :: lW w ((z :: r) ++ [x])) = (w y ++ ((3, [44]) :: lW w (z :: r))) ++ ([(3, [44])] ++ w x)
    rw [ih]
    simp
theorem commaLoop {Q : Bool × List D → Prop} {xs : List D} {w : D → List Tk} {m C : Nat} {T : Int → List D → Nat → Out} {acc0 : List D} (hn : xs.length ≤ 1000) (hw : ∀ x ∈ xs, (w x).length ≤ m) (hC : acc0.length + xs.length * (m + 1) ≤ C)
    (step : ∀ (j : Nat) (acc : List D) (hj : j < xs.length), acc.length + (m + 1) ≤ C → Ev (T (IntKind.i64.wrap ((j : Int) + 1)) (acc ++ txt ((bif j == 0 then [] else [(3, [44])]) ++ w xs[j]))) Q → Ev (T (j : Int) acc) Q)
    (fin : Ev (T (xs.length : Int) (acc0 ++ txt (lW w xs))) Q) : Ev (T 0 acc0) Q := by
  have aux : ∀ (q j : Nat) (acc : List D), xs.length - j = q → j ≤ xs.length → acc = acc0 ++ txt (lW w (xs.take j)) → Ev (T (j : Int) acc) Q := by
    intro q
    induction q with
    | zero =>
      intro j acc hq hj ha
      have : j = xs.length := by omega
      subst this
      rw [ha, List.take_length]
      exact fin
    | succ q ih =>
      intro j acc hq hj ha
      have hlt : j < xs.length := by omega
      have hf := lW_len (w := w) (A := m) (xs := xs.take j) fun x hx => hw x (List.mem_of_mem_take hx)
      rw [List.length_take, Nat.min_eq_left hj] at hf
      have hle : (j + 1) * (m + 1) ≤ xs.length * (m + 1) := Nat.mul_le_mul_right _ hlt
      rw [Nat.succ_mul] at hle
      refine step j acc hlt (by rw [ha, List.length_append, txt_len]; omega) ?_
      rw [wrap_succ (by omega)]
      refine ih (j + 1) _ (by omega) (by omega) ?_
      have e0 : (xs.take j).isEmpty = (j == 0) := by
        cases j with
        | zero => rfl
        | succ j =>
          cases xs with
          | nil => simp at hlt
          | cons y r => rfl
      rw [ha, List.append_assoc, ← txt_app, List.take_add_one, List.getElem?_eq_getElem hlt, Option.toList_some, lW_snoc, e0]
  exact aux xs.length 0 acc0 rfl (Nat.zero_le _) (by simp [txt, lW])
theorem boW_len {es : List D} (h : ∀ e ∈ es, wfE 4 e) : (boW es).length ≤ 803 := by
  match es, h with
  | [], _ => exact Nat.zero_le _
  | [x], h =>
    have h1 := wE4_len (h x (by simp))
    show ([(3, [91])] ++ (wE 4 x ++ [(3, [93])]) : List Tk).length ≤ _
    simp only [List.length_append, List.length_cons, List.length_nil]; omega
  | x :: y :: r, h =>
    have h1 := wE4_len (h x (by simp))
    have h2 := wE4_len (h y (by simp))
    show ([(3, [91])] ++ (wE 4 x ++ ([(3, [58])] ++ (wE 4 y ++ [(3, [93])]))) : List Tk).length ≤ _
    simp only [List.length_append, List.length_cons, List.length_nil]; omega
theorem nW_len {nm ty : List UInt8} {sg : Bool} {es fs : List D} (he : ∀ e ∈ es, wfE 4 e) (hf : ∀ e ∈ fs, wfE 4 e) : (nW nm ty sg es fs).length ≤ 2100 := by
  have h1 := boW_len (es := es.take 2) fun e h => he e (List.mem_of_mem_take h)
  have h2 := boW_len (es := es.drop 2) fun e h => he e (List.mem_of_mem_drop h)
  have h3 : (bif ty == oregT then [(1, outT), (1, regT)] else [(1, ty)] : List Tk).length ≤ 2 := by cases ty == oregT <;> simp
  have h4 : (bif sg && !(ty == intT) then [(1, sgnT)] else [] : List Tk).length ≤ 1 := by cases sg && !(ty == intT) <;> simp
  have h5 : (bif fs.isEmpty then [] else [(3, [61])] ++ wE 4 (x0 fs) : List Tk).length ≤ 401 := by
    match fs, hf with
    | [], _ => exact Nat.zero_le _
    | x :: r, hf =>
      have := wE4_len (hf x (by simp))
      show ([(3, [61])] ++ wE 4 x : List Tk).length ≤ _
      simp only [List.length_append, List.length_cons, List.length_nil]; omega
  unfold nW
  simp only [List.length_append, List.length_cons, List.length_nil] at h5 ⊢; omega
theorem cW_len {c : D} (h : xC c) : (cW c).length ≤ 410 := by
  obtain ⟨nm, es, rfl, _, hl, he⟩ := h
  have h2 := lW_len (w := wE 4) (A := 400) (xs := es) fun x hx => wE4_len (he x hx)
  have h3 : es.length * 401 ≤ 1 * 401 := Nat.mul_le_mul_right _ hl
  show ([(3, [46]), (1, nm), (3, [40])] ++ (lW (wE 4) es ++ [(3, [41])]) : List Tk).length ≤ _
  simp only [List.length_append, List.length_cons, List.length_nil]; omega
theorem csW_len {xs : List D} (hl : xs.length ≤ 2) (h : ∀ c ∈ xs, xC c) : (csW xs).length ≤ 830 := by
  have h2 := lW_len (w := cW) (A := 410) (xs := xs) fun x hx => cW_len (h x hx)
  have h3 : xs.length * 411 ≤ 2 * 411 := Nat.mul_le_mul_right _ hl
  unfold csW
  simp only [List.length_append, List.length_cons, List.length_nil]; omega
def IL : Nat → Nat
  | 0 => 0
  | n + 1 => 4 * IL n + 520000
theorem wS4_len {x : D} (h : wfS 4 x) : (wS 4 x).length ≤ 510000 := wS_len 4 x h
theorem blW_len {w : D → List Tk} {m : Nat} {t : List UInt8} {its : List D} (hl : its.length ≤ 2) (h : ∀ i ∈ its, (w i).length ≤ m) : (blW w (gB t its)).length ≤ 2 * m + 4 := by
  have h1 := flat_len (w := w) (m := m) h
  have h2 : its.length * m ≤ 2 * m := Nat.mul_le_mul_right _ hl
  show ([(1, beginT), (3, [58]), (1, t)] ++ (its.flatMap w ++ [(1, endS)]) : List Tk).length ≤ _
  simp only [List.length_append, List.length_cons, List.length_nil]; omega
theorem nIW_len {T : NT} {x : D} (h : xN T x) : (nIW x).length ≤ 2101 := by
  obtain ⟨nm, ty, q, f, sg, es, fs, rfl, _, _, _, _, _, _, he, hf⟩ := h
  have := nW_len (nm := nm) (ty := ty) (sg := sg) he hf
  show (nW nm ty sg es fs ++ [(3, [59])] : List Tk).length ≤ _
  simp only [List.length_append, List.length_cons, List.length_nil]; omega
theorem wI_net {T : NT} {n : Nat} {x : D} (h : xN T x) : (wI (n + 1) x).length ≤ 2101 := by
  obtain ⟨nm, ty, q, f, sg, es, fs, rfl, _, _, _, _, _, _, he, hf⟩ := h
  have := nW_len (nm := nm) (ty := ty) (sg := sg) he hf
  show (nW nm ty sg es fs ++ [(3, [59])] : List Tk).length ≤ _
  simp only [List.length_append, List.length_cons, List.length_nil]; omega
theorem wI_len : ∀ (n : Nat) (x : D), xI n x → (wI n x).length ≤ IL n
  | 0, _, h => h.elim
  | n + 1, x, h => by
    have ih := wI_len n
    simp only [IL]
    rcases h with (h | h) | ⟨nm, e, rfl, _, he⟩ | ⟨nm, rfl, _⟩ | ⟨l, e, rfl, hl, he⟩ | ⟨s, rfl, hs⟩ | ⟨s, rfl, hs⟩ | ⟨sg, es, its, s, rfl, _, he, _, hi2, hi, hs⟩ | ⟨k, ps, qs, rfl, _, hp1, hq1, hp, hq⟩ | ⟨es, its, rfl, hl, he, hi1, hi⟩ | ⟨e, its, els, rfl, he, hi1, hi, hel⟩
    · have := wI_net (n := n) h; omega
    · have := wI_net (n := n) h; omega
    · have h1 := wE4_len he
      show ([(1, lparT), (1, nm), (3, [61])] ++ (wE 4 e ++ [(3, [59])]) : List Tk).length ≤ _
      simp only [List.length_append, List.length_cons, List.length_nil]; omega
    · show ([(1, genT), (1, nm), (3, [59])] : List Tk).length ≤ _
      simp only [List.length_cons, List.length_nil]; omega
    · have h1 := wE4_len (wfE_up (by decide) (isLeft_wf hl))
      have h2 := wE4_len he
      show ([(1, assT')] ++ (wE 4 l ++ ([(3, [61])] ++ (wE 4 e ++ [(3, [59])]))) : List Tk).length ≤ _
      simp only [List.length_append, List.length_cons, List.length_nil]; omega
    · have h1 := wS4_len hs
      show ([(1, alwT), (3, [64]), (3, [42])] ++ wS 4 s : List Tk).length ≤ _
      simp only [List.length_append, List.length_cons, List.length_nil]; omega
    · have h1 := wS4_len hs
      show ([(1, alwT), (3, [64]), (3, [40]), (1, posT), (1, clkT), (3, [41])] ++ wS 4 s : List Tk).length ≤ _
      simp only [List.length_append, List.length_cons, List.length_nil]; omega
    · have h1 := wS4_len hs
      have h2 := boW_len he
      have h4 := flat_len (w := nIW) fun i hi' => nIW_len (hi i hi')
      have h5 : its.length * 2101 ≤ 2 * 2101 := Nat.mul_le_mul_right _ hi2
      have h6 : (bif sg then [(1, sgnT)] else [] : List Tk).length ≤ 1 := by cases sg <;> simp
      show ([(1, funT)] ++ ((bif sg then [(1, sgnT)] else []) ++ (boW es ++ ([(1, [102]), (3, [59])] ++ (its.flatMap nIW ++ (wS 4 s ++ [(1, efunT)]))))) : List Tk).length ≤ _
      simp only [List.length_append, List.length_cons, List.length_nil]; omega
    · have h1 := csW_len hp1 hp
      have h2 := csW_len hq1 hq
      have h3 : (bif ps.isEmpty then [] else [(3, [35])] ++ csW ps : List Tk).length ≤ 831 := by
        cases ps.isEmpty
        · simp only [cond_false, List.length_append, List.length_cons, List.length_nil]; omega
        · simp
      show ([(1, subT)] ++ ((bif ps.isEmpty then [] else [(3, [35])] ++ csW ps) ++ ([(1, [117, 48 + k])] ++ (csW qs ++ [(3, [59])]))) : List Tk).length ≤ _
      simp only [List.length_append, List.length_cons, List.length_nil] at h3 ⊢; omega
    · have h1 := loopT_len (t := [105]) he hl
      have h2 := blW_len (w := wI n) (m := IL n) (t := [103]) hi1 fun i h => ih i (hi i h)
      show (loopT [105] es ++ ([gB [103] its].flatMap (blW (wI n)))).length ≤ _
      simp only [List.flatMap_cons, List.flatMap_nil, List.length_append, List.length_nil]; omega
    · have h1 := pW_len he
      have h2 := blW_len (w := wI n) (m := IL n) (t := [116]) hi1 fun i h => ih i (hi i h)
      have h3 : (bif els.isEmpty then [] else [(1, elseT)] ++ els.flatMap (blW (wI n)) : List Tk).length ≤ 2 * IL n + 5 := by
        rcases hel with rfl | ⟨ys, rfl, hy1, hy⟩
        · exact Nat.zero_le _
        · have := blW_len (w := wI n) (m := IL n) (t := [101]) hy1 fun i h => ih i (hy i h)
          show ([(1, elseT)] ++ ([gB [101] ys].flatMap (blW (wI n))) : List Tk).length ≤ _
          simp only [List.flatMap_cons, List.flatMap_nil, List.length_append, List.length_cons, List.length_nil]; omega
      show ([(1, ifT)] ++ (pW e ++ ([gB [116] its].flatMap (blW (wI n)) ++ (bif els.isEmpty then [] else [(1, elseT)] ++ els.flatMap (blW (wI n))))) : List Tk).length ≤ _
      simp only [List.flatMap_cons, List.flatMap_nil, List.length_append, List.length_cons, List.length_nil] at h3 ⊢; omega
end Go.Proofs.YtalibicpmfbieaaGreatDoor
