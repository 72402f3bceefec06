/- The document's answer for operators without parentheses; the words of a tree. -/
import Derived.Test.YtalibicpmfbieaaGreatDoorPaB
namespace Go.Proofs.YtalibicpmfbieaaGreatDoor
open Go.AE
set_option linter.unusedVariables false
set_option linter.unusedSimpArgs false
theorem level_ref {o : List UInt8} (ho : o ∈ opsT) : Ev (fun n => ref10_Level n (.str o)) fun r => r = (true, [.int .i64 (lvO o : Nat)]) := by
  have run : ∀ n, ref10_Level (n + 1) (.str o) = some (true, [.int .i64 (lvO o : Nat)]) := by
    intro n
    simp only [opsT, List.mem_cons, List.not_mem_nil, or_false] at ho
    rcases ho with rfl | rfl | rfl | rfl | rfl | rfl | rfl | rfl | rfl | rfl | rfl | rfl | rfl | rfl | rfl | rfl | rfl | rfl | rfl | rfl | rfl <;> kernel_rfl
  exact Ev.eq run (Ev.ret rfl)
/-- The last of the loosest. -/
def LastMin (os : List (List UInt8)) (k m : Nat) : Prop := k < m ∧ ∀ (i : Nat), i < m → lvO (os[k]?.getD []) ≤ lvO (os[i]?.getD []) ∧ (k < i → lvO (os[k]?.getD []) < lvO (os[i]?.getD []))
theorem strGet {os : List (List UInt8)} {k : Nat} (h : k < os.length) : (os.map D.str)[((k : Nat) : Int).toNat]?.getD D.top = .str (os[k]?.getD []) := by
  rw [show ((k : Nat) : Int).toNat = k from rfl, List.getElem?_map, List.getElem?_eq_getElem h]; rfl
theorem getMem {os : List (List UInt8)} {k : Nat} (hos : ∀ o ∈ os, o ∈ opsT) (h : k < os.length) : os[k]?.getD [] ∈ opsT := by
  rw [List.getElem?_eq_getElem h]; exact hos _ (List.getElem_mem h)
theorem bindsLoop {os : List (List UInt8)} (hos : ∀ o ∈ os, o ∈ opsT) (hl : os.length ≤ 1000) (ns : List D) : ∀ (m i k : Nat), os.length - i = m → i ≤ os.length → LastMin os k i →
    Ev (fun n => ref10_Binds_L0 n (.lst 1 ns) (.lst 1 (os.map D.str)) (.int .i64 (k : Int)) (.int .i64 (i : Int))) fun r => ∃ k' : Nat, r = (false, [.lst 1 ns, .lst 1 (os.map D.str), .int .i64 (k' : Int), .int .i64 (os.length : Int)]) ∧ LastMin os k' os.length := by
  intro m
  induction m with
  | zero =>
    intro i k hm hi hk
    have : i = os.length := by omega
    subst this
    exact Ev.eq (fun n => ref10_Binds_L0_eq n _ _ _ _) (Ev.no (decide_eq_false (by rw [List.length_map]; omega)) (Ev.ret ⟨k, rfl, hk⟩))
  | succ m ih =>
    intro i k hm hi hk
    have h1 : i < os.length := by omega
    have h2 : k < os.length := by have := hk.1; omega
    have g1 := strGet h1
    have g2 := strGet h2
    refine Ev.eq (fun n => ref10_Binds_L0_eq n _ _ _ _) (Ev.yes (decide_eq_true (by rw [List.length_map]; omega)) (Ev.yes (in_range (by rw [List.length_map]; exact h1)) ?_))
    rw [g1, g2]
    refine Ev.yes rfl (Ev.bindC (level_ref (getMem hos h1)) ?_)
    intro _ ds h0; cases h0
    refine ⟨rfl, Ev.yes rfl (Ev.yes (in_range (by rw [List.length_map]; exact h2)) (Ev.yes rfl (Ev.bindC (level_ref (getMem hos h2)) ?_)))⟩
    intro _ ds h0; cases h0
    refine ⟨rfl, Ev.yes rfl ?_⟩
    rw [wrap_succ (by omega)]
    refine Ev.test (fun hc => ?_) fun hc => ?_
    · have hc : lvO (os[i]?.getD []) ≤ lvO (os[k]?.getD []) := by
        have : ((lvO (os[i]?.getD []) : Nat) : Int) ≤ ((lvO (os[k]?.getD []) : Nat) : Int) := of_decide_eq_true hc
        omega
      refine ih (i + 1) i (by omega) (by omega) ⟨by omega, fun j hj => ?_⟩
      by_cases e : j = i
      · subst e; exact ⟨Nat.le_refl _, fun h => by omega⟩
      · have := hk.2 j (by omega)
        exact ⟨by omega, fun h => by omega⟩
    · have hc : ¬ lvO (os[i]?.getD []) ≤ lvO (os[k]?.getD []) := by
        have : ¬ ((lvO (os[i]?.getD []) : Nat) : Int) ≤ ((lvO (os[k]?.getD []) : Nat) : Int) := of_decide_eq_false hc
        omega
      refine ih (i + 1) k (by omega) (by omega) ⟨by have := hk.1; omega, fun j hj => ?_⟩
      by_cases e : j = i
      · subst e; exact ⟨by omega, fun _ => by omega⟩
      · exact hk.2 j (by omega)
theorem Bd_len {x : List UInt8} {ps : Pairs} {w : List (List UInt8)} (h : Bd x ps w) : w.length ≤ 6 * ps.length + 1 := by
  induction h with
  | one x => simp
  | @split x q1 o y q2 w1 w2 _ _ _ _ i1 i2 =>
    simp only [List.length_append, List.length_cons]
    cases q1.isEmpty <;> cases q2.isEmpty <;> simp <;> omega
theorem nth0l {k : Nat} {ws rest : List D} : (nth (.lst k ws :: rest) 0).l = ws := rfl
theorem nth1l {k : Nat} {ws rest : List D} {a : D} : (nth (a :: .lst k ws :: rest) 1).l = ws := rfl
theorem nth2i {k : IntKind} {v : Int} {rest : List D} {a b : D} : (nth (a :: b :: .int k v :: rest) 2).i = v := rfl
def nms (x : List UInt8) (ps : Pairs) : List D := (x :: ps.map (·.2)).map D.str
def opn (ps : Pairs) : List D := (ps.map (·.1)).map D.str
def arW (q : Pairs) (w : List (List UInt8)) : List (List UInt8) := bif q.isEmpty then w else [[40]] ++ w ++ [[41]]
theorem arg_of {x : List UInt8} {ps : Pairs} {w : List (List UInt8)} (hw : w.length ≤ 100000) (h : Ev (fun n => ref10_Binds n (.lst 1 (nms x ps)) (.lst 1 (opn ps))) fun r => r = (true, [.lst 1 (w.map D.str)])) :
    Ev (fun n => ref10_arg n (.lst 1 (nms x ps)) (.lst 1 (opn ps))) fun r => r = (true, [.lst 1 ((arW ps w).map D.str)]) := by
  refine Ev.eq (fun n => ref10_arg_eq n _ _) (Ev.bindC h ?_)
  intro _ ds h0; cases h0
  refine ⟨rfl, Ev.yes rfl ?_⟩
  cases ps with
  | nil => exact Ev.yes rfl (Ev.ret rfl)
  | cons p r =>
    refine Ev.no (by show (((opn (p :: r)).length : Int) == 0) = false; exact beq_eq_false_iff_ne.2 (by simp only [opn, List.map_cons, List.length_cons]; omega)) ?_
    simp only [nth0l]
    refine Ev.yes (Nat.ble_eq_true_of_le (by simp only [List.length_map, maxLst]; omega)) (Ev.yes (Nat.ble_eq_true_of_le (by simp only [List.length_map, List.length_append, List.length_cons, List.length_nil, maxLst]; omega)) (Ev.ret ?_))
    simp [arW]
theorem binds_ev {x : List UInt8} {ps : Pairs} {w : List (List UInt8)} (h : Bd x ps w) : (∀ p ∈ ps, p.1 ∈ opsT) → ps.length ≤ 100 → Ev (fun n => ref10_Binds n (.lst 1 (nms x ps)) (.lst 1 (opn ps))) fun r => r = (true, [.lst 1 (w.map D.str)]) := by
  induction h with
  | one x => intro _ _; exact Ev.eq (fun n => ref10_Binds_eq n _ _) (Ev.yes rfl (Ev.yes rfl (Ev.yes rfl (Ev.ret rfl))))
  | @split x q1 o y q2 w1 w2 b1 b2 hq1 hq2 i1 i2 =>
    intro hop hlen
    have hlen' : q1.length + (q2.length + 1) ≤ 100 := by simpa using hlen
    have A1 := arg_of (x := x) (ps := q1) (w := w1) (by have := Bd_len b1; omega) (i1 (fun p hp => hop p (List.mem_append_left _ hp)) (by omega))
    have A2 := arg_of (x := y) (ps := q2) (w := w2) (by have := Bd_len b2; omega) (i2 (fun p hp => hop p (List.mem_append_right _ (List.mem_cons_of_mem _ hp))) (by omega))
    let os := (q1 ++ (o, y) :: q2).map (·.1)
    have hos : ∀ z ∈ os, z ∈ opsT := fun z hz => by obtain ⟨p, hp, rfl⟩ := List.mem_map.1 hz; exact hop p hp
    have hol : os.length = q1.length + (q2.length + 1) := by simp [os]
    have hk : os[q1.length]?.getD [] = o := by simp [os]
    refine Ev.eq (fun n => ref10_Binds_eq n _ _) (Ev.no (by show (((opn _).length : Int) == 0) = false; exact beq_eq_false_iff_ne.2 (by simp only [opn, List.length_map, List.length_append, List.length_cons]; omega)) ?_)
    refine Ev.bindL (bindsLoop hos (by omega) (nms x (q1 ++ (o, y) :: q2)) (os.length - 1) 1 0 rfl (by omega) ⟨by decide, fun i hi => by
      have : i = 0 := by omega
      subst this; exact ⟨Nat.le_refl _, fun h => by omega⟩⟩) (fun ds h => by obtain ⟨_, h, _⟩ := h; cases h) fun ds h => ?_
    obtain ⟨k, h, hm⟩ := h
    cases h
    have ek : k = q1.length := by
      have hkl := hm.1
      rcases Nat.lt_trichotomy k q1.length with hlt | e | hgt
      · exfalso
        have h1 := (hm.2 q1.length (by omega)).2 hlt
        rw [hk] at h1
        have h2 : lvO o ≤ lvO (os[k]?.getD []) := by
          have : os[k]?.getD [] = q1[k].1 := by simp only [os, List.map_append]; rw [List.getElem?_append_left (by simpa using hlt), List.getElem?_map, List.getElem?_eq_getElem hlt]; rfl
          rw [this]; exact hq1 _ (List.getElem_mem hlt)
        omega
      · exact e
      · exfalso
        have h1 := (hm.2 q1.length (by omega)).1
        rw [hk] at h1
        obtain ⟨m, rfl⟩ : ∃ m, k = q1.length + 1 + m := ⟨k - q1.length - 1, by omega⟩
        have hj : m < q2.length := by omega
        have h2 : lvO o < lvO (os[q1.length + 1 + m]?.getD []) := by
          have : os[q1.length + 1 + m]?.getD [] = q2[m].1 := by
            simp only [os, List.map_append, List.map_cons]
            rw [List.getElem?_append_right (by simp; omega), List.length_map, show q1.length + 1 + m - q1.length = m + 1 from by omega, List.getElem?_cons_succ, List.getElem?_map, List.getElem?_eq_getElem hj]; rfl
          rw [this]; exact hq2 _ (List.getElem_mem hj)
        omega
    subst ek
    have hw : IntKind.i64.wrap ((q1.length : Int) + 1) = ((q1.length + 1 : Nat) : Int) := wrap_succ (by omega)
    have nl : (nms x (q1 ++ (o, y) :: q2)).length = q1.length + (q2.length + 1) + 1 := by simp [nms]
    have ol : (os.map D.str).length = q1.length + (q2.length + 1) := by rw [List.length_map, hol]
    have e1 : ((nms x (q1 ++ (o, y) :: q2)).drop 0).take (((q1.length + 1 : Nat) : Int).toNat - 0) = nms x q1 := by
      rw [show ((q1.length + 1 : Nat) : Int).toNat - 0 = q1.length + 1 from rfl]; simp [nms]
    have e2 : ((os.map D.str).drop 0).take (((q1.length : Nat) : Int).toNat - 0) = opn q1 := by
      rw [show ((q1.length : Nat) : Int).toNat - 0 = q1.length from rfl]; simp [opn, os]
    have e3 : ((nms x (q1 ++ (o, y) :: q2)).drop ((q1.length + 1 : Nat) : Int).toNat).take (((nms x (q1 ++ (o, y) :: q2)).length : Int).toNat - ((q1.length + 1 : Nat) : Int).toNat) = nms y q2 := by
      rw [nl, show ((q1.length + 1 : Nat) : Int).toNat = q1.length + 1 from rfl, show ((q1.length + (q2.length + 1) + 1 : Nat) : Int).toNat = q1.length + (q2.length + 1) + 1 from rfl]
      rw [show q1.length + (q2.length + 1) + 1 - (q1.length + 1) = q2.length + 1 from by omega]
      simp [nms]
      exact List.take_of_length_le (by simp)
    have e4 : ((os.map D.str).drop ((q1.length + 1 : Nat) : Int).toNat).take (((os.map D.str).length : Int).toNat - ((q1.length + 1 : Nat) : Int).toNat) = opn q2 := by
      rw [ol, show ((q1.length + 1 : Nat) : Int).toNat = q1.length + 1 from rfl, show ((q1.length + (q2.length + 1) : Nat) : Int).toNat = q1.length + (q2.length + 1) from rfl]
      rw [show q1.length + (q2.length + 1) - (q1.length + 1) = q2.length from by omega]
      simp only [os, opn, List.map_append, List.map_cons]
      rw [show q1.length + 1 = ((q1.map (·.1)).map D.str ++ [D.str o]).length from by simp]
      rw [show (q1.map (·.1)).map D.str ++ D.str o :: (q2.map (·.1)).map D.str = ((q1.map (·.1)).map D.str ++ [D.str o]) ++ (q2.map (·.1)).map D.str from by simp]
      rw [List.drop_left]
      exact List.take_of_length_le (by simp)
    have g := strGet (os := os) (k := q1.length) (by omega)
    rw [hk] at g
    have A1' : Ev (fun n => ref10_arg n (.lst 1 (((nms x (q1 ++ (o, y) :: q2)).drop 0).take ((IntKind.i64.wrap ((q1.length : Int) + 1)).toNat - 0))) (.lst 1 (((os.map D.str).drop 0).take (((q1.length : Nat) : Int).toNat - 0)))) fun r => r = (true, [.lst 1 ((arW q1 w1).map D.str)]) := by
      rw [hw, e1, e2]; exact A1
    have A2' : Ev (fun n => ref10_arg n (.lst 1 (((nms x (q1 ++ (o, y) :: q2)).drop (IntKind.i64.wrap ((q1.length : Int) + 1)).toNat).take (((nms x (q1 ++ (o, y) :: q2)).length : Int).toNat - (IntKind.i64.wrap ((q1.length : Int) + 1)).toNat))) (.lst 1 (((os.map D.str).drop (IntKind.i64.wrap ((q1.length : Int) + 1)).toNat).take (((os.map D.str).length : Int).toNat - (IntKind.i64.wrap ((q1.length : Int) + 1)).toNat)))) fun r => r = (true, [.lst 1 ((arW q2 w2).map D.str)]) := by
      rw [hw, e3, e4]; exact A2
    have c1 : (0 : Int) ≤ IntKind.i64.wrap ((q1.length : Int) + 1) := by rw [hw]; omega
    have c2 : IntKind.i64.wrap ((q1.length : Int) + 1) ≤ ((nms x (q1 ++ (o, y) :: q2)).length : Int) := by rw [hw, nl]; omega
    have c3 : (q1.length : Int) ≤ ((os.map D.str).length : Int) := by rw [ol]; omega
    have c4 : IntKind.i64.wrap ((q1.length : Int) + 1) ≤ ((os.map D.str).length : Int) := by rw [hw, ol]; omega
    refine Ev.yes rfl (Ev.yes (and_tt (and_tt rfl (decide_eq_true c1)) (decide_eq_true c2)) (Ev.yes (and_tt (and_tt rfl (decide_eq_true (Int.natCast_nonneg _))) (decide_eq_true c3)) (Ev.bindC A1' ?_)))
    intro _ ds h0; cases h0
    have l1 : (arW q1 w1).length ≤ 1000 := by have := Bd_len b1; unfold arW; cases q1.isEmpty <;> simp <;> omega
    have l2 : (arW q2 w2).length ≤ 1000 := by have := Bd_len b2; unfold arW; cases q2.isEmpty <;> simp <;> omega
    refine ⟨rfl, Ev.yes rfl (Ev.yes (in_range (by show q1.length < (os.map D.str).length; rw [ol]; omega)) (Ev.yes (by exact congrArg (fun x => notAny (.leaf .str) && okTy (.leaf .str) x) g) ?_))⟩
    refine Ev.yes (Nat.ble_eq_true_of_le (by show ((arW q1 w1).map D.str).length + 1 ≤ maxLst; simp only [List.length_map, maxLst]; omega)) (Ev.yes (and_tt (and_tt (decide_eq_true c1) (decide_eq_true c2)) (decide_eq_true (Int.le_refl _))) (Ev.yes (and_tt (and_tt (decide_eq_true c1) (decide_eq_true c4)) (decide_eq_true (Int.le_refl _))) (Ev.bindC A2' ?_)))
    intro _ ds h0; cases h0
    refine ⟨rfl, Ev.yes rfl (Ev.yes (Nat.ble_eq_true_of_le (by show (((arW q1 w1).map D.str) ++ [D.str _]).length + ((arW q2 w2).map D.str).length ≤ maxLst; simp only [List.length_map, List.length_append, List.length_cons, List.length_nil, maxLst]; omega)) (Ev.ret ?_))⟩
    show (true, [D.lst 1 ((((arW q1 w1).map D.str) ++ [D.str ((os.map D.str)[((q1.length : Nat) : Int).toNat]?.getD D.top).s]) ++ (arW q2 w2).map D.str)]) = _
    rw [g]
    simp [arW, D.s]
end Go.Proofs.YtalibicpmfbieaaGreatDoor
