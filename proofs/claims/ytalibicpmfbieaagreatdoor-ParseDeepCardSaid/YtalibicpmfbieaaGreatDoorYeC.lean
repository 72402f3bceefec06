/- Lines of modules, parsed: all of them; one too many; a name twice. -/
import Derived.Test.YtalibicpmfbieaaGreatDoorYeB
import Derived.Test.YtalibicpmfbieaaGreatDoorYeA
namespace Go.Proofs.YtalibicpmfbieaaGreatDoor
open Go.AE
set_option linter.unusedVariables false
set_option linter.unusedSimpArgs false
def MO (nm : List UInt8) (a b g : Int) : D := .agg [.str nm, .int .i64 a, .int .i64 b, .int .i64 g, .lst 14 [], .lst 14 [], .lst 14 []]
section
variable {l : List D} (hl : l.length ≤ 1000000) (hT : Tks l)
include hl
theorem mod_ev {nm : List UInt8} (hm : goodN nm = true) {i : Nat} {a1 b1 e1 a2 b2 e2 a3 b3 e3 a4 b4 e4 a5 b5 e5 a6 b6 e6 : Int} (g1 : l[i]? = some (tk 1 modT a1 b1 e1)) (g2 : l[i + 1]? = some (tk 1 nm a2 b2 e2)) (g3 : l[i + 2]? = some (tk 3 [40] a3 b3 e3)) (g4 : l[i + 3]? = some (tk 3 [41] a4 b4 e4)) (g5 : l[i + 4]? = some (tk 3 [59] a5 b5 e5)) (g6 : l[i + 5]? = some (tk 1 endT a6 b6 e6)) :
    Ev (fun n => parse_parser_module n (.lst 5 l) (.int .i64 (i : Int)) (.int .i64 0) (.int .i64 0) (.int .i64 0) (.int .i64 0) (.int .i64 0) (.int .i64 0)) fun r => r = (true, [MO nm a1 b1 e1, .lst 5 l, .int .i64 ((i + 6 : Nat) : Int), .int .i64 0, .int .i64 0, .int .i64 0, .int .i64 0, .int .i64 0, .int .i64 0]) := by
  refine Ev.eq (fun n => parse_parser_module_eq n l _ 0 0 0 0 0 0) (Ev.bindC (now_ev (d := 0) (c := 0) (p0 := 0) (p1 := 0) (p2 := 0) g1) ?_)
  (intro _ ds h0; cases h0; refine ⟨rfl, Ev.yes rfl ?_⟩)
  refine Ev.bindC (want_ev (d := 0) (c := 0) (p0 := 0) (p1 := 0) (p2 := 0) hl [modT] (by decide) (word_at g1 rfl)) ?_
  (intro _ ds h0; cases h0; refine ⟨rfl, Ev.yes rfl ?_⟩)
  refine Ev.bindC (name_ev (d := 0) (c := 0) (p0 := 0) (p1 := 0) (p2 := 0) hl g2 hm) ?_
  (intro _ ds h0; cases h0; refine ⟨rfl, Ev.yes rfl ?_⟩)
  refine Ev.bindC (take_no (d := 0) (c := 0) (p0 := 0) (p1 := 0) (p2 := 0) g3 rfl) ?_
  (intro _ ds h0; cases h0; refine ⟨rfl, Ev.yes rfl ?_⟩)
  refine Ev.no rfl (evDf (fun n => parse_parser_module_j1_def n _ _ _ _ _ _ _ _ _ _ _ _ _ _ _ _ _ _ _ _ _ _) (Ev.bindC (want_ev (d := 0) (c := 0) (p0 := 0) (p1 := 0) (p2 := 0) hl [[40]] (by decide) (word_at g3 rfl)) ?_))
  (intro _ ds h0; cases h0; refine ⟨rfl, Ev.yes rfl ?_⟩)
  refine Ev.bindL (modL2_none g4) (fun ds h => by cases h) fun ds h => ?_
  cases h
  refine Ev.yes rfl (Ev.bindC (want_ev (d := 0) (c := 0) (p0 := 0) (p1 := 0) (p2 := 0) hl [[41], [59]] (by decide) (words_2 g4 g5 rfl rfl)) ?_)
  (intro _ ds h0; cases h0; refine ⟨rfl, Ev.yes rfl ?_⟩)
  refine Ev.bindC (Q := fun r => r = (true, [.lst 5 l, .int .i64 ((i + 6 : Nat) : Int), .int .i64 0, .int .i64 0, .int .i64 0, .int .i64 0, .int .i64 0, .int .i64 0, .lst 14 []])) ?_ ?_
  · refine Ev.eq (fun n => parse_parser_items_eq n endT l _ 0 0 0 0 0 0) (Ev.bindL (Q := fun r => r = (false, [.str endT, .lst 5 l, .int .i64 ((i + 6 : Nat) : Int), .int .i64 0, .int .i64 0, .int .i64 0, .int .i64 0, .int .i64 0, .int .i64 0, .lst 14 []])) ?_ (fun ds h => by cases h) fun ds h => ?_)
    · refine Ev.eq (fun n => parse_parser_items_L0_eq n endT l ((i + 5 : Nat) : Int) 0 0 0 0 0 0 []) (Ev.yes rfl (Ev.bindC (take_yes (d := 0) (c := 0) (p0 := 0) (p1 := 0) (p2 := 0) hl g6 rfl) ?_))
      (intro _ ds h0; cases h0; refine ⟨rfl, Ev.yes rfl ?_⟩)
      exact evDf (fun n => parse_parser_items_L0_j1_def n _ _ _ _ _ _ _ _ _ _ _) (Ev.no rfl (Ev.ret rfl))
    · cases h
      exact Ev.yes rfl (Ev.ret rfl)
  (intro _ ds h0; cases h0; refine ⟨rfl, Ev.yes rfl ?_⟩)
  exact Ev.ret rfl
omit hl
/-- Modules of these names. -/
def acM : Int → List (List UInt8) → List D
  | _, [] => []
  | r, nm :: u => MO nm 1 r 1 :: acM (r + 1) u
theorem acM_len : ∀ (r : Int) (u : List (List UInt8)), (acM r u).length = u.length
  | _, [] => rfl
  | r, _ :: u => by show (acM (r + 1) u).length + 1 = u.length + 1; rw [acM_len]
theorem acM_app : ∀ (r : Int) (u : List (List UInt8)) (nm : List UInt8), acM r (u ++ [nm]) = acM r u ++ [MO nm 1 (r + (u.length : Int)) 1]
  | r, [], nm => by show [MO nm 1 r 1] = [] ++ [MO nm 1 (r + (0 : Int)) 1]; rw [Int.add_zero]; rfl
  | r, x :: u, nm => by
    show MO x 1 r 1 :: acM (r + 1) (u ++ [nm]) = MO x 1 r 1 :: (acM (r + 1) u ++ [MO nm 1 (r + ((u.length + 1 : Nat) : Int)) 1])
    rw [acM_app (r + 1) u nm, show r + 1 + (u.length : Int) = r + ((u.length + 1 : Nat) : Int) from by omega]
theorem acM_get : ∀ (r : Int) (u : List (List UInt8)) (j : Nat) (hj : j < u.length) (hj' : j < (acM r u).length), (acM r u)[j] = MO u[j] 1 (r + (j : Int)) 1
  | r, nm :: u, 0, _, _ => by show MO nm 1 r 1 = MO nm 1 (r + (0 : Int)) 1; rw [Int.add_zero]
  | r, nm :: u, j + 1, hj, hj' => by
    have h1 : j < u.length := by simpa using hj
    have h2 : j < (acM (r + 1) u).length := by rw [acM_len]; exact h1
    have I := acM_get (r + 1) u j h1 h2
    show (acM (r + 1) u)[j] = MO u[j] 1 (r + ((j + 1 : Nat) : Int)) 1
    rw [I, show r + 1 + (j : Int) = r + ((j + 1 : Nat) : Int) from by omega]
theorem cont_no {u : List (List UInt8)} {nm : List UInt8} (hn : u.length ≤ 1000) (h : ∀ x ∈ u, (x == nm) = false) (i j k : Int) (ps qs its : List D) :
    Ev (fun n => slices_ContainsFunc_Module n (.lst 7 (acM 1 u)) (.str nm) (.int .i64 i) (.int .i64 j) (.int .i64 k) (.lst 14 ps) (.lst 14 qs) (.lst 14 its)) fun r => r = (true, [.bool false, .lst 7 (acM 1 u), .str nm, .int .i64 i, .int .i64 j, .int .i64 k, .lst 14 ps, .lst 14 qs, .lst 14 its]) := by
  have hA := acM_len 1 u
  have L : ∀ (m r : Nat), u.length - r = m → r ≤ u.length → Ev (fun n => slices_IndexFunc_Module_L0 n (.int .i64 ((acM 1 u).length : Int)) (.int .i64 (r : Int)) (.lst 7 (acM 1 u)) (.str nm) (.int .i64 i) (.int .i64 j) (.int .i64 k) (.lst 14 ps) (.lst 14 qs) (.lst 14 its)) fun q =>
      q = (false, [.int .i64 ((acM 1 u).length : Int), .int .i64 ((acM 1 u).length : Int), .lst 7 (acM 1 u), .str nm, .int .i64 i, .int .i64 j, .int .i64 k, .lst 14 ps, .lst 14 qs, .lst 14 its]) := by
    intro m
    induction m with
    | zero =>
      intro r hm hr
      have : r = (acM 1 u).length := by omega
      subst this
      exact Ev.eq (fun n => slices_IndexFunc_Module_L0_eq n _ _ _ _ _ _ _ _ _ _) (Ev.no (decide_eq_false (by omega)) (Ev.ret rfl))
    | succ m ih =>
      intro r hm hr
      have hr' : r < u.length := by omega
      have hr2 : r < (acM 1 u).length := by omega
      refine Ev.eq (fun n => slices_IndexFunc_Module_L0_eq n _ _ _ _ _ _ _ _ _ _) (Ev.yes (decide_eq_true (by omega)) (Ev.yes (in_range hr2) ?_))
      rw [get_nat hr2, acM_get 1 u r hr' hr2]
      refine Ev.yes rfl (Ev.bindC (Ev.eq (fun n => parse_Parse_1_eq n _ 1 _ 1 [] [] [] nm i j k ps qs its) (Ev.ret rfl)) ?_)
      (intro _ ds h0; cases h0; refine ⟨rfl, Ev.yes rfl ?_⟩)
      refine Ev.no (h _ (List.getElem_mem hr')) ?_
      rw [wrap_succ (by omega)]
      exact ih (r + 1) (by omega) (by omega)
  refine Ev.eq (fun n => slices_ContainsFunc_Module_eq n (acM 1 u) nm i j k ps qs its) (Ev.bindC (Q := fun r => r = (true, [.int .i64 (-1), .lst 7 (acM 1 u), .str nm, .int .i64 i, .int .i64 j, .int .i64 k, .lst 14 ps, .lst 14 qs, .lst 14 its])) (Ev.eq (fun n => slices_IndexFunc_Module_eq n (acM 1 u) nm i j k ps qs its) (Ev.bindL (L u.length 0 (by omega) (by omega)) (fun ds h => by cases h) fun ds h => ?_)) ?_)
  · cases h
    exact Ev.yes rfl (Ev.ret rfl)
  (intro _ ds h0; cases h0; refine ⟨rfl, Ev.yes rfl ?_⟩)
  exact Ev.ret rfl
/-- The first of them has this name. -/
theorem cont_yes {u : List (List UInt8)} {nm : List UInt8} (i j k : Int) (ps qs its : List D) :
    Ev (fun n => slices_ContainsFunc_Module n (.lst 7 (acM 1 (nm :: u))) (.str nm) (.int .i64 i) (.int .i64 j) (.int .i64 k) (.lst 14 ps) (.lst 14 qs) (.lst 14 its)) fun r => r = (true, [.bool true, .lst 7 (acM 1 (nm :: u)), .str nm, .int .i64 i, .int .i64 j, .int .i64 k, .lst 14 ps, .lst 14 qs, .lst 14 its]) := by
  have h0 : 0 < (acM 1 (nm :: u)).length := by rw [acM_len]; simp
  have L : Ev (fun n => slices_IndexFunc_Module_L0 n (.int .i64 ((acM 1 (nm :: u)).length : Int)) (.int .i64 0) (.lst 7 (acM 1 (nm :: u))) (.str nm) (.int .i64 i) (.int .i64 j) (.int .i64 k) (.lst 14 ps) (.lst 14 qs) (.lst 14 its)) fun q =>
      q = (true, [.int .i64 0, .lst 7 (acM 1 (nm :: u)), .str nm, .int .i64 i, .int .i64 j, .int .i64 k, .lst 14 ps, .lst 14 qs, .lst 14 its]) := by
    refine Ev.eq (fun n => slices_IndexFunc_Module_L0_eq n _ _ _ _ _ _ _ _ _ _) (Ev.yes (decide_eq_true (by omega)) (Ev.yes (in_range h0) (Ev.yes rfl (Ev.bindC (Ev.eq (fun n => parse_Parse_1_eq n nm 1 1 1 [] [] [] nm i j k ps qs its) (Ev.ret rfl)) ?_))))
    intro _ ds h0; cases h0
    exact ⟨rfl, Ev.yes rfl (Ev.yes (beq_self_eq_true nm) (Ev.ret rfl))⟩
  refine Ev.eq (fun n => slices_ContainsFunc_Module_eq n (acM 1 (nm :: u)) nm i j k ps qs its) (Ev.bindC (Q := fun r => r = (true, [.int .i64 0, .lst 7 (acM 1 (nm :: u)), .str nm, .int .i64 i, .int .i64 j, .int .i64 k, .lst 14 ps, .lst 14 qs, .lst 14 its])) (Ev.eq (fun n => slices_IndexFunc_Module_eq n (acM 1 (nm :: u)) nm i j k ps qs its) (Ev.bindL L (fun ds h => h) fun ds h => by cases h)) ?_)
  intro _ ds h0; cases h0
  exact ⟨rfl, Ev.yes rfl (Ev.ret rfl)⟩
end
/-- Names, good ones, no two alike. -/
def Nms (u : List (List UInt8)) : Prop := (∀ x ∈ u, goodN x = true) ∧ ∀ (j k : Nat) (hj : j < u.length) (hk : k < u.length), j < k → (u[j] == u[k]) = false
def outP (l : List D) (i : Nat) (a b g e : Int) (xs : List D) : List D := [.int .i64 0, .int .i64 0, .int .i64 0, .lst 5 l, .int .i64 (i : Int), .int .i64 0, .int .i64 0, .int .i64 a, .int .i64 b, .int .i64 g, .int .i64 e, .lst 7 xs]
/-- The words of a module. -/
theorem mod_at {u : List (List UInt8)} {j : Nat} (hj : j < u.length) (hm : goodN u[j] = true) (hl : (lnsK 1 u).length ≤ 1000000) :
    Ev (fun n => parse_parser_module n (.lst 5 (lnsK 1 u)) (.int .i64 ((6 * j : Nat) : Int)) (.int .i64 0) (.int .i64 0) (.int .i64 0) (.int .i64 0) (.int .i64 0) (.int .i64 0)) fun r => r = (true, [MO u[j] 1 (1 + (j : Int)) 1, .lst 5 (lnsK 1 u), .int .i64 ((6 * (j + 1) : Nat) : Int), .int .i64 0, .int .i64 0, .int .i64 0, .int .i64 0, .int .i64 0, .int .i64 0]) := by
  have h := fun q hq => lnsK_at u 1 j hj q hq
  have := mod_ev hl hm (i := 6 * j) (h 0 (by omega)) (h 1 (by omega)) (h 2 (by omega)) (h 3 (by omega)) (h 4 (by omega)) (h 5 (by omega))
  rw [show 6 * j + 6 = 6 * (j + 1) from by omega] at this
  exact this
/-- One more, of a name of its own. -/
theorem mod_step {u : List (List UInt8)} {j : Nat} (hu : u.length ≤ 100) (hj : j < u.length) (hj40 : j < 40) (hm : goodN u[j] = true) (hne : ∀ x ∈ u.take j, (x == u[j]) = false) {P : Bool × List D → Prop}
    (K : Ev (fun n => parse_Parse_L0 n (.int .i64 0) (.int .i64 0) (.int .i64 0) (.lst 5 (lnsK 1 u)) (.int .i64 ((6 * (j + 1) : Nat) : Int)) (.int .i64 0) (.int .i64 0) (.int .i64 0) (.int .i64 0) (.int .i64 0) (.int .i64 0) (.lst 7 (acM 1 (u.take (j + 1))))) P) :
    Ev (fun n => parse_Parse_L0 n (.int .i64 0) (.int .i64 0) (.int .i64 0) (.lst 5 (lnsK 1 u)) (.int .i64 ((6 * j : Nat) : Int)) (.int .i64 0) (.int .i64 0) (.int .i64 0) (.int .i64 0) (.int .i64 0) (.int .i64 0) (.lst 7 (acM 1 (u.take j)))) P := by
  have hl := lnsK_len 1 u
  have hta : (u.take j).length = j := by rw [List.length_take]; omega
  have ha := acM_len 1 (u.take j)
  refine Ev.eq (fun n => parse_Parse_L0_eq n _ _ _ _ _ _ _ _ _ _ _ _) (Ev.yes rfl (evDf (fun n => parse_Parse_L0_j1_def n _ _ _ _ _ _ _ _ _ _ _ _ _) (Ev.yes (decide_eq_true (by omega)) (Ev.no (beq_eq_false_iff_ne.2 (by omega)) (evDf (fun n => parse_Parse_L0_j2_def n _ _ _ _ _ _ _ _ _ _ _ _) (Ev.bindC (mod_at hj hm (by omega)) ?_))))))
  (intro _ ds h0; cases h0; refine ⟨rfl, Ev.yes rfl ?_⟩)
  refine Ev.bindC (cont_no (u := u.take j) (by omega) hne 1 (1 + (j : Int)) 1 [] [] []) ?_
  (intro _ ds h0; cases h0; refine ⟨rfl, Ev.yes rfl ?_⟩)
  refine Ev.no rfl (Ev.yes (Nat.ble_eq_true_of_le (by show (acM 1 (u.take j)).length + 1 ≤ maxLst; simp only [maxLst]; omega)) ?_)
  rw [List.take_add_one, List.getElem?_eq_getElem hj] at K
  have e := acM_app 1 (u.take j) u[j]
  rw [hta] at e
  rw [show u.take j ++ (some u[j]).toList = u.take j ++ [u[j]] from rfl, e] at K
  exact K
theorem nms_ne {u : List (List UInt8)} {j k : Nat} (h : Nms (u.take k)) (hj : j < u.length) (hjk : j < k) : goodN u[j] = true ∧ ∀ x ∈ u.take j, (x == u[j]) = false := by
  have hk : j < (u.take k).length := by rw [List.length_take]; omega
  have e : (u.take k)[j] = u[j] := List.getElem_take
  refine ⟨by have := h.1 _ (List.getElem_mem hk); rwa [e] at this, fun x hx => ?_⟩
  obtain ⟨i, hi, rfl⟩ := List.getElem_of_mem hx
  have hi' : i < j := by rw [List.length_take] at hi; omega
  have := h.2 i j (by omega) hk hi'
  rw [e] at this
  rw [show (u.take j)[i] = u[i] from List.getElem_take]
  rwa [show (u.take k)[i]'(by omega) = u[i] from List.getElem_take] at this
/-- So far the modules are told; it goes on from there. -/
theorem mods_to {u : List (List UInt8)} (hu : u.length ≤ 100) {k : Nat} (hk : k ≤ u.length) (hk40 : k ≤ 40) (h : Nms (u.take k)) {P : Bool × List D → Prop}
    (K : Ev (fun n => parse_Parse_L0 n (.int .i64 0) (.int .i64 0) (.int .i64 0) (.lst 5 (lnsK 1 u)) (.int .i64 ((6 * k : Nat) : Int)) (.int .i64 0) (.int .i64 0) (.int .i64 0) (.int .i64 0) (.int .i64 0) (.int .i64 0) (.lst 7 (acM 1 (u.take k)))) P) :
    ∀ (m j : Nat), k - j = m → j ≤ k → Ev (fun n => parse_Parse_L0 n (.int .i64 0) (.int .i64 0) (.int .i64 0) (.lst 5 (lnsK 1 u)) (.int .i64 ((6 * j : Nat) : Int)) (.int .i64 0) (.int .i64 0) (.int .i64 0) (.int .i64 0) (.int .i64 0) (.int .i64 0) (.lst 7 (acM 1 (u.take j)))) P := by
  intro m
  induction m with
  | zero =>
    intro j hm hj
    have : j = k := by omega
    subst this
    exact K
  | succ m ih =>
    intro j hm hj
    have hjk : j < k := by omega
    obtain ⟨h1, h2⟩ := nms_ne h (show j < u.length by omega) hjk
    exact mod_step hu (by omega) (by omega) h1 h2 (ih (j + 1) (by omega) (by omega))
theorem parse_of {l : List D} {Q : Bool × List D → Prop} {i : Nat} {a b g e : Int} {d c : Int} {xs : List D} (he : (e != 0) = true) (H : Ev (fun n => parse_Parse_L0 n (.int .i64 0) (.int .i64 0) (.int .i64 0) (.lst 5 l) (.int .i64 0) (.int .i64 0) (.int .i64 0) (.int .i64 0) (.int .i64 0) (.int .i64 0) (.int .i64 0) (.lst 7 [])) fun r => r = (false, [.int .i64 0, .int .i64 0, .int .i64 0, .lst 5 l, .int .i64 (i : Int), .int .i64 d, .int .i64 c, .int .i64 a, .int .i64 b, .int .i64 g, .int .i64 e, .lst 7 xs])) (hQ : Q (true, [.agg [.int .i64 a, .int .i64 b, .int .i64 g], .int .i64 e, .lst 7 []])) : Ev (fun n => parse_Parse n (.lst 5 l)) Q := by
  refine Ev.eq (fun n => parse_Parse_eq n l) (Ev.bindL H (fun ds h => by cases h) fun ds h => ?_)
  cases h
  exact Ev.yes rfl (Ev.yes he (Ev.ret hQ))
/-- As many as may be, and fewer. -/
theorem mods_ok {u : List (List UInt8)} (hu : u.length ≤ 40) (h : Nms u) : Ev (fun n => parse_Parse n (.lst 5 (lnsK 1 u))) fun r => r = (true, [.agg [.int .i64 0, .int .i64 0, .int .i64 0], .int .i64 0, .lst 7 (acM 1 u)]) := by
  have hl := lnsK_len 1 u
  have ht : u.take u.length = u := List.take_length
  have E := mods_to (u := u) (by omega) (k := u.length) (Nat.le_refl _) hu (by rw [ht]; exact h) (P := fun r => r = (false, outP (lnsK 1 u) (6 * u.length) 0 0 0 0 (acM 1 u))) (by
    rw [ht]
    exact Ev.eq (fun n => parse_Parse_L0_eq n _ _ _ _ _ _ _ _ _ _ _ _) (Ev.yes rfl (evDf (fun n => parse_Parse_L0_j1_def n _ _ _ _ _ _ _ _ _ _ _ _ _) (Ev.no (decide_eq_false (by omega)) (Ev.ret rfl))))) u.length 0 rfl (Nat.zero_le _)
  refine Ev.eq (fun n => parse_Parse_eq n _) (Ev.bindL E (fun ds h => by cases h) fun ds h => ?_)
  cases h
  exact Ev.yes rfl (Ev.no rfl (Ev.ret rfl))
/-- One too many. -/
theorem mods_much {u : List (List UInt8)} (hu : u.length ≤ 100) (h40 : 40 < u.length) (h : Nms (u.take 40)) (hE : ∀ x ∈ u, (x == []) = false) : Ev (fun n => parse_Parse n (.lst 5 (lnsK 1 u))) fun r => r = (true, [.agg [.int .i64 1, .int .i64 41, .int .i64 1], .int .i64 19, .lst 7 []]) := by
  have hl := lnsK_len 1 u
  have h0 := lnsK_at u 1 40 h40 0 (by omega)
  have hA : (acM 1 (u.take 40)).length = 40 := by rw [acM_len, List.length_take]; omega
  have hd : Dd (lnsK 1 u) (6 * 40 + 0) 19 := ⟨lnsK_toks 1 u, by omega, .inl (by decide)⟩
  have E := mods_to (u := u) hu (k := 40) (by omega) (by omega) h (P := fun r => ∃ (d c : Int) (xs : List D), r = (false, [.int .i64 0, .int .i64 0, .int .i64 0, .lst 5 (lnsK 1 u), .int .i64 ((6 * 40 + 0 : Nat) : Int), .int .i64 d, .int .i64 c, .int .i64 1, .int .i64 41, .int .i64 1, .int .i64 19, .lst 7 xs])) (by
    refine Ev.eq (fun n => parse_Parse_L0_eq n _ _ _ _ _ _ _ _ _ _ _ _) (Ev.yes rfl (evDf (fun n => parse_Parse_L0_j1_def n _ _ _ _ _ _ _ _ _ _ _ _ _) (Ev.yes (decide_eq_true (by omega)) (Ev.yes (by rw [hA]; rfl) (Ev.bindC (now_ev (d := 0) (c := 0) (p0 := 0) (p1 := 0) (p2 := 0) (i := 6 * 40 + 0) h0) ?_)))))
    (intro _ ds h0; cases h0; refine ⟨rfl, Ev.yes rfl ?_⟩)
    refine Ev.bindC (fail_z 1 41 1 19 ((6 * 40 + 0 : Nat) : Int) 0 0 0 0 0) ?_
    (intro _ ds h0; cases h0; refine ⟨rfl, Ev.yes rfl ?_⟩)
    refine evDf (fun n => parse_Parse_L0_j2_def n _ _ _ _ _ _ _ _ _ _ _ _) (Ev.bindC (d_module hd 0 0 1 41 1) ?_)
    rintro _ ds ⟨y, d, c, q0, q1, q2, f, ⟨a, b, g, ps, qs, its, rfl⟩, F, he, h0⟩
    cases h0
    obtain ⟨rfl, rfl, rfl, rfl⟩ := F.1 (by decide)
    refine ⟨rfl, Ev.yes rfl (Ev.bindC (cont_no (u := u.take 40) (by rw [List.length_take]; omega) (fun x hx => hE x (List.mem_of_mem_take hx)) a b g ps qs its) ?_)⟩
    (intro _ ds h0; cases h0; refine ⟨rfl, Ev.yes rfl ?_⟩)
    refine Ev.no rfl (Ev.yes (Nat.ble_eq_true_of_le (by show (acM 1 (u.take 40)).length + 1 ≤ maxLst; simp only [maxLst]; omega)) ?_)
    exact Ev.eq (fun n => parse_Parse_L0_eq n _ _ _ _ _ _ _ _ _ _ _ _) (Ev.no rfl (evDf (fun n => parse_Parse_L0_j1_def n _ _ _ _ _ _ _ _ _ _ _ _ _) (Ev.no rfl (Ev.ret ⟨d, c, _, rfl⟩))))) 40 0 rfl (Nat.zero_le _)
  obtain ⟨r, ⟨d, c, xs, hr⟩, hE'⟩ := evfix E
  exact parse_of rfl (hE'.mono fun r' h => h.trans hr) rfl
/-- A name twice. -/
theorem mods_twice {nm : List UInt8} {u : List (List UInt8)} (hu : u.length < 39) (h : Nms (nm :: u)) : Ev (fun n => parse_Parse n (.lst 5 (lnsK 1 ((nm :: u) ++ [nm])))) fun r => r = (true, [.agg [.int .i64 1, .int .i64 (((u.length + 2 : Nat)) : Int), .int .i64 1], .int .i64 10, .lst 7 []]) := by
  have hw : ((nm :: u) ++ [nm]).length = u.length + 2 := by simp
  have ht : ((nm :: u) ++ [nm]).take (u.length + 1) = nm :: u := by
    rw [show u.length + 1 = (nm :: u).length from rfl, List.take_left]
  have hg : ((nm :: u) ++ [nm])[u.length + 1]'(by omega) = nm := by
    rw [List.getElem_append_right (by simp)]; simp
  have hl := lnsK_len 1 ((nm :: u) ++ [nm])
  have hA : (acM 1 (nm :: u)).length = u.length + 1 := by rw [acM_len]; rfl
  have hm := mod_at (u := (nm :: u) ++ [nm]) (j := u.length + 1) (by omega) (by rw [hg]; exact h.1 nm (List.mem_cons_self ..)) (by omega)
  rw [hg, show 1 + ((u.length + 1 : Nat) : Int) = ((u.length + 2 : Nat) : Int) from by omega] at hm
  have E := mods_to (u := (nm :: u) ++ [nm]) (by omega) (k := u.length + 1) (by omega) (by omega) (by rw [ht]; exact h) (P := fun r => ∃ (xs : List D), r = (false, [.int .i64 0, .int .i64 0, .int .i64 0, .lst 5 (lnsK 1 ((nm :: u) ++ [nm])), .int .i64 ((6 * (u.length + 1 + 1) : Nat) : Int), .int .i64 0, .int .i64 0, .int .i64 1, .int .i64 ((u.length + 2 : Nat) : Int), .int .i64 1, .int .i64 10, .lst 7 xs])) (by
    rw [ht]
    refine Ev.eq (fun n => parse_Parse_L0_eq n _ _ _ _ _ _ _ _ _ _ _ _) (Ev.yes rfl (evDf (fun n => parse_Parse_L0_j1_def n _ _ _ _ _ _ _ _ _ _ _ _ _) (Ev.yes (decide_eq_true (by omega)) (Ev.no (beq_eq_false_iff_ne.2 (by omega)) (evDf (fun n => parse_Parse_L0_j2_def n _ _ _ _ _ _ _ _ _ _ _ _) (Ev.bindC hm ?_))))))
    (intro _ ds h0; cases h0; refine ⟨rfl, Ev.yes rfl ?_⟩)
    refine Ev.bindC (cont_yes (u := u) (nm := nm) 1 ((u.length + 2 : Nat) : Int) 1 [] [] []) ?_
    (intro _ ds h0; cases h0; refine ⟨rfl, Ev.yes rfl ?_⟩)
    refine Ev.yes rfl (Ev.bindC (fail_z 1 ((u.length + 2 : Nat) : Int) 1 10 ((6 * (u.length + 1 + 1) : Nat) : Int) 0 0 0 0 0) ?_)
    (intro _ ds h0; cases h0; refine ⟨rfl, Ev.yes rfl ?_⟩)
    refine Ev.yes (Nat.ble_eq_true_of_le (by show (acM 1 (nm :: u)).length + 1 ≤ maxLst; simp only [maxLst]; omega)) ?_
    exact Ev.eq (fun n => parse_Parse_L0_eq n _ _ _ _ _ _ _ _ _ _ _ _) (Ev.no rfl (evDf (fun n => parse_Parse_L0_j1_def n _ _ _ _ _ _ _ _ _ _ _ _ _) (Ev.no rfl (Ev.ret ⟨_, rfl⟩))))) (u.length + 1) 0 rfl (Nat.zero_le _)
  obtain ⟨r, ⟨xs, hr⟩, hE'⟩ := evfix E
  exact parse_of rfl (hE'.mono fun r' h => h.trans hr) rfl
end Go.Proofs.YtalibicpmfbieaaGreatDoor
