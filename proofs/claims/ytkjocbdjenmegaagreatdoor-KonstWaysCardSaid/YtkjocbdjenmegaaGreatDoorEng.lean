/- An abstract interpreter of the model and its soundness, part 3. -/
import Derived.Test.YtkjocbdjenmegaaGreatDoorEng2
import Derived.Sort.Walk0
import Derived.Sort.EncStr
import Derived.Sort.Grow
import Derived.Lib.SlicesCompact
import Derived.Lib.IndexMore
import Derived.Lib.Join
import Derived.Below
import Derived.Lib.ItoaNum
import Derived.Lib.LaidTab
import Derived.IntWalk

/- Sorting and compacting of texts: the library's contracts as the interpreter's answers. -/
namespace Go.AE
open Go.RowKit Go.Sort Go.Proofs

theorem encStr_of {h : Nat → Option Obj} {s : List UInt8} {v : Value} (hv : VD h (.str s) v) : v = encStr s := by
  obtain ⟨b, rfl, rfl⟩ := hv
  simp [encStr]
theorem encStr_VD (h : Nat → Option Obj) (s : List UInt8) : VD h (.str s) (encStr s) := ⟨_, rfl, by simp⟩
theorem cells_str (s : List UInt8) : (encStr s).cells = #[encStr s] := rfl
theorem strs_cells {h : Nat → Option Obj} : ∀ {xs : List D} {l : List (List UInt8)} {us : List Value}, strsOf xs = some l → VDf h 1 xs us → us = l.map encStr ∧ xs = l.map D.str
  | [], l, us, h1, h2 => by
    cases h1
    exact ⟨h2, rfl⟩
  | x :: xs, l, us, h1, h2 => by
    cases x with
    | str s =>
      simp only [strsOf] at h1
      split at h1
      · rename_i l' hl'
        cases h1
        obtain ⟨v, r, rfl, _, _, hv, hr⟩ := h2
        obtain ⟨e1, e2⟩ := strs_cells hl' hr
        have hv := encStr_of hv
        subst hv
        exact ⟨by simp [e1, cells_str], by simp [e2]⟩
      · cases h1
    | _ => cases h1
theorem VDf_strs (h : Nat → Option Obj) : ∀ l : List (List UInt8), VDf h 1 (l.map D.str) (l.map encStr)
  | [] => rfl
  | s :: l => ⟨encStr s, l.map encStr, rfl, rfl, fun u hu => (by simp [cells_str] at hu; subst hu; rfl), encStr_VD h s, VDf_strs h l⟩

theorem putCells_size (d : Array (List UInt8)) (c : Array Value) : (putCells encStr 0 d c).size = c.size := by simp [putCells]
theorem putCells_take (l : List (List UInt8)) (c : Array Value) (h : l.length ≤ c.size) : (putCells encStr 0 l.toArray c).toList.take l.length = l.map encStr := by
  apply List.ext_getElem?
  intro k
  simp only [putCells, List.getElem?_take, Array.getElem?_toList, Array.getElem?_mapIdx, List.getElem?_map]
  split
  · rename_i hk
    have hc : k < c.size := by omega
    rw [Array.getElem?_eq_getElem hc, List.getElem?_eq_getElem hk]
    simp [hk]
  · rename_i hk
    rw [List.getElem?_eq_none (by omega)]; rfl
theorem putRow_heap {w : World} {b : Nat} {cur : Array Value} {e : TypeId} (d : Array (List UInt8)) (n : Nat) (os : Array Obj) (hb : w.heap[b]? = some (.cells cur e (0, 0))) :
    (grow (putRow encStr (Sort.ahead w n) b 0 d) os).heap[b]? = some (.cells (putCells encStr 0 d cur) e (0, 0)) ∧ ∀ k, k < w.heap.size → k ≠ b → (grow (putRow encStr (Sort.ahead w n) b 0 d) os).heap[k]? = w.heap[k]? := by
  have hlt := heap_lt hb
  constructor
  · show ((w.heap.modify b (onCells _)) ++ os)[b]? = _
    rw [Array.getElem?_append_left (by simpa using hlt), Array.getElem?_modify, if_pos rfl, hb]
    rfl
  · intro k hk hne
    show ((w.heap.modify b (onCells _)) ++ os)[k]? = _
    rw [Array.getElem?_append_left (by simpa using hk), Array.getElem?_modify, if_neg (Ne.symm hne)]

/-! Two ways to sort. -/
theorem insS_perm (x : List UInt8) : ∀ l, (insS x l).Perm (x :: l)
  | [] => .refl _
  | y :: r => by
    simp only [insS]
    cases Op.bytesLess y x with
    | true => exact ((insS_perm x r).cons y).trans (List.Perm.swap x y r)
    | false => exact .refl _
theorem sortS_perm : ∀ l, (sortS l).Perm l
  | [] => .refl _
  | x :: r => (insS_perm x (sortS r)).trans ((sortS_perm r).cons x)
theorem insS_pair {x : List UInt8} : ∀ {l : List (List UInt8)}, l.Pairwise (fun a b => a ≤ b) → (insS x l).Pairwise (fun a b => a ≤ b)
  | [], _ => by simp [insS]
  | y :: r, h => by
    rw [List.pairwise_cons] at h
    simp only [insS, bytesLess_eq]
    by_cases hb : y < x
    · rw [decide_eq_true hb, cond_true, List.pairwise_cons]
      refine ⟨fun z hz => ?_, insS_pair h.2⟩
      rcases List.mem_cons.1 ((insS_perm x r).mem_iff.1 hz) with rfl | hz
      · exact List.le_of_lt hb
      · exact h.1 z hz
    · rw [decide_eq_false hb, cond_false, List.pairwise_cons]
      refine ⟨fun z hz => ?_, List.pairwise_cons.2 h⟩
      have hxy : x ≤ y := List.not_lt.1 hb
      rcases List.mem_cons.1 hz with rfl | hz
      · exact hxy
      · exact List.le_trans hxy (h.1 z hz)
theorem sortS_pair : ∀ l, (sortS l).Pairwise (fun a b => a ≤ b)
  | [] => .nil
  | _ :: r => insS_pair (sortS_pair r)
theorem sortS_merge (l : List (List UInt8)) : l.mergeSort (fun x y => decide (x ≤ y)) = sortS l := by
  refine List.Perm.eq_of_pairwise (le := fun a b => a ≤ b) (fun a b _ _ h1 h2 => List.le_antisymm h1 h2) ?_ (sortS_pair l) ((List.mergeSort_perm l _).trans (sortS_perm l).symm)
  have := List.pairwise_mergeSort (le := fun (x y : List UInt8) => decide (x ≤ y)) (fun a b c h1 h2 => by simp only [decide_eq_true_eq] at *; exact List.le_trans h1 h2) (fun a b => by simp only [Bool.or_eq_true, decide_eq_true_eq]; exact List.le_total a b) l
  exact this.imp fun h => of_decide_eq_true h

/-! Compacting. -/
theorem compS_two (y z : List UInt8) (l : List (List UInt8)) : compS (y :: z :: l) = if y = z then compS (z :: l) else y :: compS (z :: l) := by
  by_cases e : y = z
  · subst e; rw [if_pos rfl]; conv => lhs; unfold compS
    simp
  · have : (y == z) = false := by simpa using e
    rw [if_neg e]; conv => lhs; unfold compS
    simp [this]
theorem compS_snoc (x : List UInt8) : ∀ l : List (List UInt8), compS (l ++ [x]) = compS l ++ if l.getLast? = some x then [] else [x]
  | [] => by simp [compS]
  | [y] => by
    rw [List.singleton_append, compS_two]
    by_cases e : y = x
    · subst e; simp [compS]
    · simp [compS, e]
  | y :: z :: l => by
    have ih := compS_snoc x (z :: l)
    have e : (y :: z :: l) ++ [x] = y :: z :: (l ++ [x]) := rfl
    have e' : (z :: l) ++ [x] = z :: (l ++ [x]) := rfl
    rw [e, compS_two, compS_two, ← e', ih, List.getLast?_cons_cons]
    split <;> rfl
theorem compact_eq (zs : List (List UInt8)) : Lib.compact zs = compS zs := by
  have key : ∀ m, m ≤ zs.length → Lib.compactUpTo zs.toArray m = compS (zs.take m) := by
    intro m
    induction m with
    | zero => intro _; rfl
    | succ m ih =>
      intro hm
      have hlt : m < zs.length := by omega
      rw [Lib.compactUpTo_succ, ih (by omega), List.take_succ_eq_append_getElem hlt, compS_snoc]
      congr 1
      have e1 : zs.toArray[m]! = zs[m] := by rw [getElem!_pos zs.toArray m (by simpa using hlt)]; simp
      rw [e1]
      unfold Lib.keeps
      cases m with
      | zero => simp
      | succ k =>
        have e2 : zs.toArray[k + 1 - 1]! = zs[k] := by rw [getElem!_pos zs.toArray (k + 1 - 1) (by simp; omega)]; simp
        have e3 : (zs.take (k + 1)).getLast? = some zs[k] := by
          rw [List.take_succ_eq_append_getElem (by omega), List.getLast?_append]; simp
        rw [e1, e2, e3]
        by_cases h : zs[k + 1] = zs[k]
        · simp [h]
        · have h' : zs[k] ≠ zs[k + 1] := fun e => h e.symm
          simp [h, h']
  have := key zs.length (Nat.le_refl _)
  rw [List.take_length] at this
  exact this
theorem compS_len : ∀ l : List (List UInt8), (compS l).length ≤ l.length
  | [] => by simp [compS]
  | [y] => by simp [compS]
  | y :: z :: l => by
    have := compS_len (z :: l)
    rw [compS_two]
    split
    · simp only [List.length_cons] at this ⊢; omega
    · simp only [List.length_cons] at this ⊢; omega

section
variable {c : Cfg} {f : Nat}

theorem orcSort_spec
    (h1 : ∀ (blk off cap : Nat) (ss : List (List UInt8)) (w : World), Holds encStr w blk off ss.toArray → blk < w.heap.size → ss.length < 4611686018427387904 →
      Calls c.P f #[.slice (some ⟨blk, off, none⟩) ss.length cap] w fun e w' => e = .returned (.tuple #[]) ∧ ∃ n os, w' = grow (putRow encStr (Sort.ahead w n) blk off (ss.mergeSort fun x y => decide (x ≤ y)).toArray) os)
    (h0 : ∀ (p : Option Addr) (cap : Nat) (w : World), Calls c.P f #[.slice p 0 cap] w fun e w' => e = .returned (.tuple #[]) ∧ w' = w) (hr : ∀ fn, c.P.funcs[f]? = some fn → fn.resultTypes = #[]) :
    ∀ sk ds r, orcSort sk ds = some r → CallSpec c f sk ds r := by
  intro sk ds r h fn hf u g _ args w hsz S ht
  unfold orcSort at h
  split at h
  · rename_i e xs
    split at h
    · rename_i l hl
      replace h := bif_some h
      obtain ⟨hmax, h⟩ := h
      have hmax : l.length ≤ 68719476736 := Nat.le_of_ble_eq_true hmax
      cases h
      have hres := hr fn hf
      obtain ⟨us, _, hown, hF⟩ := S.ob 0 (.row e 1 xs false) rfl
      obtain ⟨eu, ex⟩ := strs_cells hl hF
      have hlen : xs.length = l.length := by rw [ex]; simp
      have ha : args = #[g.hdr 0] := by
        have h2 := (ht 0).1
        have h3 : args.getD 0 undef = g.hdr 0 := h2.1
        have h4 : args.size = 1 := hsz
        apply Array.ext
        · simpa using h4
        · intro i hi1 hi2
          have : i = 0 := by omega
          subst this
          rw [Array.getD_eq_getD_getElem?, Array.getElem?_eq_getElem hi1] at h3
          simpa using h3
      have hosk : outSk c.P (c.dres f) fn.resultTypes.toList ⟨[(0, .row 0)], [.row e 1 1]⟩ = ⟨[], [.row e 1 1]⟩ := by rw [hres]; rfl
      have fin : ∀ w', (∀ k, k < w.heap.size → some k ≠ (g.hdr 0).ownBlock → w'.heap[k]? = w.heap[k]?) → w'.os = w.os → w'.tape = w.tape → w'.output = w.output → w.heap.size ≤ w'.heap.size →
          w'.ownsRow 0 e 1 (g.hdr 0) l.length ((sortS l).map encStr) →
          ∃ v, Ending.returned (.tuple #[]) = .returned v ∧ ∃ g' tm', SimH u (· < (outSk c.P (c.dres f) fn.resultTypes.toList ⟨[(0, .row 0)], [.row e 1 1]⟩).objs.length) g' (injectE E0 (outSk c.P (c.dres f) fn.resultTypes.toList ⟨[(0, .row 0)], [.row e 1 1]⟩) [.lst 1 ((sortS l).map D.str)]).h w' ∧
            (∀ t, VV g' ((injectE E0 (outSk c.P (c.dres f) fn.resultTypes.toList ⟨[(0, .row 0)], [.row e 1 1]⟩) [.lst 1 ((sortS l).map D.str)]).t t) (tm' t) ∧ ((injectE E0 (outSk c.P (c.dres f) fn.resultTypes.toList ⟨[(0, .row 0)], [.row e 1 1]⟩) [.lst 1 ((sortS l).map D.str)]).t t).uses (· < (outSk c.P (c.dres f) fn.resultTypes.toList ⟨[(0, .row 0)], [.row e 1 1]⟩).objs.length)) ∧
            Ext g w g' w' ∧ (∀ l' o, lookN (preOf 0 [.row e 1 1]) l' = some o → g'.blk l' = g.blk l' ∧ g'.hdr l' = g.hdr l') ∧ v = resVal (outSk c.P (c.dres f) fn.resultTypes.toList ⟨[(0, .row 0)], [.row e 1 1]⟩).slots tm' := by
        intro w' k1 k2 k3 k4 k5 k6
        rw [hosk]
        have hs : (sortS l).length = l.length := (sortS_perm l).length_eq
        have hn : ∀ b, (g.hdr 0).ownBlock = some b → g.h b = none ∧ u b = none := fun b hb => S.sep 0 (.row e 1 xs false) b rfl hb
        have hkeep : ∀ k x, (g.h k = some x ∨ u k = some x) → w.heap[k]? = some x → w'.heap[k]? = some x := fun k x hx hk => by
          rw [k1 k (heap_lt hk) ?_]; exact hk
          intro e'
          obtain ⟨a1, a2⟩ := hn k e'.symm
          rcases hx with hx | hx
          · rw [a1] at hx; cases hx
          · rw [a2] at hx; cases hx
        have only : ∀ o x, (injectE E0 ⟨[], [.row e 1 1]⟩ [.lst 1 ((sortS l).map D.str)]).h o = some x → o = 0 ∧ x = .row e 1 ((sortS l).map D.str) false := by
          intro o x hx
          cases o with
          | zero => cases hx; exact ⟨rfl, rfl⟩
          | succ o => cases hx
        refine ⟨.tuple #[], rfl, g, fun _ => undef, ⟨fun b x hx => hkeep b x (.inl hx) (S.frz b x hx), fun b x hx => hkeep b x (.inr hx) (S.unt b x hx), fun o x hx => ?_, fun o x b hx hb => ?_, fun o o' x x' b hx hx' _ _ => ?_, fun o x hx => ?_, S.dj⟩, fun t => ⟨trivial, trivial⟩, ⟨fun _ _ h => h, k2, k3, k4, k5⟩, fun _ _ _ => ⟨rfl, rfl⟩, rfl⟩
        · obtain ⟨rfl, rfl⟩ := only o x hx
          refine ⟨(sortS l).map encStr, Nat.one_pos, ?_, VDf_strs _ _⟩
          have e1 : ((sortS l).map D.str).length = l.length := by simp [hs]
          rw [e1]; exact k6
        · obtain ⟨rfl, rfl⟩ := only o x hx
          exact hn b hb
        · rw [(only o x hx).1, (only o' x' hx').1]
        · obtain ⟨rfl, rfl⟩ := only o x hx
          exact ⟨Nat.one_pos, trivial⟩
      rw [ha]
      rcases ownsRow_form hown with ⟨k1, k2, k3⟩ | ⟨b, cap, cur, k1, k2, k3, k4, k5, k6, k7⟩
      · have hl0 : l = [] := List.eq_nil_of_length_eq_zero (by rw [← hlen]; exact k2)
        subst hl0
        rw [k1]
        refine (h0 none 0 w).mono ?_
        rintro e' w' ⟨rfl, rfl⟩
        refine fin w' (fun _ _ _ => rfl) rfl rfl rfl (Nat.le_refl _) ?_
        rw [k1]
        exact World.ownsRow_nil w' 0 e 1
      · rw [k1, hlen]
        rw [hlen] at k3 k6 k7
        rw [Nat.mul_one] at k5 k6 k7
        have hH : Holds encStr w b 0 l.toArray := by
          intro j hj
          have hj : j < l.length := by simpa using hj
          constructor
          · rw [Nat.zero_add, cell_of_row w b j cur e (0, 0) k2]
            have : (cur.toList.take l.length)[j]? = (us)[j]? := by rw [k6]
            rw [List.getElem?_take, if_pos hj, Array.getElem?_toList, eu, List.getElem?_map, List.getElem?_eq_getElem hj] at this
            rw [this]
            simp [hj]
          · simp [World.frozen?, k2]
        refine (h1 b 0 cap l w hH (heap_lt k2) (by omega)).mono ?_
        rintro e' w' ⟨rfl, n, os, rfl⟩
        rw [sortS_merge]
        have hs : (sortS l).length = l.length := (sortS_perm l).length_eq
        obtain ⟨j1, j2⟩ := putRow_heap (sortS l).toArray n os k2
        refine fin _ (fun k hk hne => j2 k hk (fun e' => hne (by rw [e', k1]; rfl))) rfl rfl rfl ?_ ?_
        · show w.heap.size ≤ ((w.heap.modify b _) ++ os).size
          simp
        · rw [k1]
          refine ⟨by simp [hs], .inr ⟨b, cap, _, by rw [hlen], Nat.zero_le _, j1, k3, k4, by rw [putCells_size, k5, Nat.mul_one], ?_⟩⟩
          rw [Nat.mul_one, ← hs]
          exact putCells_take (sortS l) cur (by rw [hs, k5]; exact k3)
    · cases h
  · cases h

theorem orcCompact_spec {e0 : TypeId}
    (h1 : ∀ (blk off cap : Nat) (zs : List (List UInt8)) (w : World), Holds encStr w blk off zs.toArray → zs.length ≤ 9223372036854775807 → zs.length ≤ cap →
      Calls c.P f #[.slice (some ⟨blk, off, none⟩) zs.length cap] w fun e w' => e = .returned (.slice (some ⟨blk, off, none⟩) (Lib.compact zs).length cap) ∧
        ∃ q, w' = putRow encStr (Sort.ahead w q) blk off (Lib.compact zs ++ List.replicate (zs.length - (Lib.compact zs).length) []).toArray)
    (h0 : ∀ (p : Option Addr) (cap : Nat) (w : World), Calls c.P f #[.slice p 0 cap] w fun e w' => e = .returned (.slice p 0 cap) ∧ w' = w)
    (hr : ∀ fn, c.P.funcs[f]? = some fn → ∃ t, fn.resultTypes = #[t] ∧ elemT c.P t = some e0) (hs : szT c.P e0 = 1) (hd : c.dres f 0 = 0) :
    ∀ sk ds r, orcCompact e0 sk ds = some r → CallSpec c f sk ds r := by
  intro sk ds r h fn hf u g _ args w hsz S ht
  unfold orcCompact at h
  split at h
  · rename_i e xs
    split at h
    · rename_i l hl
      replace h := bif_some h
      obtain ⟨hb, h⟩ := h
      have hb : e = e0 := beq_iff.1 hb
      cases h
      subst hb
      obtain ⟨t, hres, hel⟩ := hr fn hf
      obtain ⟨us, _, hown, hF⟩ := S.ob 0 (.row e 1 xs false) rfl
      obtain ⟨eu, ex⟩ := strs_cells hl hF
      have hlen : xs.length = l.length := by rw [ex]; simp
      have ha : args = #[g.hdr 0] := by
        have h2 := (ht 0).1
        have h3 : args.getD 0 undef = g.hdr 0 := h2.1
        have h4 : args.size = 1 := hsz
        apply Array.ext
        · simpa using h4
        · intro i hi1 hi2
          have : i = 0 := by omega
          subst this
          rw [Array.getD_eq_getD_getElem?, Array.getElem?_eq_getElem hi1] at h3
          simpa using h3
      have hosk : outSk c.P (c.dres f) fn.resultTypes.toList ⟨[(0, .row 0)], [.row e 1 2]⟩ = ⟨[(0, .row 1)], [.gone, .row e 1 0]⟩ := by
        simp only [hres, outSk, outRes, hd, hel]
        show (⟨[(0, .row 1)], [.gone, .row e (szT c.P e) 0]⟩ : Sk) = _
        rw [hs]
      have fin : ∀ w' nv, (∀ k, k < w.heap.size → some k ≠ (g.hdr 0).ownBlock → w'.heap[k]? = w.heap[k]?) → w'.os = w.os → w'.tape = w.tape → w'.output = w.output → w.heap.size ≤ w'.heap.size →
          w'.ownsRow 0 e 1 nv (compS l).length ((compS l).map encStr) → nv.ownBlock = (g.hdr 0).ownBlock → nv.oneCell' = true →
          ∃ v, Ending.returned nv = .returned v ∧ ∃ g' tm', SimH u (· < (outSk c.P (c.dres f) fn.resultTypes.toList ⟨[(0, .row 0)], [.row e 1 2]⟩).objs.length) g' (injectE E0 (outSk c.P (c.dres f) fn.resultTypes.toList ⟨[(0, .row 0)], [.row e 1 2]⟩) [.lst 1 ((compS l).map D.str)]).h w' ∧
            (∀ t, VV g' ((injectE E0 (outSk c.P (c.dres f) fn.resultTypes.toList ⟨[(0, .row 0)], [.row e 1 2]⟩) [.lst 1 ((compS l).map D.str)]).t t) (tm' t) ∧ ((injectE E0 (outSk c.P (c.dres f) fn.resultTypes.toList ⟨[(0, .row 0)], [.row e 1 2]⟩) [.lst 1 ((compS l).map D.str)]).t t).uses (· < (outSk c.P (c.dres f) fn.resultTypes.toList ⟨[(0, .row 0)], [.row e 1 2]⟩).objs.length)) ∧
            Ext g w g' w' ∧ (∀ l' o, lookN (preOf 0 [.row e 1 2]) l' = some o → g'.blk l' = g.blk l' ∧ g'.hdr l' = g.hdr l') ∧ v = resVal (outSk c.P (c.dres f) fn.resultTypes.toList ⟨[(0, .row 0)], [.row e 1 2]⟩).slots tm' := by
        intro w' nv k1 k2 k3 k4 k5 k6 k7 k8
        rw [hosk]
        have hn : ∀ b, (g.hdr 0).ownBlock = some b → g.h b = none ∧ u b = none := fun b hb => S.sep 0 (.row e 1 xs false) b rfl hb
        have hkeep : ∀ k x, (g.h k = some x ∨ u k = some x) → w.heap[k]? = some x → w'.heap[k]? = some x := fun k x hx hk => by
          rw [k1 k (heap_lt hk) ?_]; exact hk
          intro e'
          obtain ⟨a1, a2⟩ := hn k e'.symm
          rcases hx with hx | hx
          · rw [a1] at hx; cases hx
          · rw [a2] at hx; cases hx
        have only : ∀ o x, (injectE E0 ⟨[(0, .row 1)], [.gone, .row e 1 0]⟩ [.lst 1 ((compS l).map D.str)]).h o = some x → o = 1 ∧ x = .row e 1 ((compS l).map D.str) false := by
          intro o x hx
          match o, hx with
          | 0, hx => cases hx
          | 1, hx => cases hx; exact ⟨rfl, rfl⟩
          | (o + 2), hx => cases hx
        refine ⟨nv, rfl, ⟨g.h, g.blk, fun x => if x = 1 then nv else g.hdr x⟩, fun _ => nv, ⟨fun b x hx => hkeep b x (.inl hx) (S.frz b x hx), fun b x hx => hkeep b x (.inr hx) (S.unt b x hx), fun o x hx => ?_, fun o x b hx hb => ?_, fun o o' x x' b hx hx' _ _ => ?_, fun o x hx => ?_, S.dj⟩, fun t => ?_, ⟨fun _ _ h => h, k2, k3, k4, k5⟩, fun l' o hlo => (by cases hlo), rfl⟩
        · obtain ⟨rfl, rfl⟩ := only o x hx
          refine ⟨(compS l).map encStr, Nat.one_pos, ?_, VDf_strs _ _⟩
          have e1 : ((compS l).map D.str).length = (compS l).length := by simp
          rw [e1]; exact k6
        · obtain ⟨rfl, rfl⟩ := only o x hx
          have hb : nv.ownBlock = some b := hb
          rw [k7] at hb
          exact hn b hb
        · rw [(only o x hx).1, (only o' x' hx').1]
        · obtain ⟨rfl, rfl⟩ := only o x hx
          exact ⟨(by decide : 1 < 2), trivial⟩
        · cases t with
          | zero => exact ⟨⟨rfl, k8⟩, (by decide : 1 < 2)⟩
          | succ t => exact ⟨trivial, trivial⟩
      rw [ha]
      have hlc := compS_len l
      rcases ownsRow_form hown with ⟨k1, k2, k3⟩ | ⟨b, cap, cur, k1, k2, k3, k4, k5, k6, k7⟩
      · have hl0 : l = [] := List.eq_nil_of_length_eq_zero (by rw [← hlen]; exact k2)
        subst hl0
        rw [k1]
        refine (h0 none 0 w).mono ?_
        rintro e' w' ⟨rfl, rfl⟩
        refine fin w' _ (fun _ _ _ => rfl) rfl rfl rfl (Nat.le_refl _) ?_ (by rw [k1]) rfl
        exact World.ownsRow_nil w' 0 e 1
      · rw [k1, hlen]
        rw [hlen] at k3 k6 k7
        rw [Nat.mul_one] at k5 k6 k7
        have hH : Holds encStr w b 0 l.toArray := by
          intro j hj
          have hj : j < l.length := by simpa using hj
          constructor
          · rw [Nat.zero_add, cell_of_row w b j cur e (0, 0) k2]
            have : (cur.toList.take l.length)[j]? = (us)[j]? := by rw [k6]
            rw [List.getElem?_take, if_pos hj, Array.getElem?_toList, eu, List.getElem?_map, List.getElem?_eq_getElem hj] at this
            rw [this]
            simp [hj]
          · simp [World.frozen?, k2]
        refine (h1 b 0 cap l w hH (by simp only [maxLen] at k4; omega) k3).mono ?_
        rintro e' w' ⟨rfl, n, rfl⟩
        rw [compact_eq]
        obtain ⟨j1, j2⟩ := putRow_heap (compS l ++ List.replicate (l.length - (compS l).length) []).toArray n #[] k2
        rw [grow_empty] at j1 j2
        have hlen2 : (compS l ++ List.replicate (l.length - (compS l).length) []).length = l.length := by simp; omega
        refine fin _ _ (fun k hk hne => j2 k hk (fun e' => hne (by rw [e', k1]; rfl))) rfl rfl rfl ?_ ?_ (by rw [k1]; rfl) rfl
        · show w.heap.size ≤ (w.heap.modify b _).size
          simp
        · refine ⟨by simp, .inr ⟨b, cap, _, rfl, Nat.zero_le _, j1, by omega, k4, by rw [putCells_size, k5, Nat.mul_one], ?_⟩⟩
          have := putCells_take (compS l ++ List.replicate (l.length - (compS l).length) []) cur (by rw [hlen2, k5]; exact k3)
          rw [hlen2] at this
          have e9 : ∀ zs : List Value, zs.take (compS l).length = (zs.take l.length).take (compS l).length := fun zs => by rw [List.take_take, Nat.min_eq_left hlc]
          rw [Nat.mul_one, e9, this]
          simp
    · cases h
  · cases h

/-- The library's answers, all together. -/
def OrcOne (c : Cfg) (f : Nat) (x : Sk → List D → Option (List D)) : Prop := ∀ sk ds r, x sk ds = some r → CallSpec c f sk ds r
theorem orcTab_spec {c : Cfg} : ∀ (l : List (Nat × (Sk → List D → Option (List D)))), (∀ p ∈ l, OrcOne c p.1 p.2) → ∀ f sk ds r, orcTab l f sk ds = some r → CallSpec c f sk ds r
  | [], _, _, _, _, _, h => by cases h
  | (a, x) :: l, hl, f, sk, ds, r, h => by
    simp only [orcTab] at h
    by_cases e : f = a
    · subst e
      rw [beq_iff.2 rfl, cond_true] at h
      exact hl (f, x) (by simp) sk ds r h
    · rw [beq_false e, cond_false] at h
      exact orcTab_spec l (fun p hp => hl p (by simp [hp])) f sk ds r h
end
end Go.AE

/- Searching and joining of texts: the library's contracts as the interpreter's answers. -/
namespace Go.AE
open Go.RowKit

section
variable {c : Cfg} {f : Nat}

/-- A function of data that answers data and may only make memory. -/
theorem pure_spec {sk : Sk} {ds out : List D} {slots : List (Nat × SV)} (ho : sk.objs = []) (hosk : ∀ fn, c.P.funcs[f]? = some fn → outSk c.P (c.dres f) fn.resultTypes.toList sk = ⟨slots, []⟩)
    (h : ∀ (g : G) (args : Array Value) (w : World), c.gok g.h → (∀ b x, g.h b = some x → w.heap[b]? = some x) → (∀ t, VV g ((injectE E0 sk ds).t t) (args.getD t undef)) → args.size = sk.slots.length →
      Calls c.P f args w fun e w' => ∃ v, e = .returned v ∧ Below w.heap.size w w' ∧ ∃ tm', v = resVal slots tm' ∧ ∀ t, VV g ((injectE E0 ⟨slots, []⟩ out).t t) (tm' t) ∧ ((injectE E0 ⟨slots, []⟩ out).t t).uses (· < 0)) : CallSpec c f sk ds out := by
  intro fn hf u g hg args w hsz S ht
  rw [hosk fn hf]
  refine (h g args w hg S.frz (fun t => (ht t).1) hsz).mono ?_
  rintro e w' ⟨v, he, hb, tm', hv, htm⟩
  have hnone : ∀ o x, (injectE E0 ⟨slots, []⟩ out).h o = some x → False := fun o x hx => by cases hx
  refine ⟨v, he, g, tm', ⟨fun b x hx => ?_, fun b x hx => ?_, fun o x hx => (hnone o x hx).elim, fun o x b hx => (hnone o x hx).elim, fun o o' x x' b hx => (hnone o x hx).elim, fun o x hx => (hnone o x hx).elim, S.dj⟩, htm, ⟨fun _ _ h => h, hb.os, hb.tape, hb.output, hb.size⟩, fun l o hl => ?_, hv⟩
  · have := S.frz b x hx
    rw [hb.block b (heap_lt this)]; exact this
  · have := S.unt b x hx
    rw [hb.block b (heap_lt this)]; exact this
  · rw [ho] at hl; cases hl

theorem str_val {h : Nat → Option Obj} {s : List UInt8} {v : Value} (hv : VD h (.str s) v) : ∃ b : ByteArray, v = .string b ∧ b.data.toList = s := hv
theorem args_two {a b : Value} {args : Array Value} (h0 : args.getD 0 undef = a) (h1 : args.getD 1 undef = b) (hs : args.size = 2) : args = #[a, b] := by
  apply Array.ext
  · simpa using hs
  · intro i hi1 hi2
    have : i = 0 ∨ i = 1 := by omega
    rcases this with rfl | rfl
    · rw [Array.getD_eq_getD_getElem?, Array.getElem?_eq_getElem hi1] at h0; simpa using h0
    · rw [Array.getD_eq_getD_getElem?, Array.getElem?_eq_getElem hi1] at h1; simpa using h1

theorem idxStr_eq (sub : List UInt8) : ∀ (s : List UInt8) (j : Nat), idxStr sub s j = if Lib.index s sub = -1 then -1 else (j : Int) + Lib.index s sub
  | [], j => by
    unfold idxStr Lib.index
    cases sub.isEmpty <;> simp
  | b :: l, j => by
    have ih := idxStr_eq sub l (j + 1)
    have hge := Lib.index_ge l sub
    unfold idxStr Lib.index
    cases hp : sub.isPrefixOf (b :: l) with
    | true => simp
    | false =>
      simp only [cond_false, ih]
      by_cases h : Lib.index l sub = -1
      · simp [h]
      · have h2 : ¬ Lib.index l sub + 1 = -1 := by omega
        simp [h, h2]; omega
theorem idxStr_index (s sub : List UInt8) : idxStr sub s 0 = Lib.index s sub := by
  rw [idxStr_eq]
  split
  · rename_i h; rw [h]
  · simp
theorem cutStr_eq (s t : List UInt8) : cutStr s t = Lib.cut s t := by
  unfold cutStr Lib.cut
  rw [idxStr_index]
  cases Lib.index s t with
  | ofNat i => simp
  | negSucc i => simp
theorem joinStr_eq (sep : List UInt8) : ∀ l, joinStr sep l = Lib.join l sep
  | [] => rfl
  | [x] => (Lib.join_one x sep).symm
  | x :: y :: r => by
    have ih := joinStr_eq sep (y :: r)
    have e : joinStr sep (x :: y :: r) = x ++ (sep ++ joinStr sep (y :: r)) := rfl
    rw [e, ih, Lib.join_cons, Lib.join_cons]
    simp [Lib.joinTail]

theorem hasInt_mono {gv : Nat} {h h' : Nat → Option Obj} (hh : ∀ b x, h b = some x → h' b = some x) (k : HasInt gv h) : HasInt gv h' := by
  obtain ⟨m, e⟩ := k
  exact ⟨m, cellIn_mono hh e⟩
theorem hasInt_cell {gv : Nat} {h : Nat → Option Obj} {w : World} (hf : ∀ b x, h b = some x → w.heap[b]? = some x) (k : HasInt gv h) : ∃ m : Int, w.cell? ⟨gv, 0, none⟩ = some (.int .i64 m) := by
  obtain ⟨m, e⟩ := k
  exact ⟨m, cell_of_cellIn hf e⟩

theorem two_strs {g : G} {s t : List UInt8} {args : Array Value} (ht : ∀ i, VV g ((injectE E0 ⟨[(0, .d (.leaf .str)), (1, .d (.leaf .str))], []⟩ [.str s, .str t]).t i) (args.getD i undef)) (hs : args.size = 2) :
    ∃ a b : ByteArray, args = #[.string a, .string b] ∧ a.data.toList = s ∧ b.data.toList = t := by
  obtain ⟨a, h1, h2⟩ := str_val (show VD g.h (.str s) _ from ht 0)
  obtain ⟨b, h3, h4⟩ := str_val (show VD g.h (.str t) _ from ht 1)
  exact ⟨a, b, args_two h1 h3 hs, h2, h4⟩

theorem orcContains_spec {gv : Nat} (hgok : ∀ h, c.gok h → HasInt gv h)
    (h1 : ∀ (s sub : ByteArray) (m : Int) (w : World), s.size < 4294967281 → w.cell? ⟨gv, 0, none⟩ = some (.int .i64 m) → Calls c.P f #[.string s, .string sub] w fun e w' => e = .returned (.bool (Lib.contains s.data.toList sub.data.toList)) ∧ w' = w)
    (hr : ∀ fn, c.P.funcs[f]? = some fn → outSk c.P (c.dres f) fn.resultTypes.toList ⟨[(0, .d (.leaf .str)), (1, .d (.leaf .str))], []⟩ = ⟨[(0, .d (.leaf .bool))], []⟩) : OrcOne c f orcContains := by
  intro sk ds r h
  unfold orcContains at h
  split at h
  · rename_i s t
    replace h := bif_some h
    obtain ⟨hl, h⟩ := h
    have hl : s.length ≤ 4294967280 := Nat.le_of_ble_eq_true hl
    cases h
    refine pure_spec rfl hr fun g args w hg hfr ht hs => ?_
    obtain ⟨a, b, rfl, ha, hb⟩ := two_strs ht hs
    obtain ⟨m, hm⟩ := hasInt_cell hfr (hgok _ hg)
    have hsz : a.size < 4294967281 := by
      have : a.size = s.length := by rw [← ha]; simp
      omega
    refine (h1 a b m w hsz hm).mono ?_
    rintro e w' ⟨rfl, rfl⟩
    refine ⟨_, rfl, Below.refl _ _, fun _ => .bool (Lib.contains a.data.toList b.data.toList), rfl, fun i => ?_⟩
    cases i with
    | zero =>
      refine ⟨?_, trivial⟩
      show Value.bool _ = Value.bool _
      rw [ha, hb, idxStr_index]; rfl
    | succ i => exact ⟨trivial, trivial⟩
  · cases h
theorem orcIndex_spec {gv : Nat} (hgok : ∀ h, c.gok h → HasInt gv h)
    (h1 : ∀ (s sub : ByteArray) (m : Int) (w : World), s.size < 4294967281 → w.cell? ⟨gv, 0, none⟩ = some (.int .i64 m) → Calls c.P f #[.string s, .string sub] w fun e w' => e = .returned (.int .i64 (Lib.index s.data.toList sub.data.toList)) ∧ w' = w)
    (hr : ∀ fn, c.P.funcs[f]? = some fn → outSk c.P (c.dres f) fn.resultTypes.toList ⟨[(0, .d (.leaf .str)), (1, .d (.leaf .str))], []⟩ = ⟨[(0, .d (.leaf (.int .i64)))], []⟩) : OrcOne c f orcIndex := by
  intro sk ds r h
  unfold orcIndex at h
  split at h
  · rename_i s t
    replace h := bif_some h
    obtain ⟨hl, h⟩ := h
    have hl : s.length ≤ 4294967280 := Nat.le_of_ble_eq_true hl
    cases h
    refine pure_spec rfl hr fun g args w hg hfr ht hs => ?_
    obtain ⟨a, b, rfl, ha, hb⟩ := two_strs ht hs
    obtain ⟨m, hm⟩ := hasInt_cell hfr (hgok _ hg)
    have hsz : a.size < 4294967281 := by
      have : a.size = s.length := by rw [← ha]; simp
      omega
    refine (h1 a b m w hsz hm).mono ?_
    rintro e w' ⟨rfl, rfl⟩
    refine ⟨_, rfl, Below.refl _ _, fun _ => .int .i64 (Lib.index a.data.toList b.data.toList), rfl, fun i => ?_⟩
    cases i with
    | zero =>
      refine ⟨?_, trivial⟩
      show Value.int .i64 _ = Value.int .i64 _
      rw [ha, hb, idxStr_index]
    | succ i => exact ⟨trivial, trivial⟩
  · cases h
theorem orcCut_spec {gv : Nat} (hgok : ∀ h, c.gok h → HasInt gv h)
    (h1 : ∀ (s sep : ByteArray) (m : Int) (w : World), s.size < 4294967281 → w.cell? ⟨gv, 0, none⟩ = some (.int .i64 m) → Calls c.P f #[.string s, .string sep] w fun e w' =>
      e = .returned (.tuple #[.string ⟨(Lib.cut s.data.toList sep.data.toList).1.toArray⟩, .string ⟨(Lib.cut s.data.toList sep.data.toList).2.1.toArray⟩, .bool (Lib.cut s.data.toList sep.data.toList).2.2]) ∧ ∃ n, w' = w.drewN n)
    (hr : ∀ fn, c.P.funcs[f]? = some fn → outSk c.P (c.dres f) fn.resultTypes.toList ⟨[(0, .d (.leaf .str)), (1, .d (.leaf .str))], []⟩ = ⟨[(0, .d (.leaf .str)), (1, .d (.leaf .str)), (2, .d (.leaf .bool))], []⟩) : OrcOne c f orcCut := by
  intro sk ds r h
  unfold orcCut at h
  split at h
  · rename_i s t
    replace h := bif_some h
    obtain ⟨hl, h⟩ := h
    have hl : s.length ≤ 4294967280 := Nat.le_of_ble_eq_true hl
    cases h
    refine pure_spec rfl hr fun g args w hg hfr ht hs => ?_
    obtain ⟨a, b, rfl, ha, hb⟩ := two_strs ht hs
    obtain ⟨m, hm⟩ := hasInt_cell hfr (hgok _ hg)
    have hsz : a.size < 4294967281 := by
      have : a.size = s.length := by rw [← ha]; simp
      omega
    refine (h1 a b m w hsz hm).mono ?_
    rintro e w' ⟨rfl, n, rfl⟩
    rw [ha, hb]
    refine ⟨_, rfl, ⟨rfl, rfl, rfl, Nat.le_refl _, fun _ _ => rfl⟩, fun i => match i with | 0 => .string ⟨(Lib.cut s t).1.toArray⟩ | 1 => .string ⟨(Lib.cut s t).2.1.toArray⟩ | 2 => .bool (Lib.cut s t).2.2 | _ => undef, rfl, fun i => ?_⟩
    match i with
    | 0 => exact ⟨⟨_, rfl, by rw [cutStr_eq]⟩, trivial⟩
    | 1 => exact ⟨⟨_, rfl, by rw [cutStr_eq]⟩, trivial⟩
    | 2 =>
      refine ⟨?_, trivial⟩
      show Value.bool _ = Value.bool _
      rw [cutStr_eq]
    | (i + 3) => exact ⟨trivial, trivial⟩
  · cases h
theorem VDr_strs {h : Nat → Option Obj} : ∀ {l : List (List UInt8)} {ad : Addr}, VDr h 1 (l.map D.str) ad → ∀ (j : Nat) (s : List UInt8), l[j]? = some s → cellIn h (ad.add j) = some (Go.Proofs.encStr s)
  | [], _, _, j, s, hj => by simp at hj
  | x :: l, ad, ⟨⟨v, h1, h2, _, hv⟩, hr⟩, j, s, hj => by
    cases j with
    | zero =>
      simp at hj
      subst hj
      have hv := encStr_of hv
      subst hv
      have := h2 0 (Go.Proofs.encStr x) rfl
      exact this
    | succ j =>
      have := VDr_strs (l := l) hr j s (by simpa using hj)
      rw [addr_add_add] at this
      rwa [Nat.add_comm 1 j] at this
theorem strsOf_inv : ∀ {xs : List D} {l : List (List UInt8)}, strsOf xs = some l → xs = l.map D.str
  | [], l, h => by cases h; rfl
  | x :: xs, l, h => by
    cases x with
    | str s =>
      simp only [strsOf] at h
      split at h
      · rename_i l' hl'
        cases h
        rw [strsOf_inv hl']; rfl
      · cases h
    | _ => cases h
theorem orcJoin_spec
    (h0 : ∀ (a : Option Addr) (k : Nat) (sep : ByteArray) (w : World), Calls c.P f #[.slice a 0 k, .string sep] w fun e w' => e = .returned (.string ⟨#[]⟩) ∧ w' = w)
    (h1 : ∀ (bk o k : Nat) (xs : List ByteArray) (sep : ByteArray) (w : World), (∀ (j : Nat) x, xs[j]? = some x → w.cell? ⟨bk, o + j, none⟩ = some (.string x)) → bk < w.heap.size → xs.length ≤ 140737488355328 → xs.length ≤ k →
      (Lib.join (xs.map (·.data.toList)) sep.data.toList).length ≤ 140737488355328 →
      Calls c.P f #[.slice (some ⟨bk, o, none⟩) xs.length k, .string sep] w fun e w' => e = .returned (.string ⟨(Lib.join (xs.map (·.data.toList)) sep.data.toList).toArray⟩) ∧ Below w.heap.size w w')
    (hr : ∀ fn, c.P.funcs[f]? = some fn → outSk c.P (c.dres f) fn.resultTypes.toList ⟨[(0, .d (.leaf (.lst 1))), (1, .d (.leaf .str))], []⟩ = ⟨[(0, .d (.leaf .str))], []⟩) : OrcOne c f orcJoin := by
  intro sk ds r h
  unfold orcJoin at h
  split at h
  · rename_i xs t
    split at h
    · rename_i l hl
      replace h := bif_some h
      obtain ⟨hc, h⟩ := h
      simp only [Bool.and_eq_true] at hc
      have hl1 : l.length ≤ 68719476736 := Nat.le_of_ble_eq_true hc.1
      have hl2 : (joinStr t l).length ≤ 140737488355328 := Nat.le_of_ble_eq_true hc.2
      have hxs := strsOf_inv hl
      subst hxs
      cases h
      refine pure_spec rfl hr fun g args w hg hfr ht hs => ?_
      obtain ⟨A, cap, k1, k2, k3, k4⟩ := (show VD g.h (.lst 1 (l.map D.str)) _ from ht 0)
      obtain ⟨b, k5, k6⟩ := str_val (show VD g.h (.str t) _ from ht 1)
      have hargs := args_two k1 k5 hs
      subst hargs
      have fin : ∀ v : ByteArray, v.data.toList = joinStr t l → ∀ w', Below w.heap.size w w' → ∃ v', Ending.returned (.string v) = .returned v' ∧ Below w.heap.size w w' ∧ ∃ tm', v' = resVal [(0, .d (.leaf .str))] tm' ∧ ∀ i, VV g ((injectE E0 ⟨[(0, .d (.leaf .str))], []⟩ [.str (joinStr t l)]).t i) (tm' i) ∧ ((injectE E0 ⟨[(0, .d (.leaf .str))], []⟩ [.str (joinStr t l)]).t i).uses (· < 0) := by
        intro v hv w' hb
        refine ⟨_, rfl, hb, fun _ => .string v, rfl, fun i => ?_⟩
        cases i with
        | zero => exact ⟨⟨v, rfl, hv⟩, trivial⟩
        | succ i => exact ⟨trivial, trivial⟩
      rcases k4 with k4 | ⟨ad, rfl, k4⟩
      · have : l = [] := by simpa using k4
        subst this
        refine (h0 A cap b w).mono ?_
        rintro e w' ⟨rfl, rfl⟩
        exact fin _ rfl _ (Below.refl _ _)
      · cases l with
        | nil =>
          refine (h0 (some ad) cap b w).mono ?_
          rintro e w' ⟨rfl, rfl⟩
          exact fin _ rfl _ (Below.refl _ _)
        | cons x l =>
          have hcell := VDr_strs k4
          have h00 := hcell 0 x rfl
          have hspot : ad = ⟨ad.block, ad.off, none⟩ := by
            have e0 : ad.add 0 = ad := by simp [Addr.add]
            rw [e0] at h00
            unfold cellIn at h00
            split at h00
            · cases hsp : ad.spot with
              | none => cases ad; simp_all
              | some z => rw [hsp] at h00; simp at h00
            · cases h00
          rw [hspot] at hcell h00 ⊢
          have e0 : (⟨ad.block, ad.off, none⟩ : Addr).add 0 = ⟨ad.block, ad.off, none⟩ := by simp [Addr.add]
          have hbk : ad.block < w.heap.size := by
            rw [e0] at h00
            have := cell_of_cellIn hfr h00
            unfold World.cell? at this
            cases hw : w.heap[ad.block]? with
            | none => rw [hw] at this; cases this
            | some z => exact heap_lt hw
          have hmap : (((x :: l).map fun s => (⟨s.toArray⟩ : ByteArray)).map (·.data.toList)) = x :: l := by
            have key : ∀ z : List (List UInt8), ((z.map fun s => (⟨s.toArray⟩ : ByteArray)).map (·.data.toList)) = z := fun z => by
              induction z with
              | nil => rfl
              | cons y z ih => rw [List.map_cons, List.map_cons, ih]
            exact key _
          have hlen : ((x :: l).map fun s => (⟨s.toArray⟩ : ByteArray)).length = (x :: l).length := by simp
          have := h1 ad.block ad.off cap ((x :: l).map fun s => (⟨s.toArray⟩ : ByteArray)) b w (fun j y hj => by
            rw [List.getElem?_map] at hj
            cases hx : (x :: l)[j]? with
            | none => rw [hx] at hj; cases hj
            | some s =>
              rw [hx] at hj
              cases hj
              have := cell_of_cellIn hfr (hcell j s hx)
              rw [addr_add_plain] at this
              exact this) hbk (by rw [hlen]; omega) (by rw [hlen]; simpa using k2) (by rw [hmap, k6, ← joinStr_eq]; exact hl2)
          rw [hmap, k6, hlen] at this
          have e1 : ((x :: l).map D.str).length = (x :: l).length := by simp
          rw [e1]
          refine this.mono ?_
          rintro e w' ⟨rfl, hb⟩
          exact fin _ (by show (Lib.join (x :: l) t).toArray.toList = _; rw [joinStr_eq]) _ hb
    · cases h
  · cases h
end
end Go.AE

/- Numbers in decimal: the library's contract as the interpreter's answer. -/
namespace Go.AE
open Go.RowKit

theorem decS_eq : ∀ (k u : Nat) (acc : List UInt8), u < 10 ^ (k + 1) → decS (k + 1) u acc = Lib.decDigits u ++ acc := by
  intro k
  induction k with
  | zero =>
    intro u acc h
    have h : u < 10 := by simpa using h
    unfold decS
    rw [Lib.decDigits, dif_pos h, Nat.ble_eq_true_of_le (by omega)]; rfl
  | succ k ih =>
    intro u acc h
    unfold decS
    rw [Lib.decDigits]
    by_cases h10 : u < 10
    · rw [dif_pos h10, Nat.ble_eq_true_of_le (by omega)]; rfl
    · have hb : Nat.ble u 9 = false := by
        cases hx : Nat.ble u 9 with
        | false => rfl
        | true => have := Nat.le_of_ble_eq_true hx; omega
      have h2 : u / 10 < 10 ^ (k + 1) := by
        rw [Nat.pow_succ] at h
        omega
      rw [dif_neg h10, hb, cond_false, ih (u / 10) _ h2, List.append_assoc]
      rfl
theorem itoaS_eq {n : Int} (h0 : -9223372036854775808 ≤ n) (h1 : n ≤ 9223372036854775807) : itoaS n = Lib.itoa n := by
  cases n with
  | ofNat u =>
    have h1 : (u : Int) ≤ 9223372036854775807 := h1
    unfold Lib.itoa
    rw [if_neg (by simp)]
    show decS 20 u [] = Lib.decDigits u
    rw [decS_eq 19 u [] (by omega), List.append_nil]
  | negSucc u =>
    have h0 : u < 9223372036854775808 := by
      have := h0
      omega
    unfold Lib.itoa
    rw [if_pos (Int.negSucc_lt_zero u)]
    show 45 :: decS 20 (u + 1) [] = 45 :: Lib.decDigits (u + 1)
    rw [decS_eq 19 (u + 1) [] (by omega), List.append_nil]
/-- A table of integers lies in a variable. -/
def TabH (gv : Nat) (k : IntKind) (zs : List Int) (h : Nat → Option Obj) : Prop := ∃ t f, h gv = some (.cells (zs.map fun z => Value.int k z).toArray t f)
theorem tabH_mono {gv : Nat} {k : IntKind} {zs : List Int} {h h' : Nat → Option Obj} (hh : ∀ b x, h b = some x → h' b = some x) (x : TabH gv k zs h) : TabH gv k zs h' := by
  obtain ⟨t, f, e⟩ := x
  exact ⟨t, f, hh _ _ e⟩
theorem tabH_of {P : Program} {w : World} {name : String} {gv : Nat} {k : IntKind} {zs : List Int} (hg : P.globalNamed name = some gv) (h : Lib.TabIs P w name k zs) : TabH gv k zs (snap w) := by
  unfold Lib.TabIs World.var? at h
  rw [hg] at h
  simp only [Option.bind_some] at h
  split at h
  · rename_i cs t f hb
    cases h
    exact ⟨t, f, hb⟩
  · cases h
theorem tabIs_of {P : Program} {w : World} {name : String} {gv : Nat} {k : IntKind} {zs : List Int} {h : Nat → Option Obj} (hg : P.globalNamed name = some gv) (hf : ∀ b x, h b = some x → w.heap[b]? = some x) (x : TabH gv k zs h) : Lib.TabIs P w name k zs := by
  obtain ⟨t, f, e⟩ := x
  unfold Lib.TabIs World.var?
  rw [hg]
  simp only [Option.bind_some, hf _ _ e]
theorem below_grew (w : World) (k : Nat) (os : Array Obj) : Below w.heap.size w (Sort.grow (w.drewN k) os) :=
  ⟨rfl, rfl, rfl, by show w.heap.size ≤ (w.heap ++ os).size; simp, fun i hi => by
    show (w.heap ++ os)[i]? = w.heap[i]?
    rw [Array.getElem?_append_left hi]⟩
section
variable {c : Cfg} {f : Nat}
theorem int_one {g : G} {n : Int} {args : Array Value} (ht : ∀ i, VV g ((injectE E0 ⟨[(0, .d (.leaf (.int .i64)))], []⟩ [.int .i64 n]).t i) (args.getD i undef)) (hs : args.size = 1) : args = #[.int .i64 n] := by
  have h0 : args.getD 0 undef = .int .i64 n := (show VD g.h (.int .i64 n) _ from ht 0)
  apply Array.ext
  · simpa using hs
  · intro i hi1 hi2
    have : i = 0 := by omega
    subst this
    rw [Array.getD_eq_getD_getElem?, Array.getElem?_eq_getElem hi1] at h0; simpa using h0
theorem orcItoa_spec {name : String} {gv : Nat} (hg : c.P.globalNamed name = some gv) (hgok : ∀ h, c.gok h → TabH gv .u64 Lib.pow10Tab h)
    (h1 : ∀ (n : Int), -9223372036854775808 ≤ n → n ≤ 9223372036854775807 → ∀ (w : World), Lib.TabIs c.P w name .u64 Lib.pow10Tab → Calls c.P f #[.int .i64 n] w fun e w' => e = .returned (.string ⟨(Lib.itoa n).toArray⟩) ∧ ∃ k os, w' = Sort.grow (w.drewN k) os)
    (hr : ∀ fn, c.P.funcs[f]? = some fn → outSk c.P (c.dres f) fn.resultTypes.toList ⟨[(0, .d (.leaf (.int .i64)))], []⟩ = ⟨[(0, .d (.leaf .str))], []⟩) : OrcOne c f orcItoa := by
  intro sk ds r h
  unfold orcItoa at h
  split at h
  · rename_i n
    replace h := bif_some h
    obtain ⟨hl, h⟩ := h
    simp only [Bool.and_eq_true, decide_eq_true_eq] at hl
    cases h
    refine pure_spec rfl hr fun g args w hgk hfr ht hs => ?_
    have := int_one ht hs
    subst this
    refine (h1 n hl.1 hl.2 w (tabIs_of hg hfr (hgok _ hgk))).mono ?_
    rintro e w' ⟨rfl, k, os, rfl⟩
    refine ⟨_, rfl, below_grew w k os, fun _ => .string ⟨(Lib.itoa n).toArray⟩, rfl, fun i => ?_⟩
    cases i with
    | zero =>
      refine ⟨?_, trivial⟩
      show ∃ b : ByteArray, Value.string _ = .string b ∧ b.data.toList = itoaS n
      exact ⟨_, rfl, (itoaS_eq hl.1 hl.2).symm⟩
    | succ i => exact ⟨trivial, trivial⟩
  · cases h
end
end Go.AE

/- Small laws for plain proofs over tasks. -/
namespace Go.AE

theorem wrap_id {x : Int} (h1 : -9223372036854775808 ≤ x) (h2 : x ≤ 9223372036854775807) : IntKind.i64.wrap x = x := IntWalk.i64_in x ⟨h1, h2⟩
theorem get_in {P : D → Prop} {xs : List D} (h : ∀ x ∈ xs, P x) {v : Int} (h0 : 0 ≤ v) (h1 : v < xs.length) : P (xs[v.toNat]?.getD D.top) := by
  have : v.toNat < xs.length := by omega
  rw [List.getElem?_eq_getElem this]
  exact h _ (List.getElem_mem this)
/-- Bytes as data. -/
def Bytes (b : List D) : Prop := ∀ y ∈ b, ∃ i : Int, y = .int .u8 i ∧ 0 ≤ i ∧ i ≤ 255
theorem and_tt {a b : Bool} (ha : a = true) (hb : b = true) : (a && b) = true := by rw [ha, hb]; rfl
theorem wrap_succ {j : Nat} (h : j < 4611686018427387904) : IntKind.i64.wrap ((j : Int) + 1) = ((j + 1 : Nat) : Int) := by
  rw [wrap_id (by omega) (by omega)]; omega
theorem get_nat {xs : List D} {j : Nat} (h : j < xs.length) : xs[((j : Nat) : Int).toNat]?.getD D.top = xs[j] := by
  rw [Int.toNat_natCast, List.getElem?_eq_getElem h]; rfl
theorem drop_cons {α : Type} {xs : List α} {j : Nat} (h : j < xs.length) : xs.drop j = xs[j] :: xs.drop (j + 1) := List.drop_eq_getElem_cons h
theorem in_range {j m : Nat} (h : j < m) : (decide ((0 : Int) ≤ (j : Int)) && decide ((j : Int) < (m : Int))) = true := and_tt (decide_eq_true (by omega)) (decide_eq_true (by omega))
end Go.AE
