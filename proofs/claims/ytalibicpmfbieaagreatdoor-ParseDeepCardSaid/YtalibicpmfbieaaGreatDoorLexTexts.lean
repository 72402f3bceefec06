/- LexTexts, plain: words with blanks between are read again as the same. -/
import Derived.Test.YtalibicpmfbieaaGreatDoorLexAgain
namespace Go.Proofs.YtalibicpmfbieaaGreatDoor
open Go.AE
set_option linter.unusedVariables false
set_option linter.unusedSimpArgs false
/-- Where words stand that are written with one blank between. -/
def plc (c : Int) : List D → List D
  | [] => []
  | y :: ts => tokD (kw y).1 (kw y).2 1 1 c :: plc (c + ((kw y).2.length : Int) + 1) ts
def jt : List D → List UInt8
  | [] => []
  | y :: ts => [32] ++ joinStr [32] (words (y :: ts))
theorem join_cons (y : D) (ts : List D) : joinStr [32] (words (y :: ts)) = (kw y).2 ++ jt ts := by
  cases ts with
  | nil => show (kw y).2 = (kw y).2 ++ []; rw [List.append_nil]
  | cons z ts => rfl
theorem mv_flat (a c : Int) : ∀ w : List UInt8, (∀ b ∈ w, blankB b = false) → mv (a, c) w = (a, c + (w.length : Int))
  | [], _ => by show (a, c) = (a, c + 0); rw [Int.add_zero]
  | b :: w, h => by
    have hb := h b (List.mem_cons_self ..)
    have e : ((b.toNat : Int) == 10) = false := by
      cases hx : ((b.toNat : Int) == 10) with
      | false => rfl
      | true =>
        have h1 : b.toNat = 10 := by have := eq_of_beq hx; omega
        have : b = 10 := UInt8.toNat_inj.1 h1
        subst this; cases hb
    have e2 : mvB (a, c) b = (a, c + 1) := by unfold mvB; rw [e]; rfl
    show mv (mvB (a, c) b) w = _
    rw [e2, mv_flat a (c + 1) w fun x hx => h x (List.mem_cons_of_mem _ hx)]
    simp only [List.length_cons, Prod.mk.injEq, true_and]
    omega
theorem gap_jt (ts : List D) : Gap (jt ts) := by
  intro b t h
  cases ts with
  | nil => cases h
  | cons y ts => have h : (32 : UInt8) :: joinStr [32] (words (y :: ts)) = b :: t := h; injection h with h1; subst h1; rfl
theorem again_jt : ∀ (ts : List D) (c : Int), WToks ts → Again (1, c) (jt ts) (plc (c + 1) ts)
  | [], c, _ => .nil
  | y :: ts, c, h => by
    obtain ⟨k, w, a, b, d, rfl, hW⟩ := h y (List.mem_cons_self ..)
    have hm : mv (1, c) [32] = (1, c + 1) := rfl
    have ih := again_jt ts (c + 1 + (w.length : Int)) fun z hz => h z (List.mem_cons_of_mem _ hz)
    have hc := Again.cons (p := (1, c)) (k := k) (bl := [32]) (w := w) (rest := jt ts) (ts := plc (c + 1 + (w.length : Int) + 1) ts) (fun b hb => by rw [List.mem_singleton.1 hb]; rfl) hW (gap_jt ts) (by rw [hm, mv_flat 1 (c + 1) w hW.nb]; exact ih)
    show Again (1, c) ([32] ++ joinStr [32] (words (tokD k w a b d :: ts))) _
    rw [join_cons]
    exact hc
theorem again_join (ts : List D) (h : WToks ts) : Again (1, 1) (joinStr [32] (words ts)) (plc 1 ts) := by
  cases ts with
  | nil => exact .nil
  | cons y ts =>
    obtain ⟨k, w, a, b, d, rfl, hW⟩ := h y (List.mem_cons_self ..)
    rw [join_cons]
    have ih := again_jt ts (1 + (w.length : Int)) fun z hz => h z (List.mem_cons_of_mem _ hz)
    exact Again.cons (p := (1, 1)) (k := k) (bl := []) (w := w) (rest := jt ts) (ts := plc (1 + (w.length : Int) + 1) ts) (fun b hb => by simp at hb) hW (gap_jt ts) (by show Again (mv (1, 1) w) _ _; rw [mv_flat 1 1 w hW.nb]; exact ih)
theorem plc_len : ∀ (c : Int) (ts : List D), (plc c ts).length = ts.length
  | _, [] => rfl
  | c, y :: ts => by simp only [plc, List.length_cons, plc_len]
theorem plc_toks : ∀ (c : Int) (ts : List D), Toks (plc c ts)
  | _, [] => fun y hy => by simp [plc] at hy
  | c, y :: ts => fun z hz => by
    rcases List.mem_cons.1 hz with rfl | hz
    · exact ⟨_, _, _, _, _, rfl⟩
    · exact plc_toks _ ts z hz
theorem toks_plainT {ts : List D} (h : Toks ts) : ts.all plainD = true := List.all_eq_true.2 fun y hy => by
  obtain ⟨k, t, a, b, c, rfl⟩ := h y hy
  rfl
theorem plain3T {sk : Sk} {e : Int} {ts : List D} {xs : List D} (h : Toks ts) : plainDs sk [.agg xs, .int .i64 e, .lst 5 ts] = true := by simp [plainDs, toks_plainT h]
end Go.Proofs.YtalibicpmfbieaaGreatDoor
