/- Lines of modules: names, texts, words and their places. -/
import Derived.Test.YtalibicpmfbieaaGreatDoorYqA0
import Derived.Test.YtalibicpmfbieaaGreatDoorLexTexts
import Derived.Test.YtalibicpmfbieaaGreatDoorPxI
import Derived.Test.YtalibicpmfbieaaGreatDoorYdA
namespace Go.Proofs.YtalibicpmfbieaaGreatDoor
open Go.AE
set_option linter.unusedVariables false
set_option linter.unusedSimpArgs false
def nmM (r : Nat) : List UInt8 := [109, UInt8.ofNat (97 + r % 26), UInt8.ofNat (97 + r / 26)]
theorem nmM_sp : ∀ r : Nat, r ≤ 45 → spanN p2 [UInt8.ofNat (97 + r % 26), UInt8.ofNat (97 + r / 26)] = 2 := by decide +kernel
theorem nmM_good : ∀ r : Nat, r ≤ 45 → goodN (nmM r) = true := by decide +kernel
theorem nmM_ne : ∀ j : Nat, j ≤ 45 → ∀ k : Nat, k ≤ 45 → j < k → (nmM j == nmM k) = false := by decide +kernel
theorem nmM_wd {r : Nat} (hr : r ≤ 45) : Wd (nmM r) 1 := by
  have h := word_name (c := 109) (t := [UInt8.ofNat (97 + r % 26), UInt8.ofNat (97 + r / 26)]) (by simp) rfl
  rw [nmM_sp r hr] at h
  exact (word_stable (k := 1) (m := 3) (by simp) h).2.2
/-- A line without its end. -/
def lnT (nm : List UInt8) : List UInt8 := [109, 111, 100, 117, 108, 101, 32] ++ (nm ++ [32, 40, 32, 41, 32, 59, 32, 101, 110, 100, 109, 111, 100, 117, 108, 101])
def lnsT : List (List UInt8) → List UInt8
  | [] => []
  | nm :: r => (lnT nm ++ [10]) ++ lnsT r
theorem lnsT_app : ∀ (u v : List (List UInt8)), lnsT (u ++ v) = lnsT u ++ lnsT v
  | [], v => rfl
  | nm :: u, v => by show (lnT nm ++ [10]) ++ lnsT (u ++ v) = ((lnT nm ++ [10]) ++ lnsT u) ++ lnsT v; rw [lnsT_app u v, List.append_assoc (lnT nm ++ [10])]
theorem lnsT_len : ∀ (u : List (List UInt8)), (∀ nm ∈ u, nm.length = 3) → (lnsT u).length = 27 * u.length
  | [], _ => rfl
  | nm :: u, h => by
    have h1 := h nm (List.mem_cons_self ..)
    have h2 := lnsT_len u fun x hx => h x (List.mem_cons_of_mem _ hx)
    show ((lnT nm ++ [10]) ++ lnsT u).length = 27 * (u.length + 1)
    simp only [lnT, List.length_append, List.length_cons, List.length_nil, h1, h2]; omega
/-- A module's words in a line. -/
def lnK (r : Int) (nm : List UInt8) : List D := [tokD 1 [109, 111, 100, 117, 108, 101] 1 r 1, tokD 1 nm 1 r 8, tokD 3 [40] 1 r 12, tokD 3 [41] 1 r 14, tokD 3 [59] 1 r 16, tokD 1 [101, 110, 100, 109, 111, 100, 117, 108, 101] 1 r 18]
def lnsK : Int → List (List UInt8) → List D
  | _, [] => []
  | r, nm :: u => lnK r nm ++ lnsK (r + 1) u
def NmOk (nm : List UInt8) : Prop := Wd nm 1 ∧ nm.length = 3
theorem inW_all {p : Tk} (h : allW.contains p = true) : Wd p.2 p.1 := wd_all p (by simpa using h)
theorem bl_32 : ∀ b ∈ ([32] : List UInt8), blankB b = true := by decide
theorem gap_32 (t : List UInt8) : Gap (32 :: t) := fun _ _ h => by injection h with h _; subst h; rfl
theorem ag {w : List UInt8} {k : Int} {p q q2 : Int × Int} {rest : List UInt8} {ts : List D} (hw : Wd w k) (h1 : mv p [32] = q) (h2 : mv q w = q2) (hg : Gap rest) (H : Agn q2 rest ts) : Agn p ([32] ++ (w ++ rest)) (tokD k w 1 q.1 q.2 :: ts) := by
  subst h1 h2
  exact Agn.cons bl_32 hw hg H
theorem agn_ln {nm : List UInt8} (hn : NmOk nm) {r : Int} {p : Int × Int} {bl : List UInt8} (hb : ∀ b ∈ bl, blankB b = true) (hp : mv p bl = (r, 1)) {rest : List UInt8} {ts : List D} (hg : Gap rest) (H : Agn (r, 27) rest ts) : Agn p (bl ++ (lnT nm ++ rest)) (lnK r nm ++ ts) := by
  obtain ⟨hw, hl⟩ := hn
  have e : mv (r, 8) nm = (r, 11) := by rw [mv_flat _ _ _ hw.nb, hl]; rfl
  have h6 := ag (p := (r, 17)) (q := (r, 18)) (q2 := (r, 27)) (inW_all (p := (1, [101, 110, 100, 109, 111, 100, 117, 108, 101])) (by kernel_rfl)) rfl rfl hg H
  have h5 := ag (p := (r, 15)) (q := (r, 16)) (q2 := (r, 17)) (inW_all (p := (3, [59])) (by kernel_rfl)) rfl rfl (gap_32 _) h6
  have h4 := ag (p := (r, 13)) (q := (r, 14)) (q2 := (r, 15)) (inW_all (p := (3, [41])) (by kernel_rfl)) rfl rfl (gap_32 _) h5
  have h3 := ag (p := (r, 11)) (q := (r, 12)) (q2 := (r, 13)) (inW_all (p := (3, [40])) (by kernel_rfl)) rfl rfl (gap_32 _) h4
  have h2 := ag (p := (r, 7)) (q := (r, 8)) (q2 := (r, 11)) hw rfl e (gap_32 _) h3
  have h1 := Agn.cons (p := p) (bl := bl) (w := [109, 111, 100, 117, 108, 101]) (ts := _) hb (inW_all (p := (1, [109, 111, 100, 117, 108, 101])) (by kernel_rfl)) (gap_32 _) (by rw [hp]; exact h2)
  rw [hp] at h1
  have : lnT nm ++ rest = [109, 111, 100, 117, 108, 101] ++ ([32] ++ (nm ++ ([32] ++ ([40] ++ ([32] ++ ([41] ++ ([32] ++ ([59] ++ ([32] ++ ([101, 110, 100, 109, 111, 100, 117, 108, 101] ++ rest)))))))))) := by simp [lnT]
  rw [this]
  exact h1
theorem agn_lns {E : List UInt8} {tE : List D} : ∀ (nms : List (List UInt8)), (∀ nm ∈ nms, NmOk nm) → ∀ (r : Int) (p : Int × Int) (bl : List UInt8), (∀ b ∈ bl, blankB b = true) → mv p bl = (r, 1) →
    (∀ (p : Int × Int) (bl : List UInt8), (∀ b ∈ bl, blankB b = true) → mv p bl = (r + (nms.length : Int), 1) → Agn p (bl ++ E) tE) → Agn p (bl ++ (lnsT nms ++ E)) (lnsK r nms ++ tE)
  | [], _, r, p, bl, hb, hp, H => H p bl hb (by rw [hp]; show (r, 1) = (r + (0 : Int), 1); rw [Int.add_zero])
  | nm :: nms, hn, r, p, bl, hb, hp, H => by
    have I := agn_lns nms (fun x hx => hn x (List.mem_cons_of_mem _ hx)) (r + 1) (r, 27) [10] (by decide) rfl fun p bl hb hp => H p bl hb (by rw [hp, List.length_cons]; congr 1; omega)
    have A := agn_ln (hn nm (List.mem_cons_self ..)) hb hp (fun b t h => by injection h with h _; subst h; rfl) I
    have e1 : lnsT (nm :: nms) ++ E = lnT nm ++ ([10] ++ (lnsT nms ++ E)) := by
      show ((lnT nm ++ [10]) ++ lnsT nms) ++ E = _
      simp only [List.append_assoc]
    have e2 : lnsK r (nm :: nms) ++ tE = lnK r nm ++ (lnsK (r + 1) nms ++ tE) := by
      show (lnK r nm ++ lnsK (r + 1) nms) ++ tE = _
      rw [List.append_assoc]
    rw [e1, e2]
    exact A
theorem agn_all {nms : List (List UInt8)} (h : ∀ nm ∈ nms, NmOk nm) : Agn (1, 1) (lnsT nms) (lnsK 1 nms) := by
  have := agn_lns (E := []) (tE := []) nms h 1 (1, 1) [] (fun b hb => by cases hb) rfl fun p bl hb _ => by rw [List.append_nil]; exact .nil hb
  rw [List.append_nil, List.append_nil] at this
  exact this
theorem agn_more {nms : List (List UInt8)} (h : ∀ nm ∈ nms, NmOk nm) {nm : List UInt8} (hn : NmOk nm) : Agn (1, 1) (lnsT nms ++ lnT nm) (lnsK 1 (nms ++ [nm])) := by
  have := agn_lns (E := lnT nm) (tE := lnK (1 + (nms.length : Int)) nm) nms h 1 (1, 1) [] (fun b hb => by cases hb) rfl fun p bl hb hp => by
    have := agn_ln hn (rest := []) (ts := []) hb hp (fun b t h => by cases h) (.nil (bl := []) fun b hb => by cases hb)
    rwa [List.append_nil, List.append_nil] at this
  have e : ∀ (r : Int) (u : List (List UInt8)), lnsK r (u ++ [nm]) = lnsK r u ++ lnK (r + (u.length : Int)) nm := by
    intro r u
    induction u generalizing r with
    | nil => show lnK r nm ++ [] = [] ++ lnK (r + (0 : Int)) nm; rw [Int.add_zero, List.append_nil]; rfl
    | cons x u ih =>
      show lnK r x ++ lnsK (r + 1) (u ++ [nm]) = (lnK r x ++ lnsK (r + 1) u) ++ lnK (r + ((u.length + 1 : Nat) : Int)) nm
      rw [ih, List.append_assoc, show r + 1 + (u.length : Int) = r + ((u.length + 1 : Nat) : Int) from by omega]
  rw [e]
  exact this
theorem lnsK_len : ∀ (r : Int) (u : List (List UInt8)), (lnsK r u).length = 6 * u.length
  | _, [] => rfl
  | r, nm :: u => by
    show (lnK r nm ++ lnsK (r + 1) u).length = 6 * (u.length + 1)
    rw [List.length_append, lnsK_len (r + 1) u]
    show 6 + _ = _
    omega
theorem lnsK_toks : ∀ (r : Int) (u : List (List UInt8)), Tks (lnsK r u)
  | _, [] => fun y hy => by cases hy
  | r, nm :: u => fun y hy => by
    rcases List.mem_append.1 (show y ∈ lnK r nm ++ lnsK (r + 1) u from hy) with h | h
    · simp only [lnK, List.mem_cons, List.not_mem_nil, or_false] at h
      rcases h with rfl | rfl | rfl | rfl | rfl | rfl <;> exact ⟨_, _, _, _, _, rfl⟩
    · exact lnsK_toks (r + 1) u y h
/-- The words of the module of a number. -/
theorem lnsK_at : ∀ (u : List (List UInt8)) (r : Int) (j : Nat) (hj : j < u.length) (q : Nat), q < 6 → (lnsK r u)[6 * j + q]? = (lnK (r + (j : Int)) u[j])[q]?
  | nm :: u, r, 0, _, q, hq => by
    show (lnK r nm ++ lnsK (r + 1) u)[0 + q]? = (lnK (r + (0 : Int)) nm)[q]?
    rw [Int.add_zero, Nat.zero_add, List.getElem?_append_left (by exact hq)]
  | nm :: u, r, j + 1, hj, q, hq => by
    have hj' : j < u.length := by simpa using hj
    have I := lnsK_at u (r + 1) j hj' q hq
    show (lnK r nm ++ lnsK (r + 1) u)[6 * (j + 1) + q]? = (lnK (r + ((j + 1 : Nat) : Int)) u[j])[q]?
    rw [List.getElem?_append_right (by show 6 ≤ _; omega), show 6 * (j + 1) + q - (lnK r nm).length = 6 * j + q from by show 6 * (j + 1) + q - 6 = _; omega, I, show r + 1 + (j : Int) = r + ((j + 1 : Nat) : Int) from by omega]
end Go.Proofs.YtalibicpmfbieaaGreatDoor
