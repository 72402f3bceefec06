/- ElabFaults, plain. -/
import Derived.Test.YtpmjplpnpnmlcaaGreatDoorFaD
import Derived.Test.YtpmjplpnpnmlcaaGreatDoorFaE0
import Derived.Test.YtpmjplpnpnmlcaaGreatDoorFaE1
import Derived.Test.YtpmjplpnpnmlcaaGreatDoorFaE2
import Derived.Test.YtpmjplpnpnmlcaaGreatDoorFaE3
import Derived.Test.YtpmjplpnpnmlcaaGreatDoorFaE4
import Derived.Test.YtpmjplpnpnmlcaaGreatDoorFaE5
import Derived.Test.YtpmjplpnpnmlcaaGreatDoorFaE6
import Derived.Test.YtpmjplpnpnmlcaaGreatDoorFaE7
set_option linter.all false
namespace Go.Proofs.YtpmjplpnpnmlcaaGreatDoor
open Go.AE
theorem fau_all : ∀ j, j < 32 → Fau (bo j) (fs j).2.1 (fs j).2.2
  | 0, _ => fau0
  | 1, _ => fau1
  | 2, _ => fau2
  | 3, _ => fau3
  | 4, _ => fau4
  | 5, _ => fau5
  | 6, _ => fau6
  | 7, _ => fau7
  | 8, _ => fau8
  | 9, _ => fau9
  | 10, _ => fau10
  | 11, _ => fau11
  | 12, _ => fau12
  | 13, _ => fau13
  | 14, _ => fau14
  | 15, _ => fau15
  | 16, _ => fau16
  | 17, _ => fau17
  | 18, _ => fau18
  | 19, _ => fau19
  | 20, _ => fau20
  | 21, _ => fau21
  | 22, _ => fau22
  | 23, _ => fau23
  | 24, _ => fau24
  | 25, _ => fau25
  | 26, _ => fau26
  | 27, _ => fau27
  | 28, _ => fau28
  | 29, _ => fau29
  | 30, _ => fau30
  | 31, _ => fau31
  | n + 32, h => absurd h (by omega)
def fOne (L j : Nat) : D := .agg [.str (List.replicate L 10 ++ 109 :: bo j), .int .i64 (IntKind.i64.wrap ((L : Int) + 3)), .int .i64 (fs j).2.1, .int .i64 (fs j).2.2]
def fl (L : Nat) : List D := [fOne L 0, fOne L 1, fOne L 2, fOne L 3, fOne L 4, fOne L 5, fOne L 6, fOne L 7, fOne L 8, fOne L 9, fOne L 10, fOne L 11, fOne L 12, fOne L 13, fOne L 14, fOne L 15, fOne L 16, fOne L 17, fOne L 18, fOne L 19, fOne L 20, fOne L 21, fOne L 22, fOne L 23, fOne L 24, fOne L 25, fOne L 26, fOne L 27, fOne L 28, fOne L 29, fOne L 30, fOne L 31]
theorem fl_at {L : Nat} : ∀ j, j < 32 → (fl L)[j]?.getD .top = fOne L j
  | 0, _ => rfl
  | 1, _ => rfl
  | 2, _ => rfl
  | 3, _ => rfl
  | 4, _ => rfl
  | 5, _ => rfl
  | 6, _ => rfl
  | 7, _ => rfl
  | 8, _ => rfl
  | 9, _ => rfl
  | 10, _ => rfl
  | 11, _ => rfl
  | 12, _ => rfl
  | 13, _ => rfl
  | 14, _ => rfl
  | 15, _ => rfl
  | 16, _ => rfl
  | 17, _ => rfl
  | 18, _ => rfl
  | 19, _ => rfl
  | 20, _ => rfl
  | 21, _ => rfl
  | 22, _ => rfl
  | 23, _ => rfl
  | 24, _ => rfl
  | 25, _ => rfl
  | 26, _ => rfl
  | 27, _ => rfl
  | 28, _ => rfl
  | 29, _ => rfl
  | 30, _ => rfl
  | 31, _ => rfl
  | n + 32, h => absurd h (by omega)
def flIs (L : Nat) : Prop := go 300 2 [.int .i64 (L : Int)] = some (true, [.lst 4 (fl L)])
set_option maxRecDepth 100000 in
theorem faults_all : ∀ L, L ≤ 20 → flIs L
  | 0, _ => by show go 300 2 _ = _; kernel_rfl
  | 1, _ => by show go 300 2 _ = _; kernel_rfl
  | 2, _ => by show go 300 2 _ = _; kernel_rfl
  | 3, _ => by show go 300 2 _ = _; kernel_rfl
  | 4, _ => by show go 300 2 _ = _; kernel_rfl
  | 5, _ => by show go 300 2 _ = _; kernel_rfl
  | 6, _ => by show go 300 2 _ = _; kernel_rfl
  | 7, _ => by show go 300 2 _ = _; kernel_rfl
  | 8, _ => by show go 300 2 _ = _; kernel_rfl
  | 9, _ => by show go 300 2 _ = _; kernel_rfl
  | 10, _ => by show go 300 2 _ = _; kernel_rfl
  | 11, _ => by show go 300 2 _ = _; kernel_rfl
  | 12, _ => by show go 300 2 _ = _; kernel_rfl
  | 13, _ => by show go 300 2 _ = _; kernel_rfl
  | 14, _ => by show go 300 2 _ = _; kernel_rfl
  | 15, _ => by show go 300 2 _ = _; kernel_rfl
  | 16, _ => by show go 300 2 _ = _; kernel_rfl
  | 17, _ => by show go 300 2 _ = _; kernel_rfl
  | 18, _ => by show go 300 2 _ = _; kernel_rfl
  | 19, _ => by show go 300 2 _ = _; kernel_rfl
  | 20, _ => by show go 300 2 _ = _; kernel_rfl
  | n + 21, h => absurd h (by omega)
set_option maxRecDepth 100000 in
theorem awake_is : Ru 1 [] (true, [.bool true]) := go_Ru (n := 1000) (by kernel_rfl)
theorem line_is {L : Nat} (h : L ≤ 20) : IntKind.i64.wrap (IntKind.i64.wrap (1 + (L : Int) + 1) + 1) = IntKind.i64.wrap ((L : Int) + 3) := by
  rw [wrap_id (x := 1 + (L : Int) + 1) (by omega) (by omega)]
  congr 1; omega
theorem bo_len : ∀ j, (bo j).length < 100000 := by
  intro j
  have h : ∀ j, (fs j).1.length < 1000 := by
    intro j
    unfold fs
    split <;> decide
  have := h j
  have h1 : hd.length < 1000 := by decide
  have h2 : tp.length < 1000 := by decide
  have h3 : rs.length < 1000 := by decide
  unfold bo
  simp only [List.length_append]
  omega
theorem elabFaults_plain (lines pick : Int) : Ru 0 [.int .i64 lines, .int .i64 pick] (true, [.bool true]) := by
  obtain ⟨L, hL, h20⟩ : ∃ L : Nat, (L : Int) = max 0 (min lines 20) ∧ L ≤ 20 := ⟨(max 0 (min lines 20)).toNat, by omega, by omega⟩
  obtain ⟨j, hj, h32⟩ : ∃ j : Nat, (j : Int) = (IntKind.i64.wrap (pick.tmod 32 + 32)).tmod 32 ∧ j < 32 := by
    have h1 := Int.tmod_lt_of_pos pick (show (0 : Int) < 32 by decide)
    have h2 : -32 < pick.tmod 32 := by
      have := Int.tmod_lt_of_pos (-pick) (show (0 : Int) < 32 by decide)
      rw [Int.neg_tmod] at this
      omega
    rw [wrap_id (by omega) (by omega)]
    have h3 := Int.tmod_lt_of_pos (pick.tmod 32 + 32) (show (0 : Int) < 32 by decide)
    have h4 := Int.tmod_nonneg (a := pick.tmod 32 + 32) 32 (by omega)
    exact ⟨((pick.tmod 32 + 32).tmod 32).toNat, by omega, by omega⟩
  obtain ⟨N1, h1⟩ := awake_is
  obtain ⟨N2, h2⟩ := go_Ru (faults_all L h20)
  obtain ⟨N3, h3⟩ := fault_is (fau_all j h32) h20 (bo_len j)
  refine ⟨N1 + N2 + N3 + 1, fun n hn => ?_⟩
  obtain ⟨k, rfl⟩ : ∃ k, n = k + 1 := ⟨n - 1, by omega⟩
  have hx : nrmAll (sg 0).hs [.int .i64 lines, .int .i64 pick] = true := by kernel_rfl
  rw [R_eqn q0 hx, expAt_n hx, show (sg 0).hs.length = 2 by kernel_rfl]
  unfold p0
  refine (den_c (r := [.bool true]) (h1 k (by omega)) (by kernel_rfl)).trans ?_
  rw [show (holes (sg 1).ro).length = 1 by kernel_rfl]
  refine (den_if rfl).trans ?_
  rw [den_l, den_l]
  refine (den_c (r := [.lst 4 (fl L)]) ?_ (by kernel_rfl)).trans ?_
  · show R k 2 [.int .i64 (max 0 (min lines 20))] = _
    rw [← hL]; exact h2 k (by omega)
  rw [show (holes (sg 2).ro).length = 1 by kernel_rfl]
  refine (den_if rfl).trans ?_
  rw [den_l, den_l]
  refine (den_if rfl).trans ?_
  rw [den_l]
  refine (den_g ?_).trans ?_
  · show (decide ((0 : Int) ≤ (IntKind.i64.wrap (pick.tmod 32 + 32)).tmod 32) && decide ((IntKind.i64.wrap (pick.tmod 32 + 32)).tmod 32 < 32)) = true
    rw [← hj, decide_eq_true (by omega), decide_eq_true (by omega)]; rfl
  have hg : ∀ V : Nat → D, V 5 = .lst 4 (fl L) → V 8 = .int .i64 ((IntKind.i64.wrap (pick.tmod 32 + 32)).tmod 32) → (E.g 5 8).den V = fOne L j := by
    intro V h5 h8
    show (V 5).l[(V 8).i.toNat]?.getD .top = _
    rw [h5, h8, ← hj]
    show (fl L)[(j : Int).toNat]?.getD .top = _
    rw [Int.toNat_natCast]; exact fl_at j h32
  refine (den_t rfl ?_).trans ?_
  · rw [hg _ rfl rfl]; rfl
  rw [hg _ rfl rfl]
  refine (den_c (h3 k (by omega)) (by kernel_rfl)).trans ?_
  rw [show (holes (sg 3).ro).length = 3 by kernel_rfl]
  refine (den_it ?_).trans ?_
  · show ((fs j).2.2 == (fs j).2.2) = true
    exact beq_self_eq_true _
  refine (den_it ?_).trans ?_
  · show eqLeaves [.int .i64 1, .int .i64 (IntKind.i64.wrap (IntKind.i64.wrap (1 + (L : Int) + 1) + 1)), .int .i64 (fs j).2.1] [.int .i64 1, .int .i64 (IntKind.i64.wrap ((L : Int) + 3)), .int .i64 (fs j).2.1] = true
    rw [line_is h20]
    simp [eqLeaves, eqLeaf]
  exact (den_it rfl).trans rfl
end Go.Proofs.YtpmjplpnpnmlcaaGreatDoor
