/- ParseParens, plain. -/
import Derived.Test.YtalibicpmfbieaaGreatDoorPxH
import Derived.Test.YtalibicpmfbieaaGreatDoorPaW
namespace Go.Proofs.YtalibicpmfbieaaGreatDoor
open Go.AE
set_option linter.unusedVariables false
set_option linter.unusedSimpArgs false
def hdW : List Tk := [(1, modT), (1, [109]), (3, [40]), (3, [41]), (3, [59]), (1, assT), (1, [121]), (3, [61])]
def tlW : List Tk := [(3, [59]), (1, endT)]
def tlS : List UInt8 := [59, 32, 101, 110, 100, 109, 111, 100, 117, 108, 101]
def hdS : List UInt8 := [109, 111, 100, 117, 108, 101, 32, 109, 32, 40, 32, 41, 32, 59, 32, 97, 115, 115, 105, 103, 110, 32, 121, 32, 61, 32]
theorem hd_all : ((hdW ++ tlW).all fun p => allW.contains p) = true := by kernel_rfl
theorem hd_ok : OkW hdW := fun p hp => by
  have := List.all_eq_true.1 hd_all p (List.mem_append_left _ hp)
  simpa using this
theorem tl_ok : OkW tlW := fun p hp => by
  have := List.all_eq_true.1 hd_all p (List.mem_append_right _ hp)
  simpa using this
theorem ok_nms : ([([109] : List UInt8), [121]].all okN) = true := by kernel_rfl
theorem src_txt (X : List Tk) : joinStr [32] (words (tD (hdW ++ (X ++ tlW)))) = txS (hdW ++ X) ++ tlS := by
  rw [← List.append_assoc]
  exact join_txS (3, [59]) [(1, endT)] (hdW ++ X)
theorem hdS_is : txS hdW = hdS := by kernel_rfl
/-- The source of an assignment of words that make an expression, read. -/
theorem read_x {X : List Tk} {R : D → Prop} {h : Nat} (hR : ∀ y, R y → IsE y) (hX : OkW X) (hlen : X.length ≤ 600) (hh : h ≤ 39)
    (H : ∀ l : List D, l.length ≤ 1000000 → TokAt l 8 X → Nx l (8 + X.length) cl → Ph expF l 8 X.length R h) :
    Ev (fun n => law10_Read n (.str ((hdS ++ txS X) ++ tlS))) fun r => ∃ u a b e a1 b1 e1 a2 b2 e2 ts, R u ∧ r = (true, [.lst 7 [AMo [109] a b e (AI a1 b1 e1 (Nm [121] a2 b2 e2) u)], .lst 5 ts, .agg [.int .i64 0, .int .i64 0, .int .i64 0], .int .i64 0]) := by
  have hOk : OkW (hdW ++ (X ++ tlW)) := hd_ok.app (hX.app tl_ok)
  have h1 := txS_le hX
  have hs : ((hdS ++ txS X) ++ tlS).length ≤ 12000 := by
    have : hdS.length = 26 := rfl
    have : tlS.length = 11 := rfl
    simp only [List.length_append]; omega
  have hA : Again (1, 1) ((hdS ++ txS X) ++ tlS) (plc 1 (tD (hdW ++ (X ++ tlW)))) := by
    rw [← hdS_is, ← txS_app, ← src_txt]; exact again_join _ (tD_w hOk)
  have hlex := lexAgain_ev hs hA
  have T0 := tokAt_plc (hdW ++ (X ++ tlW)) [] []
  rw [List.append_nil, List.nil_append] at T0
  have hl : (plc 1 (tD (hdW ++ (X ++ tlW)))).length = 10 + X.length := by
    rw [plc_len, tD_len]
    have : hdW.length = 8 := rfl
    have : tlW.length = 2 := rfl
    simp only [List.length_append]; omega
  have hT := plc_toks 1 (tD (hdW ++ (X ++ tlW)))
  generalize plc 1 (tD (hdW ++ (X ++ tlW))) = l at hlex T0 hl hT
  obtain ⟨T1, T2⟩ := TokAt_app.1 T0
  obtain ⟨T2, T3⟩ := TokAt_app.1 T2
  rw [show ([] : List Tk).length + hdW.length = 8 from rfl] at T2 T3
  obtain ⟨⟨a7, b7, e7, g1⟩, ⟨a8, b8, e8, g2⟩, ⟨a9, b9, e9, g3⟩, ⟨a10, b10, e10, g4⟩, ⟨a11, b11, e11, g5⟩, ⟨a1, b1, e1, g6⟩, ⟨a2, b2, e2, g7⟩, ⟨a3, b3, e3, g8⟩, _⟩ := T1
  obtain ⟨⟨a4, b4, e4, g9⟩, ⟨a6, b6, e6, g10⟩, _⟩ := T3
  have P := H l (by omega) T2 ⟨[59], a4, b4, e4, g9, rfl⟩
  have hp := parseOne_x (l := l) (by omega) hR g1 g2 (List.all_eq_true.1 ok_nms _ (by simp)) g3 g4 g5 g6 g7 (List.all_eq_true.1 ok_nms _ (by simp)) g8 P hh ⟨a4, b4, e4, g9⟩ (by rw [show 0 + 5 + 4 + X.length = 8 + X.length + 1 from by omega]; exact g10) (by omega)
  refine Ev.eq (fun n => law10_Read_eq n _) (Ev.bindC hlex ?_)
  intro _ ds h; cases h
  refine ⟨rfl, Ev.yes (and_tt rfl (plain3T hT)) (Ev.no rfl (Ev.bindC hp ?_))⟩
  rintro _ ds ⟨u, hu, h0⟩
  cases h0
  exact ⟨rfl, Ev.yes rfl (Ev.ret ⟨u, _, _, _, _, _, _, _, _, _, _, hu, rfl⟩)⟩
def parW : Nat → List Tk → List Tk
  | 0, X => X
  | k + 1, X => (3, [40]) :: (parW k X ++ [(3, [41])])
theorem parW_len (X : List Tk) : ∀ k, (parW k X).length = X.length + 2 * k
  | 0 => rfl
  | k + 1 => by simp only [parW, List.length_cons, List.length_append, parW_len X k, List.length_nil]; omega
def rep2 (c : UInt8) : Nat → List UInt8
  | 0 => []
  | k + 1 => rep2 c k ++ [c, 32]
theorem rep2_comm (c : UInt8) : ∀ k, [c, 32] ++ rep2 c k = rep2 c k ++ [c, 32]
  | 0 => rfl
  | k + 1 => by show [c, 32] ++ (rep2 c k ++ [c, 32]) = _; rw [← List.append_assoc, rep2_comm c k]; rfl
theorem rep2_len (c : UInt8) : ∀ k, (rep2 c k).length = 2 * k
  | 0 => rfl
  | k + 1 => by simp only [rep2, List.length_append, List.length_cons, List.length_nil, rep2_len c k]; omega
theorem parW_txt (X : List Tk) : ∀ k, txS (parW k X) = (rep2 40 k ++ txS X) ++ rep2 41 k
  | 0 => by simp [parW, rep2]
  | k + 1 => by
    show txS ([(3, [40])] ++ (parW k X ++ [(3, [41])])) = _
    rw [txS_app, txS_app, parW_txt X k]
    show [40, 32] ++ (((rep2 40 k ++ txS X) ++ rep2 41 k) ++ [41, 32]) = ((rep2 40 k ++ [40, 32]) ++ txS X) ++ (rep2 41 k ++ [41, 32])
    rw [← rep2_comm]
    simp only [List.append_assoc]
theorem parW_ok {X : List Tk} (h : OkW X) : ∀ k, OkW (parW k X)
  | 0 => h
  | k + 1 => (OkW.sg (t := [40]) rfl).app ((parW_ok h k).app (OkW.sg (t := [41]) rfl))
end Go.Proofs.YtalibicpmfbieaaGreatDoor
