/- A text read and elaborated, from its words on. -/
import Derived.Test.YtpmjplpnpnmlcaaGreatDoorFaB
set_option linter.all false
namespace Go.Proofs.YtpmjplpnpnmlcaaGreatDoor
open Go.AE
theorem stp {f g : Nat} {p : T} {xs ys : List D} (h : Eqn C sg f p) (hx : nrmAll (sg f).hs xs = true) {l : Nat} (hl : (sg f).hs.length = l)
    (hc : ∀ rec, p.den sg rec [] l (fun i => nth xs i) = p.den sg (ov g (rec g ys) rec) [] l (fun i => nth xs i)) {o : Out} {N m : Nat} (ho : ∀ y, o = some y → R m g ys = some y) (hm : N ≤ m) :
    ∀ y, Te (ov g o (go N)) p l (fun i => nth xs i) = some y → R (m + 1) f xs = some y := by
  intro y hy
  rw [R_eqn h hx, expAt_n hx, hl, hc]
  exact Te_den (ov_le ho fun f xs r h => go_le h m hm) hy
/-- The text's design, out of the answer of the loop over words. -/
noncomputable def cE (N : Nat) (t : List UInt8) (o : Out) : Out :=
  Te (ov 6 (Te (ov 8 (Te (ov 15 (Te (ov 32 (Te (ov 60 o (go N)) p32 2 fun i => nth [.agg [.str t, .int .i64 1, .int .i64 1, .int .i64 1, .bool false], .lst 5 []] i) (go N)) p15 7 fun i => nth [.lst 5 [.agg [.str t, .int .i64 1, .int .i64 1, .int .i64 1, .bool false]], .int .i64 1, .int .i64 0, .int .i64 0, .int .i64 0, .int .i64 0, .lst 5 []] i) (go N)) p8 1 fun i => nth [.lst 5 [.agg [.str t, .int .i64 1, .int .i64 1, .int .i64 1, .bool false]]] i) (go N)) p6 1 fun i => nth [.str t] i) (go N)) p3 1 fun i => nth [.str t] i
set_option maxRecDepth 100000 in
theorem cE_le {N m : Nat} {t : List UInt8} {o : Out} (ho : ∀ y, o = some y → R m 60 (stA t t 1) = some y) (hm : N ≤ m) : ∀ y, cE N t o = some y → R (m + 5) 3 [.str t] = some y := by
  refine stp (ys := [.str t]) q3 (by kernel_rfl) (by kernel_rfl) (fun rec => by kernel_rfl) ?_ (by omega)
  refine stp (ys := [.lst 5 [.agg [.str t, .int .i64 1, .int .i64 1, .int .i64 1, .bool false]]]) q6 (by kernel_rfl) (by kernel_rfl) (fun rec => by kernel_rfl) ?_ (by omega)
  refine stp (ys := [.lst 5 [.agg [.str t, .int .i64 1, .int .i64 1, .int .i64 1, .bool false]], .int .i64 1, .int .i64 0, .int .i64 0, .int .i64 0, .int .i64 0, .lst 5 []]) q8 (by kernel_rfl) (by kernel_rfl) (fun rec => by kernel_rfl) ?_ (by omega)
  refine stp (ys := [.agg [.str t, .int .i64 1, .int .i64 1, .int .i64 1, .bool false], .lst 5 []]) q15 (by kernel_rfl) (by kernel_rfl) (fun rec => by kernel_rfl) ?_ (by omega)
  exact stp (ys := stA t t 1) q32 (by kernel_rfl) (by kernel_rfl) (fun rec => by kernel_rfl) ho hm
def noD : D := .agg [.lst 4 [], .lst 3 [], .lst 1 [], .lst 1 [], .lst 5 [], .lst 1 [], .lst 3 []]
/-- What is said of a text with a fault in its third line. -/
def said (l c e : Int) : Bool × List D := (true, [noD, .agg [.int .i64 1, .int .i64 (IntKind.i64.wrap (IntKind.i64.wrap (l + 1) + 1)), .int .i64 c], .int .i64 e])
def Fau (b : List UInt8) (c e : Int) : Prop := ∀ (t : List UInt8) (l : Int), frcSp b (fun b => cE 1000 t (go 1000 60 (stA t (109 :: b) l))) = some (said l c e)
theorem fault_is {b : List UInt8} {c e : Int} (h : Fau b c e) {L : Nat} (hL : L ≤ 20) (hb : b.length < 100000) : Ru 3 [.str (List.replicate L 10 ++ 109 :: b)] (said (1 + L) c e) := by
  have h := h (List.replicate L 10 ++ 109 :: b) (1 + L)
  rw [frcSp_eq] at h
  have : ∃ N, ∀ m, N ≤ m → ∀ y, go 1000 60 (stA (List.replicate L 10 ++ 109 :: b) (109 :: b) (1 + L)) = some y → R m 60 (stA (List.replicate L 10 ++ 109 :: b) (List.replicate L 10 ++ 109 :: b) 1) = some y := by
    cases ho : go 1000 60 (stA (List.replicate L 10 ++ 109 :: b) (109 :: b) (1 + L)) with
    | none => exact ⟨0, fun m _ y hy => by cases hy⟩
    | some r =>
      obtain ⟨N, hN⟩ := lex_pad hL hb (go_Ru ho)
      exact ⟨N, fun m hm y hy => by rw [← hy]; exact hN m hm⟩
  obtain ⟨N, hN⟩ := this
  refine ⟨N + 1005, fun n hn => ?_⟩
  obtain ⟨k, rfl⟩ : ∃ k, n = k + 5 := ⟨n - 5, by omega⟩
  exact cE_le (m := k) (N := 1000) (hN k (by omega)) (by omega) _ h
end Go.Proofs.YtpmjplpnpnmlcaaGreatDoor
