/- Lexing behind some line ends. -/
import Derived.Test.YtpmjplpnpnmlcaaGreatDoorFaA
import Derived.Test.YtpmjplpnpnmlcaaGreatDoorEng
set_option linter.all false
namespace Go.Proofs.YtpmjplpnpnmlcaaGreatDoor
open Go.AE
noncomputable def rest60 : T := match p60 with | .c _ _ _ (.c _ _ _ x) => x | _ => .no
/-- The loop over words: a text x, what is left of it u, at line l. -/
def stA (t u : List UInt8) (l : Int) : List D := [.int .i64 0, .lst 5 [], .lst 5 [], .int .i64 0, .int .i64 0, .int .i64 0, .str u, .int .i64 1, .int .i64 l, .int .i64 1, .str t, .int .i64 1, .int .i64 1, .int .i64 1, .bool false]
set_option maxRecDepth 100000 in
theorem blank10 : Ru 218 [.int .u8 10] (true, [.bool true]) := go_Ru (n := 20) (by kernel_rfl)
set_option maxRecDepth 100000 in
theorem blank109 : Ru 218 [.int .u8 109] (true, [.bool false]) := go_Ru (n := 20) (by kernel_rfl)
theorem span_yes {u : List UInt8} {i : Nat} (hi : i < u.length) (hu : u.length < 1000000) (hc : u[i]? = some 10) {r : Bool × List D} (h : Ru 163 [.str u, .int .i64 ((i + 1 : Nat) : Int)] r) : Ru 163 [.str u, .int .i64 (i : Int)] r := by
  obtain ⟨N, hN⟩ := h
  obtain ⟨M, hM⟩ := blank10
  refine ⟨N + M + 1, fun n hn => ?_⟩
  obtain ⟨k, rfl⟩ : ∃ k, n = k + 1 := ⟨n - 1, by omega⟩
  have hx : nrmAll (sg 163).hs [.str u, .int .i64 (i : Int)] = true := by kernel_rfl
  rw [R_eqn q163 hx, expAt_n hx, show (sg 163).hs.length = 2 by kernel_rfl]
  unfold p163
  refine (den_it ?_).trans ?_
  · show decide ((i : Int) < (u.length : Nat)) = true
    exact decide_eq_true (by omega)
  refine (den_g ?_).trans ?_
  · show (decide ((0 : Int) ≤ (i : Int)) && decide ((i : Int) < (u.length : Nat))) = true
    rw [decide_eq_true (by omega), decide_eq_true (by omega)]; rfl
  rw [den_l]
  refine (den_c (r := [.bool true]) ?_ (by kernel_rfl)).trans ?_
  · show R k 218 [.int .u8 (u[(i : Int).toNat]?.getD 0).toNat] = _
    rw [Int.toNat_natCast, hc]; exact hM k (by omega)
  refine (den_it rfl).trans ?_
  rw [den_l]
  show R k 163 [.str u, .int .i64 (IntKind.i64.wrap ((i : Int) + 1))] = _
  rw [wrap_succ (by omega)]
  exact hN k (by omega)
theorem span_no {u : List UInt8} {i : Nat} (hi : i < u.length) (hc : u[i]? = some 109) : Ru 163 [.str u, .int .i64 (i : Int)] (false, [.str u, .int .i64 (i : Int)]) := by
  obtain ⟨M, hM⟩ := blank109
  refine ⟨M + 1, fun n hn => ?_⟩
  obtain ⟨k, rfl⟩ : ∃ k, n = k + 1 := ⟨n - 1, by omega⟩
  have hx : nrmAll (sg 163).hs [.str u, .int .i64 (i : Int)] = true := by kernel_rfl
  rw [R_eqn q163 hx, expAt_n hx, show (sg 163).hs.length = 2 by kernel_rfl]
  unfold p163
  refine (den_it ?_).trans ?_
  · show decide ((i : Int) < (u.length : Nat)) = true
    exact decide_eq_true (by omega)
  refine (den_g ?_).trans ?_
  · show (decide ((0 : Int) ≤ (i : Int)) && decide ((i : Int) < (u.length : Nat))) = true
    rw [decide_eq_true (by omega), decide_eq_true (by omega)]; rfl
  rw [den_l]
  refine (den_c (r := [.bool false]) ?_ (by kernel_rfl)).trans ?_
  · show R k 218 [.int .u8 (u[(i : Int).toNat]?.getD 0).toNat] = _
    rw [Int.toNat_natCast, hc]; exact hM k (by omega)
  refine (den_if rfl).trans ?_
  rfl
theorem span_to {b : List UInt8} : ∀ (L i : Nat), (10 :: List.replicate (i + L) (10 : UInt8) ++ 109 :: b).length < 1000000 → Ru 163 [.str (List.replicate (i + L) 10 ++ 109 :: b), .int .i64 (i : Int)] (false, [.str (List.replicate (i + L) 10 ++ 109 :: b), .int .i64 ((i + L : Nat) : Int)])
  | 0, i, h => span_no (by simp) (by simp)
  | L + 1, i, h => by
    have := span_to (b := b) L (i + 1) (by simp at h ⊢; omega)
    rw [show i + 1 + L = i + (L + 1) by omega] at this
    exact span_yes (by simp; omega) (by simp at h ⊢; omega) (by rw [List.getElem?_append_left (by simp)]; simp) this
theorem span_all {b : List UInt8} (L : Nat) (h : (10 :: List.replicate L (10 : UInt8) ++ 109 :: b).length < 1000000) : Ru 110 [.str (List.replicate L 10 ++ 109 :: b)] (true, [.int .i64 (L : Int)]) := by
  obtain ⟨N, hN⟩ := span_to (b := b) L 0 (by simpa using h)
  rw [Nat.zero_add] at hN
  refine ⟨N + 1, fun n hn => ?_⟩
  obtain ⟨k, rfl⟩ : ∃ k, n = k + 1 := ⟨n - 1, by omega⟩
  have hx : nrmAll (sg 110).hs [.str (List.replicate L 10 ++ 109 :: b)] = true := by kernel_rfl
  rw [R_eqn q110 hx, expAt_n hx, show (sg 110).hs.length = 1 by kernel_rfl]
  unfold p110
  exact (den_o (hN k (by omega)) (by kernel_rfl)).trans rfl
theorem piece1 {t u : List UInt8} {f l c f' l' c' : Int} {L : Nat} (hL : L ≤ u.length) (h : Ru 164 [.agg [.int .i64 f, .int .i64 l, .int .i64 c], .str (u.take L)] (true, [.agg [.int .i64 f', .int .i64 l', .int .i64 c']])) :
    Ru 111 [.int .i64 (L : Int), .str t, .int .i64 1, .int .i64 1, .int .i64 1, .bool false, .int .i64 f, .int .i64 l, .int .i64 c, .str u] (true, [.str t, .int .i64 1, .int .i64 1, .int .i64 1, .bool false, .int .i64 f', .int .i64 l', .int .i64 c', .str (u.drop L)]) := by
  obtain ⟨N, hN⟩ := h
  refine ⟨N + 1, fun n hn => ?_⟩
  obtain ⟨k, rfl⟩ : ∃ k, n = k + 1 := ⟨n - 1, by omega⟩
  have hx : nrmAll (sg 111).hs [.int .i64 (L : Int), .str t, .int .i64 1, .int .i64 1, .int .i64 1, .bool false, .int .i64 f, .int .i64 l, .int .i64 c, .str u] = true := by kernel_rfl
  rw [R_eqn q111 hx, expAt_n hx, show (sg 111).hs.length = 10 by kernel_rfl]
  unfold p111
  refine (den_it rfl).trans ?_
  refine (den_g ?_).trans ?_
  · show ((true && decide ((0 : Int) ≤ (L : Int))) && decide ((L : Int) ≤ (u.length : Nat))) = true
    rw [decide_eq_true (by omega), decide_eq_true (by omega)]; rfl
  rw [den_l]
  refine (den_c (r := [.agg [.int .i64 f', .int .i64 l', .int .i64 c']]) ?_ (by kernel_rfl)).trans ?_
  · show R k 164 [.agg [.int .i64 f, .int .i64 l, .int .i64 c], .str ((u.drop (0 : Int).toNat).take ((L : Int).toNat - (0 : Int).toNat))] = _
    exact hN k (by omega)
  refine (den_g ?_).trans ?_
  · show ((decide ((0 : Int) ≤ (L : Int)) && decide ((L : Int) ≤ (u.length : Nat))) && decide (((u.length : Nat) : Int) ≤ (u.length : Nat))) = true
    rw [decide_eq_true (by omega), decide_eq_true (by omega), decide_eq_true (by omega)]; rfl
  rw [den_l]
  show some (true, [D.str t, .int .i64 1, .int .i64 1, .int .i64 1, .bool false, .int .i64 f', .int .i64 l', .int .i64 c', .str ((u.drop (L : Int).toNat).take (((u.length : Nat) : Int).toNat - (L : Int).toNat))]) = _
  rw [Int.toNat_natCast, Int.toNat_natCast, List.take_of_length_le (by simp)]
set_option maxRecDepth 100000 in
theorem move_none (l : Int) : Ru 164 [.agg [.int .i64 1, .int .i64 l, .int .i64 1], .str []] (true, [.agg [.int .i64 1, .int .i64 l, .int .i64 1]]) := go_Ru (n := 20) (by kernel_rfl)
noncomputable def mvT : Nat → Prop := fun L => go 40 164 [.agg [.int .i64 1, .int .i64 1, .int .i64 1], .str (List.replicate L 10)] = some (true, [.agg [.int .i64 1, .int .i64 (1 + (L : Int)), .int .i64 1]])
set_option maxRecDepth 100000 in
theorem move_all : ∀ L, L ≤ 20 → mvT L
  | 0, _ => by show go 40 164 _ = _; kernel_rfl
  | 1, _ => by show go 40 164 _ = _; kernel_rfl
  | 2, _ => by show go 40 164 _ = _; kernel_rfl
  | 3, _ => by show go 40 164 _ = _; kernel_rfl
  | 4, _ => by show go 40 164 _ = _; kernel_rfl
  | 5, _ => by show go 40 164 _ = _; kernel_rfl
  | 6, _ => by show go 40 164 _ = _; kernel_rfl
  | 7, _ => by show go 40 164 _ = _; kernel_rfl
  | 8, _ => by show go 40 164 _ = _; kernel_rfl
  | 9, _ => by show go 40 164 _ = _; kernel_rfl
  | 10, _ => by show go 40 164 _ = _; kernel_rfl
  | 11, _ => by show go 40 164 _ = _; kernel_rfl
  | 12, _ => by show go 40 164 _ = _; kernel_rfl
  | 13, _ => by show go 40 164 _ = _; kernel_rfl
  | 14, _ => by show go 40 164 _ = _; kernel_rfl
  | 15, _ => by show go 40 164 _ = _; kernel_rfl
  | 16, _ => by show go 40 164 _ = _; kernel_rfl
  | 17, _ => by show go 40 164 _ = _; kernel_rfl
  | 18, _ => by show go 40 164 _ = _; kernel_rfl
  | 19, _ => by show go 40 164 _ = _; kernel_rfl
  | 20, _ => by show go 40 164 _ = _; kernel_rfl
  | n + 21, h => absurd h (by omega)
theorem st60 {t u u' : List UInt8} {l l' : Int} {k : Nat} {n : Nat} (h1 : R n 110 [.str u] = some (true, [.int .i64 (k : Int)])) (h2 : R n 111 [.int .i64 (k : Int), .str t, .int .i64 1, .int .i64 1, .int .i64 1, .bool false, .int .i64 1, .int .i64 l, .int .i64 1, .str u] = some (true, [.str t, .int .i64 1, .int .i64 1, .int .i64 1, .bool false, .int .i64 1, .int .i64 l', .int .i64 1, .str u'])) :
    R (n + 1) 60 (stA t u l) = rest60.den sg (R n) [] 25 (pushL (pushL (fun i => nth (stA t u l) i) 15 [.int .i64 (k : Int)]) 16 [.str t, .int .i64 1, .int .i64 1, .int .i64 1, .bool false, .int .i64 1, .int .i64 l', .int .i64 1, .str u']) := by
  have hx : nrmAll (sg 60).hs (stA t u l) = true := by kernel_rfl
  rw [R_eqn q60 hx, expAt_n hx, show (sg 60).hs.length = 15 by kernel_rfl, show p60 = cn 110 [6] (cn 111 [15, .r 10 5, .r 7 3, 6] rest60) from rfl]
  refine (den_c h1 (by kernel_rfl)).trans ?_
  exact (den_c h2 (by kernel_rfl)).trans (by kernel_rfl)
set_option maxRecDepth 100000 in
theorem same60 (rec : Nat → List D → Out) (t u1 u2 v : List UInt8) (l1 l2 l k1 k2 : Int) :
    rest60.den sg rec [] 25 (pushL (pushL (fun i => nth (stA t u1 l1) i) 15 [.int .i64 k1]) 16 [.str t, .int .i64 1, .int .i64 1, .int .i64 1, .bool false, .int .i64 1, .int .i64 l, .int .i64 1, .str v])
    = rest60.den sg rec [] 25 (pushL (pushL (fun i => nth (stA t u2 l2) i) 15 [.int .i64 k2]) 16 [.str t, .int .i64 1, .int .i64 1, .int .i64 1, .bool false, .int .i64 1, .int .i64 l, .int .i64 1, .str v]) := by kernel_rfl
/-- Line ends ahead of a text move its lines. -/
theorem lex_pad {t b : List UInt8} {L : Nat} (hL : L ≤ 20) (hb : b.length < 100000) {r : Bool × List D} (h : Ru 60 (stA t (109 :: b) (1 + (L : Int))) r) : Ru 60 (stA t (List.replicate L 10 ++ 109 :: b) 1) r := by
  obtain ⟨N, hN⟩ := h
  obtain ⟨N1, h1⟩ := span_all (b := b) L (by simp; omega)
  obtain ⟨N2, h2⟩ := span_all (b := b) 0 (by simp; omega)
  rw [List.replicate_zero, List.nil_append] at h2
  obtain ⟨N3, h3⟩ := piece1 (t := t) (u := List.replicate L 10 ++ 109 :: b) (L := L) (by simp) (by
    rw [List.take_append_of_le_length (by simp), List.take_of_length_le (by simp)]
    exact go_Ru (move_all L hL))
  obtain ⟨N4, h4⟩ := piece1 (t := t) (u := 109 :: b) (L := 0) (by simp) (by
    rw [List.take_zero]
    exact move_none (1 + (L : Int)))
  rw [List.drop_append_of_le_length (by simp), List.drop_of_length_le (by simp), List.nil_append] at h3
  rw [List.drop_zero] at h4
  refine ⟨N + N1 + N2 + N3 + N4 + 1, fun n hn => ?_⟩
  obtain ⟨k, rfl⟩ : ∃ k, n = k + 1 := ⟨n - 1, by omega⟩
  rw [st60 (h1 k (by omega)) (h3 k (by omega)), same60 _ t _ (109 :: b) _ _ (1 + (L : Int)) _ _ ((0 : Nat) : Int), ← st60 (h2 k (by omega)) (h4 k (by omega))]
  exact hN (k + 1) (by omega)
end Go.Proofs.YtpmjplpnpnmlcaaGreatDoor
