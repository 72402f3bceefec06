import Derived.Test.YtpmjplpnpnmlcaaGreatDoorIfF
import Derived.Test.YtpmjplpnpnmlcaaGreatDoorEng
namespace Go.Proofs.YtpmjplpnpnmlcaaGreatDoor
open Go.AE
set_option linter.all false
noncomputable def R (n f : Nat) (xs : List D) : Out := run C n ((sg f).tk xs)
def Ru (f : Nat) (xs : List D) (r : Bool × List D) : Prop := ∃ N, ∀ n, N ≤ n → R n f xs = some r
theorem R_eqn {f : Nat} {p : T} {xs : List D} (h : Eqn C sg f p) (hx : nrmAll (sg f).hs xs = true) (n : Nat) : R (n + 1) f xs = p.den sg (R n) [] (sg f).hs.length (expAt (sg f).hs xs) := by
  have := h n xs
  rw [show expAll (sg f).hs xs = xs from nrmAll_exp (pre := []) hx] at this
  exact this
theorem fam_mono {sg : Nat → Sg} {bd : Nat → Bd} : ∀ n f xs r, fam sg bd n f xs = some r → fam sg bd (n + 1) f xs = some r
  | 0, f, xs, r, e => by cases e
  | n + 1, f, xs, r, e => by
    have e : (match bd f with
      | .n => none
      | .p t => bif nrmAll (sg f).hs xs then t.den sg (fam sg bd n) [] (sg f).hs.length (expAt (sg f).hs xs) else none
      | .o g => match g xs with | some r => some (true, r) | none => none) = some r := e
    show (match bd f with
      | .n => none
      | .p t => bif nrmAll (sg f).hs xs then t.den sg (fam sg bd (n + 1)) [] (sg f).hs.length (expAt (sg f).hs xs) else none
      | .o g => match g xs with | some r => some (true, r) | none => none) = some r
    cases hb : bd f with
    | n => rw [hb] at e; cases e
    | p t =>
      rw [hb] at e
      exact bif_mono (den_mono (fun g ys y => fam_mono n g ys y) t [] [] _ _ r rfl (fun k f f' h => by simp at h)) (fun h => h) e
    | o g => rw [hb] at e; exact e
theorem fam_le {sg : Nat → Sg} {bd : Nat → Bd} {n f : Nat} {xs : List D} {r : Bool × List D} (h : fam sg bd n f xs = some r) : ∀ m, n ≤ m → fam sg bd m f xs = some r := by
  intro m hm
  obtain ⟨k, rfl⟩ : ∃ k, m = n + k := ⟨m - n, by omega⟩
  induction k with
  | zero => exact h
  | succ k ih => exact fam_mono _ _ _ _ (ih (by omega))
noncomputable def go : Nat → Nat → List D → Out := fev (fun f => (sg f).hs) (fun f => holes (sg f).ro) (fun f => (sg f).hs.length) (fun f => (holes (sg f).ro).length) sg bd
theorem go_le {n f : Nat} {xs : List D} {r : Bool × List D} (h : go n f xs = some r) (m : Nat) (hm : n ≤ m) : R m f xs = some r :=
  fam_run bd_ok m f xs r (fam_le (fev_fam (fun _ => rfl) (fun _ => rfl) (fun _ => rfl) (fun _ => rfl) n f xs r h) m hm)
theorem go_Ru {n f : Nat} {xs : List D} {r : Bool × List D} (h : go n f xs = some r) : Ru f xs r := ⟨n, go_le h⟩
theorem den_it {rec : Nat → List D → Out} {J : List (List D → Out)} {c : E} {x y : T} {n : Nat} {V : Nat → D} (h : (c.den V).b = true) : (T.i c x y).den sg rec J n V = x.den sg rec J n V := by
  show (bif (c.den V).b then x.den sg rec J n V else y.den sg rec J n V) = _
  rw [h]; rfl
theorem den_if {rec : Nat → List D → Out} {J : List (List D → Out)} {c : E} {x y : T} {n : Nat} {V : Nat → D} (h : (c.den V).b = false) : (T.i c x y).den sg rec J n V = y.den sg rec J n V := by
  show (bif (c.den V).b then x.den sg rec J n V else y.den sg rec J n V) = _
  rw [h]; rfl
theorem den_g {rec : Nat → List D → Out} {J : List (List D → Out)} {c : E} {x : T} {n : Nat} {V : Nat → D} (h : (c.den V).b = true) : (T.g c x).den sg rec J n V = x.den sg rec J n V := by
  show (bif (c.den V).b then x.den sg rec J n V else none) = _
  rw [h]; rfl
theorem den_l {rec : Nat → List D → Out} {J : List (List D → Out)} {e : E} {x : T} {n : Nat} {V : Nat → D} : (T.l e x).den sg rec J n V = x.den sg rec J (n + 1) (push V n (e.den V)) := rfl
theorem den_t {rec : Nat → List D → Out} {J : List (List D → Out)} {ty : Ty} {e : E} {x : T} {n : Nat} {V : Nat → D} (h : notAny ty = true) (h2 : okTy ty (e.den V) = true) : (T.t ty e x).den sg rec J n V = x.den sg rec J (n + 1) (push V n (expTy ty (e.den V))) := by
  show (bif notAny ty && okTy ty (e.den V) then x.den sg rec J (n + 1) (push V n (expTy ty (e.den V))) else none) = _
  rw [h, h2]; rfl
theorem den_c {rec : Nat → List D → Out} {J : List (List D → Out)} {f : Nat} {es : List Ar} {x : T} {n : Nat} {V : Nat → D} {r : List D} (h : rec f (arD V es) = some (true, r)) (h2 : nrmAll (holes (sg f).ro) r = true) : (cn f es x).den sg rec J n V = x.den sg rec J (n + (holes (sg f).ro).length) (pushL V n r) := by
  show AE.bindC (rec f (arD V es)) (fun r => bif (bif false then chk (sg f).ro r && plainDs (sg f).ro r else chk (sg f).ro r) then x.den sg rec J (n + (holes (sg f).ro).length) (pushR V n (holes (sg f).ro) r) else none) = _
  rw [h]
  show (bif chk (sg f).ro r then x.den sg rec J (n + (holes (sg f).ro).length) (pushR V n (holes (sg f).ro) r) else none) = _
  rw [chk_nrm h2, cond_true, ← pushF_R h2, pushF_L]
theorem den_o {rec : Nat → List D → Out} {J : List (List D → Out)} {f : Nat} {es : List Ar} {x : T} {n : Nat} {V : Nat → D} {r : List D} (h : rec f (arD V es) = some (false, r)) (h2 : nrmAll (holes (sg f).ro) r = true) : (T.o f es x).den sg rec J n V = x.den sg rec J (n + (holes (sg f).ro).length) (pushL V n r) := by
  show AE.bindL (rec f (arD V es)) (fun r => bif chk (sg f).ro r then x.den sg rec J (n + (holes (sg f).ro).length) (pushR V n (holes (sg f).ro) r) else none) = _
  rw [h]
  show (bif chk (sg f).ro r then x.den sg rec J (n + (holes (sg f).ro).length) (pushR V n (holes (sg f).ro) r) else none) = _
  rw [chk_nrm h2, cond_true, ← pushF_R h2, pushF_L]
theorem expAt_n {hs : List Ty} {xs : List D} (h : nrmAll hs xs = true) : expAt hs xs = fun i => nth xs i := funext fun i => nrmAll_at h i
noncomputable def rest60 : T := match p60 with | .c _ _ _ (.c _ _ _ x) => x | _ => .no
theorem piece1 {t u : List UInt8} {f l c f' l' c' : Int} {L : Nat} (hL : L ≤ u.length) (h : Ru 164 [.agg [.int .i64 f, .int .i64 l, .int .i64 c], .str (u.take L)] (true, [.agg [.int .i64 f', .int .i64 l', .int .i64 c']])) :
    Ru 111 [.int .i64 (L : Int), .str t, .int .i64 1, .int .i64 1, .int .i64 1, .bool false, .int .i64 f, .int .i64 l, .int .i64 c, .str u] (true, [.str t, .int .i64 1, .int .i64 1, .int .i64 1, .bool false, .int .i64 f', .int .i64 l', .int .i64 c', .str (u.drop L)]) := by
  obtain ⟨N, hN⟩ := h
  refine ⟨N + 1, fun n hn => ?_⟩
  obtain ⟨k, rfl⟩ : ∃ k, n = k + 1 := ⟨n - 1, by omega⟩
  have hx : nrmAll (sg 111).hs [.int .i64 (L : Int), .str t, .int .i64 1, .int .i64 1, .int .i64 1, .bool false, .int .i64 f, .int .i64 l, .int .i64 c, .str u] = true := by kernel_rfl
  rw [R_eqn q111 hx, expAt_n hx, show (sg 111).hs.length = 10 by kernel_rfl]
  unfold p111
  refine (den_it rfl).trans ?_
  refine (den_g ?_).trans ?_
  · show ((true && decide ((0 : Int) ≤ (L : Int))) && decide ((L : Int) ≤ (u.length : Nat))) = true
    rw [decide_eq_true (by omega), decide_eq_true (by omega)]; rfl
  rw [den_l]
  refine (den_c (r := [.agg [.int .i64 f', .int .i64 l', .int .i64 c']]) ?_ (by kernel_rfl)).trans ?_
  · show R k 164 [.agg [.int .i64 f, .int .i64 l, .int .i64 c], .str ((u.drop (0 : Int).toNat).take ((L : Int).toNat - (0 : Int).toNat))] = _
    exact hN k (by omega)
  refine (den_g ?_).trans ?_
  · show ((decide ((0 : Int) ≤ (L : Int)) && decide ((L : Int) ≤ (u.length : Nat))) && decide (((u.length : Nat) : Int) ≤ (u.length : Nat))) = true
    rw [decide_eq_true (by omega), decide_eq_true (by omega), decide_eq_true (by omega)]; rfl
  rw [den_l]
  show some (true, [D.str t, .int .i64 1, .int .i64 1, .int .i64 1, .bool false, .int .i64 f', .int .i64 l', .int .i64 c', .str ((u.drop (L : Int).toNat).take (((u.length : Nat) : Int).toNat - (L : Int).toNat))]) = _
  rw [Int.toNat_natCast, Int.toNat_natCast, List.take_of_length_le (by simp)]
def ansB : Out → Bool → Bool
  | some (true, [.bool b]), c => b == c
  | _, _ => false
theorem ansB_eq {o : Out} {c : Bool} (h : ansB o c = true) : o = some (true, [.bool c]) := by
  unfold ansB at h
  split at h
  · rw [eq_of_beq h]
  · cases h
def allLt (P : Nat → Bool) : Nat → Bool
  | 0 => true
  | n + 1 => P n && allLt P n
theorem allLt_at {P : Nat → Bool} : ∀ {n : Nat}, allLt P n = true → ∀ j, j < n → P j = true
  | 0, _, j, hj => absurd hj (by omega)
  | n + 1, h, j, hj => by
    rw [allLt, Bool.and_eq_true] at h
    by_cases e : j = n
    · subst e; exact h.1
    · exact allLt_at h.2 j (by omega)
theorem kind_of {f : Nat} {P : Nat → Bool} (h : allLt (fun n => ansB (go 20 f [.int .u8 (n : Int)]) (P n)) 256 = true) (b : UInt8) : Ru f [.int .u8 (b.toNat : Int)] (true, [.bool (P b.toNat)]) :=
  go_Ru (n := 20) (ansB_eq (allLt_at h b.toNat b.toNat_lt))
def isBlank (n : Nat) : Bool := Nat.beq n 32 || Nat.beq n 9 || Nat.beq n 13 || Nat.beq n 10
def isDig (n : Nat) : Bool := Nat.ble 48 n && Nat.ble n 57
def isLet (n : Nat) : Bool := (Nat.ble 97 n && Nat.ble n 122) || (Nat.ble 65 n && Nat.ble n 90) || Nat.beq n 95
def isNam (n : Nat) : Bool := isLet n || isDig n
def isDgU (n : Nat) : Bool := isDig n || Nat.beq n 95
set_option maxRecDepth 100000 in
theorem k218 : ∀ b : UInt8, Ru 218 [.int .u8 (b.toNat : Int)] (true, [.bool (isBlank b.toNat)]) := kind_of (by kernel_rfl)
set_option maxRecDepth 100000 in
theorem k274 : ∀ b : UInt8, Ru 274 [.int .u8 (b.toNat : Int)] (true, [.bool (isNam b.toNat)]) := kind_of (by kernel_rfl)
set_option maxRecDepth 100000 in
theorem k315 : ∀ b : UInt8, Ru 315 [.int .u8 (b.toNat : Int)] (true, [.bool (isDgU b.toNat)]) := kind_of (by kernel_rfl)
set_option maxRecDepth 100000 in
theorem k165 : ∀ b : UInt8, Ru 165 [.int .u8 (b.toNat : Int)] (true, [.bool (isLet b.toNat)]) := kind_of (by kernel_rfl)
set_option maxRecDepth 100000 in
theorem k167 : ∀ b : UInt8, Ru 167 [.int .u8 (b.toNat : Int)] (true, [.bool (isDig b.toNat)]) := kind_of (by kernel_rfl)
def spanP (f g : Nat) : T := .i (i_lss 1 (.sl 0)) (.g (.q (i_leq (Z 0) 1) (i_lss 1 (.sl 0))) (.l (.sb 0 1) (cn g [2] (.i 3 (.l (i_add 1 (Z 1)) (.tl f [0, 4])) (.ret false [.r 0 2]))))) (.ret false [.r 0 2])
def spanN (P : Nat → Bool) : List UInt8 → Nat
  | [] => 0
  | b :: s => bif P b.toNat then spanN P s + 1 else 0
theorem spanN_le (P : Nat → Bool) : ∀ s : List UInt8, spanN P s ≤ s.length
  | [] => Nat.le_refl _
  | b :: s => by
    have := spanN_le P s
    show (bif P b.toNat then spanN P s + 1 else 0) ≤ s.length + 1
    cases P b.toNat <;> simp <;> omega
theorem span_is {f g : Nat} (q : Eqn C sg f (spanP f g)) (hx : ∀ u i, nrmAll (sg f).hs [.str u, .int .i64 i] = true) (hl : (sg f).hs.length = 2) (hg : ∀ c, nrmAll (holes (sg g).ro) [.bool c] = true) (hg1 : (holes (sg g).ro).length = 1) {P : Nat → Bool} (hP : ∀ b : UInt8, Ru g [.int .u8 (b.toNat : Int)] (true, [.bool (P b.toNat)])) :
    ∀ (s pre : List UInt8), (pre ++ s).length < 1000000 → Ru f [.str (pre ++ s), .int .i64 (pre.length : Int)] (false, [.str (pre ++ s), .int .i64 ((pre.length + spanN P s : Nat) : Int)])
  | [], pre, _ => by
    refine ⟨1, fun n hn => ?_⟩
    obtain ⟨k, rfl⟩ : ∃ k, n = k + 1 := ⟨n - 1, by omega⟩
    rw [R_eqn q (hx _ _), expAt_n (hx _ _), hl]
    unfold spanP
    refine (den_if ?_).trans ?_
    · show decide ((pre.length : Int) < ((pre ++ []).length : Nat)) = false
      exact decide_eq_false (by simp)
    rfl
  | b :: s, pre, h => by
    obtain ⟨M, hM⟩ := hP b
    have hlt : pre.length < (pre ++ b :: s).length := by simp
    have hget : (pre ++ b :: s)[pre.length]? = some b := by simp
    cases hb : P b.toNat with
    | false =>
      refine ⟨M + 1, fun n hn => ?_⟩
      obtain ⟨k, rfl⟩ : ∃ k, n = k + 1 := ⟨n - 1, by omega⟩
      rw [R_eqn q (hx _ _), expAt_n (hx _ _), hl]
      unfold spanP
      refine (den_it ?_).trans ?_
      · show decide ((pre.length : Int) < ((pre ++ b :: s).length : Nat)) = true
        exact decide_eq_true (by omega)
      refine (den_g ?_).trans ?_
      · show (decide ((0 : Int) ≤ (pre.length : Int)) && decide ((pre.length : Int) < ((pre ++ b :: s).length : Nat))) = true
        rw [decide_eq_true (by omega), decide_eq_true (by omega)]; rfl
      rw [den_l]
      refine (den_c (r := [.bool false]) ?_ (hg _)).trans ?_
      · show R k g [.int .u8 ((pre ++ b :: s)[(pre.length : Int).toNat]?.getD 0).toNat] = _
        have h1 := hM k (by omega)
        rw [hb] at h1
        rw [Int.toNat_natCast, hget]; exact h1
      rw [hg1]
      refine (den_if rfl).trans ?_
      show some (false, [D.str (pre ++ b :: s), .int .i64 (pre.length : Int)]) = _
      simp [spanN, hb]
    | true =>
      obtain ⟨N, hN⟩ := span_is q hx hl hg hg1 hP s (pre ++ [b]) (by simpa using h)
      rw [List.append_assoc, List.singleton_append] at hN
      refine ⟨N + M + 1, fun n hn => ?_⟩
      obtain ⟨k, rfl⟩ : ∃ k, n = k + 1 := ⟨n - 1, by omega⟩
      rw [R_eqn q (hx _ _), expAt_n (hx _ _), hl]
      unfold spanP
      refine (den_it ?_).trans ?_
      · show decide ((pre.length : Int) < ((pre ++ b :: s).length : Nat)) = true
        exact decide_eq_true (by omega)
      refine (den_g ?_).trans ?_
      · show (decide ((0 : Int) ≤ (pre.length : Int)) && decide ((pre.length : Int) < ((pre ++ b :: s).length : Nat))) = true
        rw [decide_eq_true (by omega), decide_eq_true (by omega)]; rfl
      rw [den_l]
      refine (den_c (r := [.bool true]) ?_ (hg _)).trans ?_
      · show R k g [.int .u8 ((pre ++ b :: s)[(pre.length : Int).toNat]?.getD 0).toNat] = _
        have h1 := hM k (by omega)
        rw [hb] at h1
        rw [Int.toNat_natCast, hget]; exact h1
      rw [hg1]
      refine (den_it rfl).trans ?_
      rw [den_l]
      show R k f [.str (pre ++ b :: s), .int .i64 (IntKind.i64.wrap ((pre.length : Int) + 1))] = _
      have := hN k (by omega)
      rw [wrap_succ (by simp at h; omega)]
      simp only [List.length_append, List.length_singleton] at this
      rw [this]
      simp only [spanN, hb, cond_true]
      rw [show pre.length + 1 + spanN P s = pre.length + (spanN P s + 1) by omega]
theorem den_j {rec : Nat → List D → Out} {b x : T} {J : List (List D → Out)} {n : Nat} {V : Nat → D} : (T.j b x).den sg rec J n V = x.den sg rec ((fun xs => b.den sg rec J (n + xs.length) (pushL V n xs)) :: J) n V := rfl
theorem den_jp {rec : Nat → List D → Out} {k : Nat} {es : List Ar} {J : List (List D → Out)} {n : Nat} {V : Nat → D} : (T.jp k es).den sg rec J n V = jmpTo J k (arD V es) := rfl
theorem span_call {f l g : Nat} (q : Eqn C sg l (spanP l g)) (q' : Eqn C sg f (.o l [0, .e (Z 0)] (rt [2]))) (hx' : ∀ u, nrmAll (sg f).hs [.str u] = true) (hl' : (sg f).hs.length = 1) (ho : ∀ u i, nrmAll (holes (sg l).ro) [.str u, .int .i64 i] = true) (ho1 : (holes (sg l).ro).length = 2)
    (hx : ∀ u i, nrmAll (sg l).hs [.str u, .int .i64 i] = true) (hl : (sg l).hs.length = 2) (hg : ∀ c, nrmAll (holes (sg g).ro) [.bool c] = true) (hg1 : (holes (sg g).ro).length = 1) {P : Nat → Bool} (hP : ∀ b : UInt8, Ru g [.int .u8 (b.toNat : Int)] (true, [.bool (P b.toNat)])) (s : List UInt8) (h : s.length < 1000000) :
    Ru f [.str s] (true, [.int .i64 (spanN P s : Int)]) := by
  obtain ⟨N, hN⟩ := span_is q hx hl hg hg1 hP s [] (by simpa using h)
  refine ⟨N + 1, fun n hn => ?_⟩
  obtain ⟨k, rfl⟩ : ∃ k, n = k + 1 := ⟨n - 1, by omega⟩
  rw [R_eqn q' (hx' _), expAt_n (hx' _), hl']
  have := hN k (by omega)
  simp only [List.nil_append, List.length_nil, Nat.zero_add] at this
  refine (den_o (r := [.str s, .int .i64 (spanN P s : Int)]) ?_ (ho _ _)).trans ?_
  · exact this
  rw [ho1]
  rfl
theorem span_nam (s : List UInt8) (h : s.length < 1000000) : Ru 166 [.str s] (true, [.int .i64 (spanN isNam s : Int)]) :=
  span_call (l := 220) (g := 274) q220 q166 (fun _ => by kernel_rfl) (by kernel_rfl) (fun _ _ => by kernel_rfl) (by kernel_rfl) (fun _ _ => by kernel_rfl) (by kernel_rfl) (fun _ => by kernel_rfl) (by kernel_rfl) k274 s h
theorem span_dig (s : List UInt8) (h : s.length < 1000000) : Ru 221 [.str s] (true, [.int .i64 (spanN isDgU s : Int)]) :=
  span_call (l := 275) (g := 315) q275 q221 (fun _ => by kernel_rfl) (by kernel_rfl) (fun _ _ => by kernel_rfl) (by kernel_rfl) (fun _ _ => by kernel_rfl) (by kernel_rfl) (fun _ => by kernel_rfl) (by kernel_rfl) k315 s h
theorem span_blank (s : List UInt8) (h : s.length < 1000000) : Ru 110 [.str s] (true, [.int .i64 (spanN isBlank s : Int)]) :=
  span_call (l := 163) (g := 218) q163 q110 (fun _ => by kernel_rfl) (by kernel_rfl) (fun _ _ => by kernel_rfl) (by kernel_rfl) (fun _ _ => by kernel_rfl) (by kernel_rfl) (fun _ => by kernel_rfl) (by kernel_rfl) k218 s h
theorem isLet_ne {c : UInt8} (h : isLet c.toNat = true) : c ≠ 36 := by
  rintro rfl
  revert h; decide
theorem word_nam {c : UInt8} {s : List UInt8} (hs : s.length < 100000) (hc : isLet c.toNat = true) (h40 : spanN isNam s < 40) : Ru 112 [.str (c :: s)] (true, [.int .i64 1, .int .i64 (1 + (spanN isNam s : Nat) : Int), .int .i64 0]) := by
  obtain ⟨N1, h1⟩ := k165 c
  rw [hc] at h1
  obtain ⟨N2, h2⟩ := span_nam s (by omega)
  have hle := spanN_le isNam s
  refine ⟨N1 + N2 + 1, fun n hn => ?_⟩
  obtain ⟨k, rfl⟩ : ∃ k, n = k + 1 := ⟨n - 1, by omega⟩
  have hx : nrmAll (sg 112).hs [.str (c :: s)] = true := by kernel_rfl
  rw [R_eqn q112 hx, expAt_n hx, show (sg 112).hs.length = 1 by kernel_rfl]
  unfold p112
  refine (den_g ?_).trans ?_
  · show (true && decide ((0 : Int) < ((c :: s).length : Nat))) = true
    rw [decide_eq_true (by simp only [List.length_cons]; omega)]; rfl
  rw [den_l, den_j]
  refine (den_c (r := [.bool true]) (h1 k (by omega)) (by kernel_rfl)).trans ?_
  rw [show (holes (sg 165).ro).length = 1 by kernel_rfl]
  refine (den_it rfl).trans ?_
  rw [den_jp]
  unfold jmpTo
  refine (den_it rfl).trans ?_
  refine (den_g ?_).trans ?_
  · show ((true && decide ((1 : Int) ≤ ((c :: s).length : Nat))) && decide ((((c :: s).length : Nat) : Int) ≤ ((c :: s).length : Nat))) = true
    rw [decide_eq_true (by simp only [List.length_cons]; omega), decide_eq_true (by omega)]; rfl
  rw [den_l]
  refine (den_c (r := [.int .i64 (spanN isNam s : Int)]) ?_ (by kernel_rfl)).trans ?_
  · show R k 166 [.str (((c :: s).drop (1 : Int).toNat).take ((((c :: s).length : Nat) : Int).toNat - (1 : Int).toNat))] = _
    rw [Int.toNat_natCast, show (1 : Int).toNat = 1 from rfl, List.drop_succ_cons, List.drop_zero, List.take_of_length_le (by simp)]
    exact h2 k (by omega)
  rw [show (holes (sg 166).ro).length = 1 by kernel_rfl, den_l]
  have hw : IntKind.i64.wrap (1 + (spanN isNam s : Int)) = 1 + (spanN isNam s : Int) := wrap_id (by omega) (by omega)
  refine (den_if ?_).trans ?_
  · show decide (IntKind.i64.wrap (1 + (spanN isNam s : Int)) > 40) = false
    rw [hw]; exact decide_eq_false (by omega)
  refine (den_g ?_).trans ?_
  · show ((true && decide ((0 : Int) ≤ IntKind.i64.wrap (1 + (spanN isNam s : Int)))) && decide (IntKind.i64.wrap (1 + (spanN isNam s : Int)) ≤ ((c :: s).length : Nat))) = true
    rw [hw, decide_eq_true (by omega), decide_eq_true (by simp only [List.length_cons]; omega)]; rfl
  rw [den_l]
  refine (den_if ?_).trans ?_
  · show ((((c :: s).drop (0 : Int).toNat).take ((IntKind.i64.wrap (1 + (spanN isNam s : Int))).toNat - (0 : Int).toNat)) == [36]) = false
    rw [hw]
    obtain ⟨j, hj⟩ : ∃ j, (1 + (spanN isNam s : Int)).toNat - (0 : Int).toNat = j + 1 := ⟨spanN isNam s, by omega⟩
    rw [hj]
    show (c :: s.take j == [36]) = false
    exact beq_eq_false_iff_ne.2 fun e => isLet_ne hc (List.cons.inj e).1
  show some (true, [D.int .i64 1, .int .i64 (IntKind.i64.wrap (1 + (spanN isNam s : Int))), .int .i64 0]) = _
  rw [hw]
theorem number_is {s : List UInt8} (hs : s.length < 100000) (hb : s[spanN isDgU s]? = some 32) : Ru 168 [.str s] (true, [.int .i64 (spanN isDgU s : Int)]) := by
  obtain ⟨N, hN⟩ := span_dig s (by omega)
  have hlt : spanN isDgU s < s.length := by
    rcases Nat.lt_or_ge (spanN isDgU s) s.length with h | h
    · exact h
    · rw [List.getElem?_eq_none h] at hb; cases hb
  refine ⟨N + 1, fun n hn => ?_⟩
  obtain ⟨k, rfl⟩ : ∃ k, n = k + 1 := ⟨n - 1, by omega⟩
  have hx : nrmAll (sg 168).hs [.str s] = true := by kernel_rfl
  rw [R_eqn q168 hx, expAt_n hx, show (sg 168).hs.length = 1 by kernel_rfl]
  unfold p168
  refine (den_c (r := [.int .i64 (spanN isDgU s : Int)]) (hN k (by omega)) (by kernel_rfl)).trans ?_
  rw [show (holes (sg 221).ro).length = 1 by kernel_rfl]
  refine (den_it ?_).trans ?_
  · show decide ((spanN isDgU s : Int) < (s.length : Nat)) = true
    exact decide_eq_true (by omega)
  refine (den_g ?_).trans ?_
  · show (decide ((0 : Int) ≤ (spanN isDgU s : Int)) && decide ((spanN isDgU s : Int) < (s.length : Nat))) = true
    rw [decide_eq_true (by omega), decide_eq_true (by omega)]; rfl
  rw [den_l]
  refine (den_if ?_).trans ?_
  · show (((s[(spanN isDgU s : Int).toNat]?.getD 0).toNat : Int) == 39) = false
    rw [Int.toNat_natCast, hb]; rfl
  rfl
theorem isDig_lets {c : UInt8} (h : isDig c.toNat = true) : isLet c.toNat = false ∧ c.toNat ≠ 36 := by
  unfold isDig at h
  rw [Bool.and_eq_true] at h
  have h1 := Nat.le_of_ble_eq_true h.1
  have h2 := Nat.le_of_ble_eq_true h.2
  refine ⟨?_, by omega⟩
  unfold isLet
  rw [show Nat.ble 97 c.toNat = false from by cases hb : Nat.ble 97 c.toNat with | false => rfl | true => have := Nat.le_of_ble_eq_true hb; omega, show Nat.ble 65 c.toNat = false from by cases hb : Nat.ble 65 c.toNat with | false => rfl | true => have := Nat.le_of_ble_eq_true hb; omega, show Nat.beq c.toNat 95 = false from by cases hb : Nat.beq c.toNat 95 with | false => rfl | true => have := Nat.eq_of_beq_eq_true hb; omega]
  rfl
theorem word_num {c : UInt8} {s : List UInt8} {x : D} (hs : s.length < 99999) (hc : isDig c.toNat = true) (hb : (c :: s)[spanN isDgU (c :: s)]? = some 32) (hp : Ru 169 [.str ((c :: s).take (spanN isDgU (c :: s)))] (true, [x, .int .i64 0])) (hn : nrmAll (holes (sg 169).ro) [x, .int .i64 0] = true) :
    Ru 112 [.str (c :: s)] (true, [.int .i64 2, .int .i64 (spanN isDgU (c :: s) : Int), .int .i64 0]) := by
  obtain ⟨hl, h36⟩ := isDig_lets hc
  obtain ⟨N1, h1⟩ := k165 c
  rw [hl] at h1
  obtain ⟨N2, h2⟩ := k167 c
  rw [hc] at h2
  obtain ⟨N3, h3⟩ := number_is (s := c :: s) (by simp only [List.length_cons]; omega) hb
  obtain ⟨N4, h4⟩ := hp
  have hle := spanN_le isDgU (c :: s)
  generalize hm : spanN isDgU (c :: s) = m at *
  refine ⟨N1 + N2 + N3 + N4 + 1, fun n hn' => ?_⟩
  obtain ⟨k, rfl⟩ : ∃ k, n = k + 1 := ⟨n - 1, by omega⟩
  have hx : nrmAll (sg 112).hs [.str (c :: s)] = true := by kernel_rfl
  rw [R_eqn q112 hx, expAt_n hx, show (sg 112).hs.length = 1 by kernel_rfl]
  unfold p112
  refine (den_g ?_).trans ?_
  · show (true && decide ((0 : Int) < ((c :: s).length : Nat))) = true
    rw [decide_eq_true (by simp only [List.length_cons]; omega)]; rfl
  rw [den_l, den_j]
  refine (den_c (r := [.bool false]) (h1 k (by omega)) (by kernel_rfl)).trans ?_
  rw [show (holes (sg 165).ro).length = 1 by kernel_rfl]
  refine (den_if rfl).trans ?_
  rw [den_jp]
  unfold jmpTo
  refine (den_if ?_).trans ?_
  · show ((c.toNat : Int) == 36) = false
    exact beq_eq_false_iff_ne.2 (by omega)
  refine (den_c (r := [.bool true]) (h2 k (by omega)) (by kernel_rfl)).trans ?_
  rw [show (holes (sg 167).ro).length = 1 by kernel_rfl]
  refine (den_it rfl).trans ?_
  refine (den_c (r := [.int .i64 (m : Int)]) (h3 k (by omega)) (by kernel_rfl)).trans ?_
  rw [show (holes (sg 168).ro).length = 1 by kernel_rfl]
  refine (den_g ?_).trans ?_
  · show ((true && decide ((0 : Int) ≤ (m : Int))) && decide ((m : Int) ≤ ((c :: s).length : Nat))) = true
    rw [decide_eq_true (by omega), decide_eq_true (by omega)]; rfl
  rw [den_l]
  refine (den_c (r := [x, .int .i64 0]) ?_ hn).trans ?_
  · show R k 169 [.str (((c :: s).drop (0 : Int).toNat).take ((m : Int).toNat - (0 : Int).toNat))] = _
    exact h4 k (by omega)
  rw [show (holes (sg 169).ro).length = 2 by kernel_rfl]
  exact (den_if rfl).trans rfl
theorem contains_is {a b : List UInt8} (h : a.length < 100000) : Ru 171 [.str a, .str b] (true, [.bool (decide (0 ≤ idxStr b a 0))]) := by
  refine ⟨1, fun n hn => ?_⟩
  obtain ⟨k, rfl⟩ : ∃ k, n = k + 1 := ⟨n - 1, by omega⟩
  refine q171 [.str a, .str b] [.bool (decide (0 ≤ idxStr b a 0))] ?_ k
  show (bif Nat.ble a.length 4294967280 then some [D.bool (decide (0 ≤ idxStr b a 0))] else none) = _
  rw [Nat.ble_eq_true_of_le (by omega)]; rfl
theorem lp_end (s : List UInt8) : Ru 229 [.str s, .int .i64 1] (false, [.str s, .int .i64 1]) := by
  refine ⟨1, fun n hn => ?_⟩
  obtain ⟨k, rfl⟩ : ∃ k, n = k + 1 := ⟨n - 1, by omega⟩
  have hx : nrmAll (sg 229).hs [.str s, .int .i64 1] = true := by kernel_rfl
  rw [R_eqn q229 hx, expAt_n hx, show (sg 229).hs.length = 2 by kernel_rfl]
  unfold p229
  exact (den_if rfl).trans rfl
theorem lp_blank {s : List UInt8} {m : Nat} (hs : s.length < 100000) (h1 : 1 ≤ m) (hm : m + 1 ≤ s.length) (hc : decide (0 ≤ idxStr [32] (s.take (m + 1)) 0) = true) {r : Bool × List D} (h : Ru 229 [.str s, .int .i64 (m : Int)] r) : Ru 229 [.str s, .int .i64 ((m + 1 : Nat) : Int)] r := by
  obtain ⟨N, hN⟩ := h
  obtain ⟨M, hM⟩ := contains_is (a := s.take (m + 1)) (b := [32]) (by rw [List.length_take]; omega)
  rw [hc] at hM
  refine ⟨N + M + 1, fun n hn => ?_⟩
  obtain ⟨k, rfl⟩ : ∃ k, n = k + 1 := ⟨n - 1, by omega⟩
  have hx : nrmAll (sg 229).hs [.str s, .int .i64 ((m + 1 : Nat) : Int)] = true := by kernel_rfl
  rw [R_eqn q229 hx, expAt_n hx, show (sg 229).hs.length = 2 by kernel_rfl]
  unfold p229
  refine (den_it ?_).trans ?_
  · show decide (((m + 1 : Nat) : Int) > 1) = true
    exact decide_eq_true (by omega)
  refine (den_g ?_).trans ?_
  · show ((true && decide ((0 : Int) ≤ ((m + 1 : Nat) : Int))) && decide (((m + 1 : Nat) : Int) ≤ (s.length : Nat))) = true
    rw [decide_eq_true (by omega), decide_eq_true (by omega)]; rfl
  rw [den_l]
  refine (den_c (r := [.bool true]) (hM k (by omega)) (by kernel_rfl)).trans ?_
  rw [show (holes (sg 171).ro).length = 1 by kernel_rfl]
  refine (den_if rfl).trans ?_
  rw [den_l]
  show R k 229 [.str s, .int .i64 (IntKind.i64.wrap (((m + 1 : Nat) : Int) - 1))] = _
  rw [wrap_id (by omega) (by omega), show ((m + 1 : Nat) : Int) - 1 = (m : Int) by omega]
  exact hN k (by omega)
def longS : List UInt8 := [32, 60, 60, 60, 32, 62, 62, 62, 32, 60, 60, 32, 62, 62, 32, 60, 61, 32, 62, 61, 32, 61, 61, 32, 33, 61, 32, 38, 38, 32, 124, 124, 32, 126, 38, 32, 126, 124, 32, 126, 94, 32, 94, 126, 32]
theorem lp_hit {s : List UInt8} {m : Nat} (hs : s.length < 100000) (h1 : 1 ≤ m) (hm : m + 1 ≤ s.length) (hc : decide (0 ≤ idxStr [32] (s.take (m + 1)) 0) = false) (hl : decide (0 ≤ idxStr ([32] ++ s.take (m + 1) ++ [32]) longS 0) = true) : Ru 229 [.str s, .int .i64 ((m + 1 : Nat) : Int)] (true, [.int .i64 ((m + 1 : Nat) : Int)]) := by
  obtain ⟨M, hM⟩ := contains_is (a := s.take (m + 1)) (b := [32]) (by rw [List.length_take]; omega)
  rw [hc] at hM
  obtain ⟨M', hM'⟩ := contains_is (a := longS) (b := [32] ++ s.take (m + 1) ++ [32]) (by decide)
  rw [hl] at hM'
  refine ⟨M + M' + 1, fun n hn => ?_⟩
  obtain ⟨k, rfl⟩ : ∃ k, n = k + 1 := ⟨n - 1, by omega⟩
  have hx : nrmAll (sg 229).hs [.str s, .int .i64 ((m + 1 : Nat) : Int)] = true := by kernel_rfl
  rw [R_eqn q229 hx, expAt_n hx, show (sg 229).hs.length = 2 by kernel_rfl]
  unfold p229
  refine (den_it ?_).trans ?_
  · show decide (((m + 1 : Nat) : Int) > 1) = true
    exact decide_eq_true (by omega)
  refine (den_g ?_).trans ?_
  · show ((true && decide ((0 : Int) ≤ ((m + 1 : Nat) : Int))) && decide (((m + 1 : Nat) : Int) ≤ (s.length : Nat))) = true
    rw [decide_eq_true (by omega), decide_eq_true (by omega)]; rfl
  rw [den_l]
  refine (den_c (r := [.bool false]) (hM k (by omega)) (by kernel_rfl)).trans ?_
  rw [show (holes (sg 171).ro).length = 1 by kernel_rfl]
  refine (den_it rfl).trans ?_
  refine (den_g ?_).trans ?_
  · show ((true && decide ((0 : Int) ≤ ((m + 1 : Nat) : Int))) && decide (((m + 1 : Nat) : Int) ≤ (s.length : Nat))) = true
    rw [decide_eq_true (by omega), decide_eq_true (by omega)]; rfl
  rw [den_l]
  have hcut : (s.drop (0 : Int).toNat).take ((((m + 1 : Nat) : Int)).toNat - (0 : Int).toNat) = s.take (m + 1) := rfl
  refine (den_g ?_).trans ?_
  · show decide (([32] : List UInt8).length + ((s.drop (0 : Int).toNat).take ((((m + 1 : Nat) : Int)).toNat - (0 : Int).toNat)).length ≤ maxStr) = true
    rw [hcut, List.length_take]
    exact decide_eq_true (by show 1 + _ ≤ 4611686018427387904; omega)
  rw [den_l]
  refine (den_g ?_).trans ?_
  · show decide (([32] ++ (s.drop (0 : Int).toNat).take ((((m + 1 : Nat) : Int)).toNat - (0 : Int).toNat)).length + ([32] : List UInt8).length ≤ maxStr) = true
    rw [hcut, List.length_append, List.length_take]
    exact decide_eq_true (by show 1 + _ + 1 ≤ 4611686018427387904; omega)
  rw [den_l]
  refine (den_c (r := [.bool true]) (hM' k (by omega)) (by kernel_rfl)).trans ?_
  rw [show (holes (sg 171).ro).length = 1 by kernel_rfl]
  exact (den_it rfl).trans rfl
theorem den_ot {rec : Nat → List D → Out} {J : List (List D → Out)} {f : Nat} {es : List Ar} {x : T} {n : Nat} {V : Nat → D} {r : List D} (h : rec f (arD V es) = some (true, r)) : (T.o f es x).den sg rec J n V = some (true, r) := by
  show AE.bindL (rec f (arD V es)) (fun r => bif chk (sg f).ro r then x.den sg rec J (n + (holes (sg f).ro).length) (pushR V n (holes (sg f).ro) r) else none) = _
  rw [h]; rfl
def oneS : List UInt8 := [43, 45, 42, 47, 37, 38, 124, 94, 126, 33, 60, 62, 63, 58, 61, 40, 41, 91, 93, 123, 125, 59, 44, 46, 35, 64]
theorem sign_one {a : UInt8} {rest : List UInt8} {j : Int} (hs : rest.length < 90000) (ha : a ≠ 32) (h1 : Ru 230 [.str oneS, .int .u8 (a.toNat : Int)] (true, [.int .i64 j])) (hj : 0 ≤ j) : Ru 170 [.str (a :: 32 :: rest)] (true, [.int .i64 1]) := by
  have hb : ∀ r : List UInt8, decide (0 ≤ idxStr [32] (a :: 32 :: r) 0) = true := by
    intro r
    have h0 : List.isPrefixOf [32] (a :: 32 :: r) = false := by
      show ((32 : UInt8) == a && _) = false
      rw [show ((32 : UInt8) == a) = false from beq_eq_false_iff_ne.2 (Ne.symm ha)]; rfl
    show decide (0 ≤ (bif List.isPrefixOf [32] (a :: 32 :: r) then ((0 : Nat) : Int) else idxStr [32] (32 :: r) 1)) = true
    rw [h0, cond_false]
    show decide (0 ≤ (bif List.isPrefixOf [32] (32 :: r) then ((1 : Nat) : Int) else idxStr [32] r 2)) = true
    rw [show List.isPrefixOf [32] (32 :: r) = true by simp [List.isPrefixOf]]
    rfl
  have hlp : ∃ m : Nat, (min 3 ((a :: 32 :: rest).length : Nat) : Int) = (m : Int) ∧ Ru 229 [.str (a :: 32 :: rest), .int .i64 (m : Int)] (false, [.str (a :: 32 :: rest), .int .i64 1]) := by
    have h2 : Ru 229 [.str (a :: 32 :: rest), .int .i64 ((1 + 1 : Nat) : Int)] (false, [.str (a :: 32 :: rest), .int .i64 1]) :=
      lp_blank (m := 1) (by simp only [List.length_cons]; omega) (by omega) (by simp) (by exact hb []) (lp_end _)
    cases rest with
    | nil => exact ⟨2, rfl, h2⟩
    | cons r0 rest =>
      refine ⟨3, ?_, lp_blank (m := 2) (by simp only [List.length_cons] at hs ⊢; omega) (by omega) (by simp) (by exact hb [r0]) h2⟩
      simp only [List.length_cons]; omega
  obtain ⟨m, hm, N, hN⟩ := hlp
  obtain ⟨M, hM⟩ := h1
  refine ⟨N + M + 1, fun n hn => ?_⟩
  obtain ⟨k, rfl⟩ : ∃ k, n = k + 1 := ⟨n - 1, by omega⟩
  have hx : nrmAll (sg 170).hs [.str (a :: 32 :: rest)] = true := by kernel_rfl
  rw [R_eqn q170 hx, expAt_n hx, show (sg 170).hs.length = 1 by kernel_rfl]
  unfold p170
  rw [den_l]
  refine (den_o (r := [.str (a :: 32 :: rest), .int .i64 1]) ?_ (by kernel_rfl)).trans ?_
  · show R k 229 [.str (a :: 32 :: rest), .int .i64 (min 3 ((a :: 32 :: rest).length : Nat) : Int)] = _
    rw [hm]; exact hN k (by omega)
  rw [show (holes (sg 229).ro).length = 2 by kernel_rfl]
  refine (den_g ?_).trans ?_
  · show (true && decide ((0 : Int) < ((a :: 32 :: rest).length : Nat))) = true
    rw [decide_eq_true (by simp only [List.length_cons]; omega)]; rfl
  rw [den_l]
  refine (den_c (r := [.int .i64 j]) (hM k (by omega)) (by kernel_rfl)).trans ?_
  rw [show (holes (sg 230).ro).length = 1 by kernel_rfl]
  refine (den_it ?_).trans rfl
  show decide (j ≥ 0) = true
  exact decide_eq_true hj
theorem word_sign {c : UInt8} {s : List UInt8} {m : Nat} (hl : isLet c.toNat = false) (hd : isDig c.toNat = false) (h36 : c.toNat ≠ 36) (h39 : c.toNat ≠ 39) (hm : m ≠ 0) (h : Ru 170 [.str (c :: s)] (true, [.int .i64 (m : Int)])) : Ru 112 [.str (c :: s)] (true, [.int .i64 3, .int .i64 (m : Int), .int .i64 0]) := by
  obtain ⟨N1, h1⟩ := k165 c
  rw [hl] at h1
  obtain ⟨N2, h2⟩ := k167 c
  rw [hd] at h2
  obtain ⟨N3, h3⟩ := h
  refine ⟨N1 + N2 + N3 + 1, fun n hn' => ?_⟩
  obtain ⟨k, rfl⟩ : ∃ k, n = k + 1 := ⟨n - 1, by omega⟩
  have hx : nrmAll (sg 112).hs [.str (c :: s)] = true := by kernel_rfl
  rw [R_eqn q112 hx, expAt_n hx, show (sg 112).hs.length = 1 by kernel_rfl]
  unfold p112
  refine (den_g ?_).trans ?_
  · show (true && decide ((0 : Int) < ((c :: s).length : Nat))) = true
    rw [decide_eq_true (by simp only [List.length_cons]; omega)]; rfl
  rw [den_l, den_j]
  refine (den_c (r := [.bool false]) (h1 k (by omega)) (by kernel_rfl)).trans ?_
  rw [show (holes (sg 165).ro).length = 1 by kernel_rfl]
  refine (den_if rfl).trans ?_
  rw [den_jp]
  unfold jmpTo
  refine (den_if ?_).trans ?_
  · show ((c.toNat : Int) == 36) = false
    exact beq_eq_false_iff_ne.2 (by omega)
  refine (den_c (r := [.bool false]) (h2 k (by omega)) (by kernel_rfl)).trans ?_
  rw [show (holes (sg 167).ro).length = 1 by kernel_rfl]
  refine (den_if rfl).trans ?_
  refine (den_if ?_).trans ?_
  · show ((c.toNat : Int) == 39) = false
    exact beq_eq_false_iff_ne.2 (by omega)
  refine (den_c (r := [.int .i64 (m : Int)]) (h3 k (by omega)) (by kernel_rfl)).trans ?_
  rw [show (holes (sg 170).ro).length = 1 by kernel_rfl]
  refine (den_if ?_).trans rfl
  show ((m : Int) == 0) = false
  exact beq_eq_false_iff_ne.2 (by omega)
theorem sign_two {a b : UInt8} {rest : List UInt8} (hs : rest.length < 90000) (ha : a ≠ 32) (hb : b ≠ 32) (hl : decide (0 ≤ idxStr ([32] ++ [a, b] ++ [32]) longS 0) = true) : Ru 170 [.str (a :: b :: 32 :: rest)] (true, [.int .i64 2]) := by
  have p0 : ∀ r : List UInt8, List.isPrefixOf [32] (a :: r) = false := fun r => by
    show ((32 : UInt8) == a && _) = false
    rw [show ((32 : UInt8) == a) = false from beq_eq_false_iff_ne.2 (Ne.symm ha)]; rfl
  have p1 : ∀ r : List UInt8, List.isPrefixOf [32] (b :: r) = false := fun r => by
    show ((32 : UInt8) == b && _) = false
    rw [show ((32 : UInt8) == b) = false from beq_eq_false_iff_ne.2 (Ne.symm hb)]; rfl
  have h3 : decide (0 ≤ idxStr [32] [a, b, 32] 0) = true := by
    show decide (0 ≤ (bif List.isPrefixOf [32] [a, b, 32] then ((0 : Nat) : Int) else idxStr [32] [b, 32] 1)) = true
    rw [p0, cond_false]
    show decide (0 ≤ (bif List.isPrefixOf [32] [b, 32] then ((1 : Nat) : Int) else idxStr [32] [32] 2)) = true
    rw [p1, cond_false]
    rfl
  have h2 : decide (0 ≤ idxStr [32] [a, b] 0) = false := by
    show decide (0 ≤ (bif List.isPrefixOf [32] [a, b] then ((0 : Nat) : Int) else idxStr [32] [b] 1)) = false
    rw [p0, cond_false]
    show decide (0 ≤ (bif List.isPrefixOf [32] [b] then ((1 : Nat) : Int) else idxStr [32] [] 2)) = false
    rw [p1, cond_false]
    rfl
  have hlp : Ru 229 [.str (a :: b :: 32 :: rest), .int .i64 ((2 + 1 : Nat) : Int)] (true, [.int .i64 ((1 + 1 : Nat) : Int)]) :=
    lp_blank (m := 2) (by simp only [List.length_cons]; omega) (by omega) (by simp) (by exact h3) (lp_hit (m := 1) (by simp only [List.length_cons]; omega) (by omega) (by simp) (by exact h2) (by exact hl))
  obtain ⟨N, hN⟩ := hlp
  refine ⟨N + 1, fun n hn => ?_⟩
  obtain ⟨k, rfl⟩ : ∃ k, n = k + 1 := ⟨n - 1, by omega⟩
  have hx : nrmAll (sg 170).hs [.str (a :: b :: 32 :: rest)] = true := by kernel_rfl
  rw [R_eqn q170 hx, expAt_n hx, show (sg 170).hs.length = 1 by kernel_rfl]
  unfold p170
  rw [den_l]
  refine (den_ot (r := [.int .i64 2]) ?_)
  show R k 229 [.str (a :: b :: 32 :: rest), .int .i64 (min 3 ((a :: b :: 32 :: rest).length : Nat) : Int)] = _
  rw [show (min 3 ((a :: b :: 32 :: rest).length : Nat) : Int) = ((2 + 1 : Nat) : Int) by simp only [List.length_cons]; omega]
  exact hN k (by omega)
theorem move_is {f l : Int} : ∀ (s pre : List UInt8) (c : Nat) (x y z : Int), (∀ b ∈ s, b ≠ 10) → (pre ++ s).length < 100000 → c + s.length < 1000000 → ∃ x' y' z' : Int, Ru 219 [.str (pre ++ s), .int .i64 ((pre ++ s).length : Nat), .int .i64 (pre.length : Int), .int .i64 f, .int .i64 l, .int .i64 (c : Int), .int .i64 x, .int .i64 y, .int .i64 z] (false, [.str (pre ++ s), .int .i64 ((pre ++ s).length : Nat), .int .i64 ((pre ++ s).length : Nat), .int .i64 f, .int .i64 l, .int .i64 ((c + s.length : Nat) : Int), .int .i64 x', .int .i64 y', .int .i64 z'])
  | [], pre, c, x, y, z, _, _, _ => by
    refine ⟨x, y, z, 1, fun n hn => ?_⟩
    obtain ⟨k, rfl⟩ : ∃ k, n = k + 1 := ⟨n - 1, by omega⟩
    have hx : nrmAll (sg 219).hs [.str (pre ++ []), .int .i64 ((pre ++ []).length : Nat), .int .i64 (pre.length : Int), .int .i64 f, .int .i64 l, .int .i64 (c : Int), .int .i64 x, .int .i64 y, .int .i64 z] = true := by kernel_rfl
    rw [R_eqn q219 hx, expAt_n hx, show (sg 219).hs.length = 9 by kernel_rfl]
    unfold p219
    refine (den_if ?_).trans ?_
    · show decide ((pre.length : Int) < ((pre ++ []).length : Nat)) = false
      exact decide_eq_false (by simp)
    simp only [List.append_nil, List.length_nil, Nat.add_zero]
    rfl
  | b :: s, pre, c, x, y, z, hb, hp, hc => by
    obtain ⟨x', y', z', N, hN⟩ := move_is (f := f) (l := l) s (pre ++ [b]) (c + 1) x y z (fun u hu => hb u (List.mem_cons_of_mem _ hu)) (by simpa using hp) (by simp only [List.length_cons] at hc; omega)
    rw [List.append_assoc, List.singleton_append] at hN
    refine ⟨x', y', z', N + 1, fun n hn => ?_⟩
    obtain ⟨k, rfl⟩ : ∃ k, n = k + 1 := ⟨n - 1, by omega⟩
    have hx : nrmAll (sg 219).hs [.str (pre ++ b :: s), .int .i64 ((pre ++ b :: s).length : Nat), .int .i64 (pre.length : Int), .int .i64 f, .int .i64 l, .int .i64 (c : Int), .int .i64 x, .int .i64 y, .int .i64 z] = true := by kernel_rfl
    have hlt : pre.length < (pre ++ b :: s).length := by simp
    have hget : (pre ++ b :: s)[pre.length]? = some b := by simp
    rw [R_eqn q219 hx, expAt_n hx, show (sg 219).hs.length = 9 by kernel_rfl]
    unfold p219
    refine (den_it ?_).trans ?_
    · show decide ((pre.length : Int) < ((pre ++ b :: s).length : Nat)) = true
      exact decide_eq_true (by omega)
    rw [den_l]
    refine (den_g ?_).trans ?_
    · show (decide ((0 : Int) ≤ (pre.length : Int)) && decide ((pre.length : Int) < ((pre ++ b :: s).length : Nat))) = true
      rw [decide_eq_true (by omega), decide_eq_true (by omega)]; rfl
    rw [den_l]
    refine (den_if ?_).trans ?_
    · show ((((pre ++ b :: s)[(pre.length : Int).toNat]?.getD 0).toNat : Int) == 10) = false
      rw [Int.toNat_natCast, hget]
      refine beq_eq_false_iff_ne.2 fun e => hb b (List.mem_cons_self ..) (UInt8.toNat_inj.1 ?_)
      have e : (b.toNat : Int) = 10 := e
      show b.toNat = 10
      omega
    rw [den_l]
    show R k 219 [.str (pre ++ b :: s), .int .i64 ((pre ++ b :: s).length : Nat), .int .i64 (IntKind.i64.wrap ((pre.length : Int) + 1)), .int .i64 f, .int .i64 l, .int .i64 (IntKind.i64.wrap ((c : Int) + 1)), .int .i64 x, .int .i64 y, .int .i64 z] = _
    rw [wrap_succ (by omega), wrap_succ (by simp only [List.length_cons] at hc; omega)]
    have := hN k (by omega)
    simp only [List.length_append, List.length_singleton] at this
    simp only [List.length_append]
    rw [this]
    simp only [List.length_cons]
    rw [show c + 1 + s.length = c + (s.length + 1) by omega]
theorem move_call {f l : Int} {s : List UInt8} {c : Nat} (hb : ∀ b ∈ s, b ≠ 10) (hs : s.length < 100000) (hc : c + s.length < 1000000) : Ru 164 [.agg [.int .i64 f, .int .i64 l, .int .i64 (c : Int)], .str s] (true, [.agg [.int .i64 f, .int .i64 l, .int .i64 ((c + s.length : Nat) : Int)]]) := by
  obtain ⟨x, y, z, N, hN⟩ := move_is (f := f) (l := l) s [] c 0 0 0 hb (by simpa using hs) hc
  simp only [List.nil_append, List.length_nil] at hN
  refine ⟨N + 1, fun n hn => ?_⟩
  obtain ⟨k, rfl⟩ : ∃ k, n = k + 1 := ⟨n - 1, by omega⟩
  have hx : nrmAll (sg 164).hs [.agg [.int .i64 f, .int .i64 l, .int .i64 (c : Int)], .str s] = true := by kernel_rfl
  rw [R_eqn q164 hx, expAt_n hx, show (sg 164).hs.length = 2 by kernel_rfl]
  unfold p164
  exact (den_o (hN k (by omega)) (by kernel_rfl)).trans rfl
def stG (out : List D) (t u : List UInt8) (l c : Int) : List D := [.int .i64 0, .lst 5 out, .lst 5 [], .int .i64 0, .int .i64 0, .int .i64 0, .str u, .int .i64 1, .int .i64 l, .int .i64 c, .str t, .int .i64 1, .int .i64 1, .int .i64 1, .bool false]
def tokD (k : Int) (w : List UInt8) (l c : Int) : D := .agg [.int .i64 k, .str w, .int .i64 1, .int .i64 l, .int .i64 c]
theorem stG60 {out : List D} {t u u' : List UInt8} {l c c' : Int} {k : Nat} {n : Nat} (h1 : R n 110 [.str u] = some (true, [.int .i64 (k : Int)])) (h2 : R n 111 [.int .i64 (k : Int), .str t, .int .i64 1, .int .i64 1, .int .i64 1, .bool false, .int .i64 1, .int .i64 l, .int .i64 c, .str u] = some (true, [.str t, .int .i64 1, .int .i64 1, .int .i64 1, .bool false, .int .i64 1, .int .i64 l, .int .i64 c', .str u'])) :
    R (n + 1) 60 (stG out t u l c) = rest60.den sg (R n) [] 25 (pushL (pushL (fun i => nth (stG out t u l c) i) 15 [.int .i64 (k : Int)]) 16 [.str t, .int .i64 1, .int .i64 1, .int .i64 1, .bool false, .int .i64 1, .int .i64 l, .int .i64 c', .str u']) := by
  have hx : nrmAll (sg 60).hs (stG out t u l c) = true := by kernel_rfl
  rw [R_eqn q60 hx, expAt_n hx, show (sg 60).hs.length = 15 by kernel_rfl, show p60 = cn 110 [6] (cn 111 [15, .r 10 5, .r 7 3, 6] rest60) from rfl]
  refine (den_c h1 (by kernel_rfl)).trans ?_
  exact (den_c h2 (by kernel_rfl)).trans (by kernel_rfl)
theorem step_word {out : List D} {t bl w tl : List UInt8} {kd l : Int} {c : Nat} (hbl : spanN isBlank (bl ++ w ++ tl) = bl.length) (hbn : ∀ b ∈ bl, b ≠ 10) (hwn : ∀ b ∈ w, b ≠ 10) (hw0 : w ≠ []) (hlen : (bl ++ w ++ tl).length < 90000) (hc : c < 100000) (ho : out.length < 12000)
    (hw : Ru 112 [.str (w ++ tl)] (true, [.int .i64 kd, .int .i64 (w.length : Int), .int .i64 0])) {r : Bool × List D} (h : Ru 60 (stG (out ++ [tokD kd w l ((c + bl.length : Nat) : Int)]) t (tl) l ((c + bl.length + w.length : Nat) : Int)) r) :
    Ru 60 (stG out t (bl ++ w ++ tl) l (c : Int)) r := by
  simp only [List.length_append] at hlen
  obtain ⟨N1, h1⟩ := span_blank (bl ++ w ++ tl) (by simp only [List.length_append]; omega)
  rw [hbl] at h1
  obtain ⟨N2, h2⟩ := piece1 (t := t) (u := bl ++ w ++ tl) (L := bl.length) (f := 1) (l := l) (c := (c : Int)) (f' := 1) (l' := l) (c' := ((c + bl.length : Nat) : Int)) (by simp) (by
    rw [List.append_assoc, List.take_left']
    · exact move_call hbn (by omega) (by omega)
    · rfl)
  rw [List.append_assoc, List.drop_left' rfl, ← List.append_assoc] at h2
  obtain ⟨N3, h3⟩ := hw
  obtain ⟨N4, h4⟩ := piece1 (t := t) (u := w ++ tl) (L := w.length) (f := 1) (l := l) (c := ((c + bl.length : Nat) : Int)) (f' := 1) (l' := l) (c' := ((c + bl.length + w.length : Nat) : Int)) (by simp) (by
    rw [List.take_left' rfl]
    exact move_call hwn (by omega) (by omega))
  rw [List.drop_left' rfl] at h4
  obtain ⟨N5, h5⟩ := h
  refine ⟨N1 + N2 + N3 + N4 + N5 + 1, fun n hn => ?_⟩
  obtain ⟨k, rfl⟩ : ∃ k, n = k + 1 := ⟨n - 1, by omega⟩
  rw [stG60 (h1 k (by omega)) (h2 k (by omega))]
  show T.den sg (R k) (.i _ _ _) [] 25 _ = _
  refine (den_if ?_).trans ?_
  · show (w ++ tl == []) = false
    exact beq_eq_false_iff_ne.2 (by simp [hw0])
  refine (den_c (r := [.int .i64 kd, .int .i64 (w.length : Int), .int .i64 0]) (h3 k (by omega)) (by kernel_rfl)).trans ?_
  rw [show (holes (sg 112).ro).length = 3 by kernel_rfl]
  refine (den_it rfl).trans ?_
  refine (den_if ?_).trans ?_
  · show ((out.length : Int) == 12000) = false
    exact beq_eq_false_iff_ne.2 (by omega)
  refine (den_if rfl).trans ?_
  refine (den_g ?_).trans ?_
  · show ((true && decide ((0 : Int) ≤ (w.length : Int))) && decide ((w.length : Int) ≤ ((w ++ tl).length : Nat))) = true
    rw [decide_eq_true (by omega), decide_eq_true (by simp only [List.length_append]; omega)]; rfl
  rw [den_l]
  refine (den_g ?_).trans ?_
  · show Nat.ble (out.length + 1) maxLst = true
    exact Nat.ble_eq_true_of_le (by show _ ≤ 68719476736; omega)
  rw [den_l]
  refine (den_c (r := [.str t, .int .i64 1, .int .i64 1, .int .i64 1, .bool false, .int .i64 1, .int .i64 l, .int .i64 ((c + bl.length + w.length : Nat) : Int), .str (tl)]) (h4 k (by omega)) (by kernel_rfl)).trans ?_
  rw [show (holes (sg 111).ro).length = 9 by kernel_rfl]
  have hcut : ((w ++ tl).drop (0 : Int).toNat).take ((w.length : Int).toNat - (0 : Int).toNat) = w := by
    show (w ++ tl).take w.length = w
    exact List.take_left' rfl
  show R k 60 (stG (out ++ [tokD kd (((w ++ tl).drop (0 : Int).toNat).take ((w.length : Int).toNat - (0 : Int).toNat)) l ((c + bl.length : Nat) : Int)]) t (tl) l ((c + bl.length + w.length : Nat) : Int)) = _
  rw [hcut]
  exact h5 k (by omega)
theorem step_end {out : List D} {t : List UInt8} {l : Int} {c : Nat} (hc : c < 100000) : Ru 60 (stG out t [] l (c : Int)) (true, [.agg [.int .i64 0, .int .i64 0, .int .i64 0], .int .i64 0, .lst 5 out]) := by
  obtain ⟨N1, h1⟩ := span_blank [] (by decide)
  obtain ⟨N2, h2⟩ := piece1 (t := t) (u := []) (L := 0) (f := 1) (l := l) (c := (c : Int)) (f' := 1) (l' := l) (c' := (c : Int)) (by decide) (by
    have := move_call (f := 1) (l := l) (s := []) (c := c) (fun b hb => by cases hb) (by decide) (by simp; omega)
    exact this)
  refine ⟨N1 + N2 + 1, fun n hn => ?_⟩
  obtain ⟨k, rfl⟩ : ∃ k, n = k + 1 := ⟨n - 1, by omega⟩
  rw [stG60 (h1 k (by omega)) (h2 k (by omega))]
  show T.den sg (R k) (.i _ _ _) [] 25 _ = _
  exact (den_it rfl).trans rfl
structure WOk (x : Int × List UInt8) : Prop where
  hd : ∃ a s, x.2 = a :: s ∧ isBlank a.toNat = false
  nl : ∀ b ∈ x.2, b ≠ 10
  run : ∀ r : List UInt8, r.length < 80000 → Ru 112 [.str (x.2 ++ 32 :: r)] (true, [.int .i64 x.1, .int .i64 (x.2.length : Int), .int .i64 0])
def tail : List (Int × List UInt8) → List UInt8
  | [] => []
  | x :: r => 32 :: x.2 ++ tail r
def tks (l : Int) : Nat → List (Int × List UInt8) → List D
  | _, [] => []
  | c, x :: r => tokD x.1 x.2 l ((c + 1 : Nat) : Int) :: tks l (c + 1 + x.2.length) r
theorem blank_one {a : UInt8} {s : List UInt8} (h : isBlank a.toNat = false) : spanN isBlank (32 :: a :: s) = 1 := by
  show (bif isBlank (32 : UInt8).toNat then spanN isBlank (a :: s) + 1 else 0) = 1
  have : spanN isBlank (a :: s) = 0 := by
    show (bif isBlank a.toNat then spanN isBlank s + 1 else 0) = 0
    rw [h]; rfl
  rw [this]; rfl
theorem blank_none {a : UInt8} {s : List UInt8} (h : isBlank a.toNat = false) : spanN isBlank (a :: s) = 0 := by
  show (bif isBlank a.toNat then spanN isBlank s + 1 else 0) = 0
  rw [h]; rfl
def LastOk (x : Int × List UInt8) : Prop := (∃ a s, x.2 = a :: s ∧ isBlank a.toNat = false) ∧ (∀ b ∈ x.2, b ≠ 10) ∧ Ru 112 [.str x.2] (true, [.int .i64 x.1, .int .i64 (x.2.length : Int), .int .i64 0])
theorem lex_tail {t : List UInt8} {l : Int} {y : Int × List UInt8} (hy : LastOk y) : ∀ (ws : List (Int × List UInt8)) (out : List D) (c : Nat), (∀ x ∈ ws, WOk x) → (tail (ws ++ [y])).length < 70000 → out.length + ws.length < 11000 → c + (tail (ws ++ [y])).length < 90000 →
    Ru 60 (stG out t (tail (ws ++ [y])) l (c : Int)) (true, [.agg [.int .i64 0, .int .i64 0, .int .i64 0], .int .i64 0, .lst 5 (out ++ tks l c (ws ++ [y]))])
  | [], out, c, _, h1, h2, h3 => by
    obtain ⟨⟨a, s, e, hb⟩, hn, hr⟩ := hy
    have hlen : (tail [y]).length = y.2.length + 1 := by simp [tail]
    simp only [List.nil_append] at h1 h3 ⊢
    rw [hlen] at h1 h3
    have := step_word (out := out) (t := t) (bl := [32]) (w := y.2) (tl := []) (kd := y.1) (l := l) (c := c) (r := (true, [.agg [.int .i64 0, .int .i64 0, .int .i64 0], .int .i64 0, .lst 5 (out ++ tks l c [y])]))
      (by rw [e]; exact blank_one hb) (by simp) hn (by rw [e]; simp) (by simp only [List.length_append, List.length_singleton, List.length_nil]; omega) (by omega) (by simp at h2; omega) (by simpa using hr) (step_end (by simp only [List.length_singleton]; omega))
    simpa [tail] using this
  | x :: ws, out, c, hw, h1, h2, h3 => by
    have hx := hw x (List.mem_cons_self ..)
    obtain ⟨a, s, e, hb⟩ := hx.hd
    have hlen : (tail (x :: ws ++ [y])).length = x.2.length + 1 + (tail (ws ++ [y])).length := by
      show (32 :: x.2 ++ tail (ws ++ [y])).length = _
      simp only [List.length_append, List.length_cons]
    rw [hlen] at h1 h3
    simp only [List.length_cons] at h2
    have ih := lex_tail (t := t) (l := l) hy ws (out ++ [tokD x.1 x.2 l ((c + 1 : Nat) : Int)]) (c + 1 + x.2.length) (fun z hz => hw z (List.mem_cons_of_mem _ hz)) (by omega) (by simp only [List.length_append, List.length_singleton]; omega) (by omega)
    have ht : ∃ r, tail (ws ++ [y]) = 32 :: r := by
      cases ws with
      | nil => exact ⟨_, rfl⟩
      | cons z zs => exact ⟨_, rfl⟩
    obtain ⟨r, hr⟩ := ht
    have hrl : r.length < 80000 := by rw [hr] at h1; simp only [List.length_cons] at h1; omega
    have hword := hx.run r hrl
    rw [← hr] at hword
    have := step_word (out := out) (t := t) (bl := [32]) (w := x.2) (tl := tail (ws ++ [y])) (kd := x.1) (l := l) (c := c) (r := (true, [.agg [.int .i64 0, .int .i64 0, .int .i64 0], .int .i64 0, .lst 5 (out ++ tks l c (x :: ws ++ [y]))]))
      (by rw [e]; exact blank_one hb) (by simp) hx.nl (by rw [e]; simp) (by simp only [List.length_append, List.length_singleton]; omega) (by omega) (by omega) hword (by
        rw [List.append_assoc, List.singleton_append] at ih
        exact ih)
    exact this
theorem lex_text {t : List UInt8} {l : Int} {y : Int × List UInt8} (hy : LastOk y) {x : Int × List UInt8} {ws : List (Int × List UInt8)} (hx : WOk x) (hw : ∀ x ∈ ws, WOk x) (h1 : (x.2 ++ tail (ws ++ [y])).length < 60000) (h2 : ws.length < 10000) :
    Ru 60 (stG [] t (x.2 ++ tail (ws ++ [y])) l 1) (true, [.agg [.int .i64 0, .int .i64 0, .int .i64 0], .int .i64 0, .lst 5 (tokD x.1 x.2 l 1 :: tks l (1 + x.2.length) (ws ++ [y]))]) := by
  obtain ⟨a, s, e, hb⟩ := hx.hd
  rw [List.length_append] at h1
  have ih := lex_tail (t := t) (l := l) hy ws [tokD x.1 x.2 l 1] (1 + x.2.length) hw (by omega) (by simp only [List.length_singleton]; omega) (by omega)
  have ht : ∃ r, tail (ws ++ [y]) = 32 :: r := by
    cases ws with
    | nil => exact ⟨_, rfl⟩
    | cons z zs => exact ⟨_, rfl⟩
  obtain ⟨r, hr⟩ := ht
  have hrl : r.length < 80000 := by rw [hr] at h1; simp only [List.length_cons] at h1; omega
  have hword := hx.run r hrl
  rw [← hr] at hword
  have := step_word (out := []) (t := t) (bl := []) (w := x.2) (tl := tail (ws ++ [y])) (kd := x.1) (l := l) (c := 1) (r := (true, [.agg [.int .i64 0, .int .i64 0, .int .i64 0], .int .i64 0, .lst 5 (tokD x.1 x.2 l 1 :: tks l (1 + x.2.length) (ws ++ [y]))]))
    (by rw [e]; exact blank_none hb) (by simp) hx.nl (by rw [e]; simp) (by simp only [List.length_append, List.length_nil]; omega) (by omega) (by simp) hword (by simpa using ih)
  simpa using this
theorem spanN_all {P : Nat → Bool} (h32 : P 32 = false) : ∀ {s : List UInt8} (r : List UInt8), (∀ b ∈ s, P b.toNat = true) → spanN P (s ++ 32 :: r) = s.length
  | [], r, _ => by
    show (bif P (32 : UInt8).toNat then _ else 0) = 0
    rw [show P (32 : UInt8).toNat = false from h32]; rfl
  | b :: s, r, h => by
    show (bif P b.toNat then spanN P (s ++ 32 :: r) + 1 else 0) = s.length + 1
    rw [h b (List.mem_cons_self ..), spanN_all h32 r fun u hu => h u (List.mem_cons_of_mem _ hu)]; rfl
theorem spanN_end {P : Nat → Bool} : ∀ {s : List UInt8}, (∀ b ∈ s, P b.toNat = true) → spanN P s = s.length
  | [], _ => rfl
  | b :: s, h => by
    show (bif P b.toNat then spanN P s + 1 else 0) = s.length + 1
    rw [h b (List.mem_cons_self ..), spanN_end fun u hu => h u (List.mem_cons_of_mem _ hu)]; rfl
def isName : List UInt8 → Bool
  | [] => false
  | a :: s => isLet a.toNat && s.all (fun b => isNam b.toNat) && Nat.ble s.length 39
theorem nam_parts {w : List UInt8} (h : isName w = true) : ∃ a s, w = a :: s ∧ isLet a.toNat = true ∧ (∀ b ∈ s, isNam b.toNat = true) ∧ s.length < 40 := by
  cases w with
  | nil => cases h
  | cons a s =>
    simp only [isName, Bool.and_eq_true, List.all_eq_true] at h
    exact ⟨a, s, rfl, h.1.1, h.1.2, by have := Nat.le_of_ble_eq_true h.2; omega⟩
theorem nam_nb {b : UInt8} (h : isNam b.toNat = true) : isBlank b.toNat = false ∧ b ≠ 10 := by
  have : ∀ n : Nat, isNam n = true → isBlank n = false ∧ n ≠ 10 := by
    intro n hn
    have h2 : n ≠ 32 ∧ n ≠ 9 ∧ n ≠ 13 ∧ n ≠ 10 := by
      refine ⟨?_, ?_, ?_, ?_⟩ <;> (rintro rfl; revert hn; decide)
    refine ⟨?_, h2.2.2.2⟩
    unfold isBlank
    rw [beq_false h2.1, beq_false h2.2.1, beq_false h2.2.2.1, beq_false h2.2.2.2]; rfl
  obtain ⟨h1, h2⟩ := this _ h
  exact ⟨h1, fun e => h2 (by rw [e]; rfl)⟩
theorem let_nam {n : Nat} (h : isLet n = true) : isNam n = true := by unfold isNam; rw [h]; rfl
theorem wok_nam {w : List UInt8} (h : isName w = true) : WOk (1, w) := by
  obtain ⟨a, s, rfl, h1, h2, h3⟩ := nam_parts h
  refine ⟨⟨a, s, rfl, (nam_nb (let_nam h1)).1⟩, fun b hb => ?_, fun r hr => ?_⟩
  · rcases List.mem_cons.1 hb with rfl | hb
    · exact (nam_nb (let_nam h1)).2
    · exact (nam_nb (h2 b hb)).2
  · have hsp : spanN isNam (s ++ 32 :: r) = s.length := spanN_all (by decide) r h2
    have := word_nam (c := a) (s := s ++ 32 :: r) (by simp only [List.length_append, List.length_cons]; omega) h1 (by rw [hsp]; exact h3)
    rw [hsp] at this
    rw [show ((1 + (s.length : Nat) : Int)) = (((a :: s).length : Nat) : Int) by simp only [List.length_cons]; omega] at this
    exact this
theorem last_nam {w : List UInt8} (h : isName w = true) : LastOk (1, w) := by
  obtain ⟨a, s, rfl, h1, h2, h3⟩ := nam_parts h
  refine ⟨⟨a, s, rfl, (nam_nb (let_nam h1)).1⟩, fun b hb => ?_, ?_⟩
  · rcases List.mem_cons.1 hb with rfl | hb
    · exact (nam_nb (let_nam h1)).2
    · exact (nam_nb (h2 b hb)).2
  · have hsp : spanN isNam s = s.length := spanN_end h2
    have := word_nam (c := a) (s := s) (by omega) h1 (by rw [hsp]; exact h3)
    rw [hsp] at this
    rw [show ((1 + (s.length : Nat) : Int)) = (((a :: s).length : Nat) : Int) by simp only [List.length_cons]; omega] at this
    exact this
end Go.Proofs.YtpmjplpnpnmlcaaGreatDoor
