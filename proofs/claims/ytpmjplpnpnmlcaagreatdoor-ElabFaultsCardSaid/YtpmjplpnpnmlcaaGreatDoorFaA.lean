/- Runs of tasks: their programs step by step, and evaluated. -/
import Derived.Test.YtpmjplpnpnmlcaaGreatDoorIfF
import Derived.Test.YtpmjplpnpnmlcaaGreatDoorEng
set_option linter.all false
namespace Go.Proofs.YtpmjplpnpnmlcaaGreatDoor
open Go.AE
/-- A task's run. -/
noncomputable def R (n f : Nat) (xs : List D) : Out := run C n ((sg f).tk xs)
/-- With fuel enough it is. -/
def Ru (f : Nat) (xs : List D) (r : Bool × List D) : Prop := ∃ N, ∀ n, N ≤ n → R n f xs = some r
theorem R_eqn {f : Nat} {p : T} {xs : List D} (h : Eqn C sg f p) (hx : nrmAll (sg f).hs xs = true) (n : Nat) : R (n + 1) f xs = p.den sg (R n) [] (sg f).hs.length (expAt (sg f).hs xs) := by
  have := h n xs
  rw [show expAll (sg f).hs xs = xs from nrmAll_exp (pre := []) hx] at this
  exact this
theorem fam_mono {sg : Nat → Sg} {bd : Nat → Bd} : ∀ n f xs r, fam sg bd n f xs = some r → fam sg bd (n + 1) f xs = some r
  | 0, f, xs, r, e => by cases e
  | n + 1, f, xs, r, e => by
    have e : (match bd f with
      | .n => none
      | .p t => bif nrmAll (sg f).hs xs then t.den sg (fam sg bd n) [] (sg f).hs.length (expAt (sg f).hs xs) else none
      | .o g => match g xs with | some r => some (true, r) | none => none) = some r := e
    show (match bd f with
      | .n => none
      | .p t => bif nrmAll (sg f).hs xs then t.den sg (fam sg bd (n + 1)) [] (sg f).hs.length (expAt (sg f).hs xs) else none
      | .o g => match g xs with | some r => some (true, r) | none => none) = some r
    cases hb : bd f with
    | n => rw [hb] at e; cases e
    | p t =>
      rw [hb] at e
      exact bif_mono (den_mono (fun g ys y => fam_mono n g ys y) t [] [] _ _ r rfl (fun k f f' h => by simp at h)) (fun h => h) e
    | o g => rw [hb] at e; exact e
theorem fam_le {sg : Nat → Sg} {bd : Nat → Bd} {n f : Nat} {xs : List D} {r : Bool × List D} (h : fam sg bd n f xs = some r) : ∀ m, n ≤ m → fam sg bd m f xs = some r := by
  intro m hm
  obtain ⟨k, rfl⟩ : ∃ k, m = n + k := ⟨m - n, by omega⟩
  induction k with
  | zero => exact h
  | succ k ih => exact fam_mono _ _ _ _ (ih (by omega))
/-- Evaluation. -/
noncomputable def go : Nat → Nat → List D → Out := fev (fun f => (sg f).hs) (fun f => holes (sg f).ro) (fun f => (sg f).hs.length) (fun f => (holes (sg f).ro).length) sg bd
theorem go_le {n f : Nat} {xs : List D} {r : Bool × List D} (h : go n f xs = some r) (m : Nat) (hm : n ≤ m) : R m f xs = some r :=
  fam_run bd_ok m f xs r (fam_le (fev_fam (fun _ => rfl) (fun _ => rfl) (fun _ => rfl) (fun _ => rfl) n f xs r h) m hm)
theorem go_Ru {n f : Nat} {xs : List D} {r : Bool × List D} (h : go n f xs = some r) : Ru f xs r := ⟨n, go_le h⟩
noncomputable def Te (rec : Nat → List D → Out) (p : T) (n : Nat) (V : Nat → D) : Out := p.ev (fun f => holes (sg f).ro) (fun f => (holes (sg f).ro).length) sg rec [] n V
theorem Te_den {rec rec' : Nat → List D → Out} (hr : ∀ f xs y, rec f xs = some y → rec' f xs = some y) {p : T} {n : Nat} {V : Nat → D} {x : Bool × List D} (h : Te rec p n V = some x) : p.den sg rec' [] n V = some x :=
  ev_den (fun _ => rfl) (fun _ => rfl) hr p [] [] n V x rfl (fun k f f' h => by simp at h) h
/-! Steps. -/
theorem den_it {rec : Nat → List D → Out} {c : E} {x y : T} {n : Nat} {V : Nat → D} (h : (c.den V).b = true) : (T.i c x y).den sg rec [] n V = x.den sg rec [] n V := by
  show (bif (c.den V).b then x.den sg rec [] n V else y.den sg rec [] n V) = _
  rw [h]; rfl
theorem den_if {rec : Nat → List D → Out} {c : E} {x y : T} {n : Nat} {V : Nat → D} (h : (c.den V).b = false) : (T.i c x y).den sg rec [] n V = y.den sg rec [] n V := by
  show (bif (c.den V).b then x.den sg rec [] n V else y.den sg rec [] n V) = _
  rw [h]; rfl
theorem den_g {rec : Nat → List D → Out} {c : E} {x : T} {n : Nat} {V : Nat → D} (h : (c.den V).b = true) : (T.g c x).den sg rec [] n V = x.den sg rec [] n V := by
  show (bif (c.den V).b then x.den sg rec [] n V else none) = _
  rw [h]; rfl
theorem den_l {rec : Nat → List D → Out} {e : E} {x : T} {n : Nat} {V : Nat → D} : (T.l e x).den sg rec [] n V = x.den sg rec [] (n + 1) (push V n (e.den V)) := rfl
theorem den_t {rec : Nat → List D → Out} {ty : Ty} {e : E} {x : T} {n : Nat} {V : Nat → D} (h : notAny ty = true) (h2 : okTy ty (e.den V) = true) : (T.t ty e x).den sg rec [] n V = x.den sg rec [] (n + 1) (push V n (expTy ty (e.den V))) := by
  show (bif notAny ty && okTy ty (e.den V) then x.den sg rec [] (n + 1) (push V n (expTy ty (e.den V))) else none) = _
  rw [h, h2]; rfl
theorem den_c {rec : Nat → List D → Out} {f : Nat} {es : List Ar} {x : T} {n : Nat} {V : Nat → D} {r : List D} (h : rec f (arD V es) = some (true, r)) (h2 : nrmAll (holes (sg f).ro) r = true) : (cn f es x).den sg rec [] n V = x.den sg rec [] (n + (holes (sg f).ro).length) (pushL V n r) := by
  show AE.bindC (rec f (arD V es)) (fun r => bif (bif false then chk (sg f).ro r && plainDs (sg f).ro r else chk (sg f).ro r) then x.den sg rec [] (n + (holes (sg f).ro).length) (pushR V n (holes (sg f).ro) r) else none) = _
  rw [h]
  show (bif chk (sg f).ro r then x.den sg rec [] (n + (holes (sg f).ro).length) (pushR V n (holes (sg f).ro) r) else none) = _
  rw [chk_nrm h2, cond_true, ← pushF_R h2, pushF_L]
theorem den_o {rec : Nat → List D → Out} {f : Nat} {es : List Ar} {x : T} {n : Nat} {V : Nat → D} {r : List D} (h : rec f (arD V es) = some (false, r)) (h2 : nrmAll (holes (sg f).ro) r = true) : (T.o f es x).den sg rec [] n V = x.den sg rec [] (n + (holes (sg f).ro).length) (pushL V n r) := by
  show AE.bindL (rec f (arD V es)) (fun r => bif chk (sg f).ro r then x.den sg rec [] (n + (holes (sg f).ro).length) (pushR V n (holes (sg f).ro) r) else none) = _
  rw [h]
  show (bif chk (sg f).ro r then x.den sg rec [] (n + (holes (sg f).ro).length) (pushR V n (holes (sg f).ro) r) else none) = _
  rw [chk_nrm h2, cond_true, ← pushF_R h2, pushF_L]
theorem expAt_n {hs : List Ty} {xs : List D} (h : nrmAll hs xs = true) : expAt hs xs = fun i => nth xs i := funext fun i => nrmAll_at h i
/-- An answer of a task laid over. -/
def ov (f0 : Nat) (o : Out) (rec : Nat → List D → Out) (f : Nat) (xs : List D) : Out := bif Nat.beq f f0 then o else rec f xs
theorem ov_le {f0 : Nat} {o o' : Out} {rec rec' : Nat → List D → Out} (ho : ∀ y, o = some y → o' = some y) (hr : ∀ f xs y, rec f xs = some y → rec' f xs = some y) (f : Nat) (xs : List D) (y : Bool × List D) (h : ov f0 o rec f xs = some y) : ov f0 o' rec' f xs = some y := by
  unfold ov at h ⊢
  cases hb : Nat.beq f f0 with
  | true => rw [hb] at h; exact ho y h
  | false => rw [hb] at h; exact hr f xs y h
end Go.Proofs.YtpmjplpnpnmlcaaGreatDoor
