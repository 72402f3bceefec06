import Derived.Test.YtpmjplpnpnmlcaaGreatDoorIfF
import Derived.Test.YtpmjplpnpnmlcaaGreatDoorEng
set_option linter.all false
namespace Go.Proofs.YtpmjplpnpnmlcaaGreatDoor
open Go.AE
noncomputable def R (n f:Nat) (xs:List D):Out:=run C n ((sg f).tk xs)
def Ru (f:Nat)(xs:List D)(r:Bool×List D):Prop:=∃ N,∀ n,N≤n→R n f xs=some r
theorem BJ {f:Nat}{p:T}{xs:List D}(h:jY C sg f p)(hx:K4 (sg f).hs xs=true)(n:Nat):R (n+1) f xs=p.den sg (R n) [] (sg f).hs.length (fB (sg f).hs xs):=by
 have:=h n xs
 rw [show LP (sg f).hs xs=xs from oE (pre:=[]) hx] at this
 exact this
theorem II {sg:Nat→Sg}{bd:Nat→Bd}:∀ n f xs r,ZE sg bd n f xs=some r→ZE sg bd (n+1) f xs=some r
 |0,f,xs,r,e=>by cases e
 |n+1,f,xs,r,e=>by
  have e:(match bd f with
   | .n=>none
   | .p t=>bif K4 (sg f).hs xs then t.den sg (ZE sg bd n) [] (sg f).hs.length (fB (sg f).hs xs) else none
   | .o g=>match g xs with|some r=>some (true,r)|none=>none)=some r:=e
  show (match bd f with
   | .n=>none
   | .p t=>bif K4 (sg f).hs xs then t.den sg (ZE sg bd (n+1)) [] (sg f).hs.length (fB (sg f).hs xs) else none
   | .o g=>match g xs with|some r=>some (true,r)|none=>none)=some r
  cases hb:bd f with
  |n=>rw [hb] at e;cases e
  |p t=>
   rw [hb] at e
   exact cW (T5 (fun g ys y=>II n g ys y) t [] [] _ _ r rfl (fun k f f' h=>by simp at h)) (fun h=>h) e
  |o g=>rw [hb] at e;exact e
theorem Ia {sg:Nat→Sg}{bd:Nat→Bd}{n f:Nat}{xs:List D}{r:Bool×List D}(h:ZE sg bd n f xs=some r):∀ m,n≤m→ZE sg bd m f xs=some r:=by
 intro m hm
 obtain⟨k,rfl⟩:∃ k,m=n+k:=⟨m-n,by omega⟩
 induction k with
 |zero=>exact h
 |succ k ih=>exact II _ _ _ _ (ih (by omega))
noncomputable def go:Nat→Nat→List D→Out:=Vw (fun f=>(sg f).hs) (fun f=>I5 (sg f).ro) (fun f=>(sg f).hs.length) (fun f=>(I5 (sg f).ro).length) sg bd
theorem Pe {n f:Nat}{xs:List D}{r:Bool×List D}(h:go n f xs=some r)(m:Nat)(hm:n≤m):R m f xs=some r:=
 OR Oc m f xs r (Ia (OS (fun _=>rfl) (fun _=>rfl) (fun _=>rfl) (fun _=>rfl) n f xs r h) m hm)
theorem Pc {n f:Nat}{xs:List D}{r:Bool×List D}(h:go n f xs=some r):Ru f xs r:=⟨n,Pe h⟩
noncomputable def Te (rec:Nat→List D→Out) (p:T) (n:Nat) (V:Nat→D):Out:=p.ev (fun f=>I5 (sg f).ro) (fun f=>(I5 (sg f).ro).length) sg rec [] n V
theorem R6 {rec:Nat→List D→Out}{J:List (List D→Out)}{c:E}{x y:T}{n:Nat}{V:Nat→D}(h:(c.den V).b=true):(T.i c x y).den sg rec J n V=x.den sg rec J n V:=by
 show (bif (c.den V).b then x.den sg rec J n V else y.den sg rec J n V)=_
 rw [h];rfl
theorem Q5 {rec:Nat→List D→Out}{J:List (List D→Out)}{c:E}{x y:T}{n:Nat}{V:Nat→D}(h:(c.den V).b=false):(T.i c x y).den sg rec J n V=y.den sg rec J n V:=by
 show (bif (c.den V).b then x.den sg rec J n V else y.den sg rec J n V)=_
 rw [h];rfl
theorem gA {rec:Nat→List D→Out}{J:List (List D→Out)}{c:E}{x:T}{n:Nat}{V:Nat→D}(h:(c.den V).b=true):(T.g c x).den sg rec J n V=x.den sg rec J n V:=by
 show (bif (c.den V).b then x.den sg rec J n V else none)=_
 rw [h];rfl
theorem gY {rec:Nat→List D→Out}{J:List (List D→Out)}{e:E}{x:T}{n:Nat}{V:Nat→D}:(T.l e x).den sg rec J n V=x.den sg rec J (n+1) (push V n (e.den V)):=rfl
theorem xJ {rec:Nat→List D→Out}{J:List (List D→Out)}{ty:Ty}{e:E}{x:T}{n:Nat}{V:Nat→D}(h:V9 ty=true)(h2:eG ty (e.den V)=true):(T.t ty e x).den sg rec J n V=x.den sg rec J (n+1) (push V n (L0 ty (e.den V))):=by
 show (bif V9 ty&&eG ty (e.den V) then x.den sg rec J (n+1) (push V n (L0 ty (e.den V))) else none)=_
 rw [h,h2];rfl
theorem bU {rec:Nat→List D→Out}{J:List (List D→Out)}{f:Nat}{es:List Ar}{x:T}{n:Nat}{V:Nat→D}{r:List D}(h:rec f (pC V es)=some (true,r))(h2:K4 (I5 (sg f).ro) r=true):(cn f es x).den sg rec J n V=x.den sg rec J (n+(I5 (sg f).ro).length) (iD V n r):=by
 show AE.bT (rec f (pC V es)) (fun r=>bif (bif false then aL (sg f).ro r&&U5 (sg f).ro r else aL (sg f).ro r) then x.den sg rec J (n+(I5 (sg f).ro).length) (S3 V n (I5 (sg f).ro) r) else none)=_
 rw [h]
 show (bif aL (sg f).ro r then x.den sg rec J (n+(I5 (sg f).ro).length) (S3 V n (I5 (sg f).ro) r) else none)=_
 rw [iN h2,cond_true,← mI h2,qZ]
theorem BT {rec:Nat→List D→Out}{J:List (List D→Out)}{f:Nat}{es:List Ar}{x:T}{n:Nat}{V:Nat→D}{r:List D}(h:rec f (pC V es)=some (false,r))(h2:K4 (I5 (sg f).ro) r=true):(T.o f es x).den sg rec J n V=x.den sg rec J (n+(I5 (sg f).ro).length) (iD V n r):=by
 show AE.cX (rec f (pC V es)) (fun r=>bif aL (sg f).ro r then x.den sg rec J (n+(I5 (sg f).ro).length) (S3 V n (I5 (sg f).ro) r) else none)=_
 rw [h]
 show (bif aL (sg f).ro r then x.den sg rec J (n+(I5 (sg f).ro).length) (S3 V n (I5 (sg f).ro) r) else none)=_
 rw [iN h2,cond_true,← mI h2,qZ]
theorem vJ {hs:List Ty}{xs:List D}(h:K4 hs xs=true):fB hs xs=fun i=>Y xs i:=funext fun i=>mA h i
end Go.Proofs.YtpmjplpnpnmlcaaGreatDoor
