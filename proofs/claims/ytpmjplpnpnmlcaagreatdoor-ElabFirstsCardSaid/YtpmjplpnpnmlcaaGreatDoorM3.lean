import Derived.Test.YtpmjplpnpnmlcaaGreatDoorM2
namespace Go.Proofs.YtpmjplpnpnmlcaaGreatDoor
open Go.AE
set_option linter.all false
def wModule : List UInt8 := [109, 111, 100, 117, 108, 101]
def wEnd : List UInt8 := [101, 110, 100, 109, 111, 100, 117, 108, 101]
def wA (d : List UInt8) : List (Int × List UInt8) := [(1, [116, 111, 112]), (3, [40]), (1, [105, 110, 112, 117, 116]), (1, [99, 108, 107]), (3, [44]), (1, [111, 117, 116, 112, 117, 116]), (1, [114, 101, 103]), (3, [91]), (2, d), (3, [58]), (2, [48]), (3, [93]), (1, [113]), (3, [61])]
def wB : List (Int × List UInt8) := [(3, [41]), (3, [59]), (1, [114, 101, 103]), (1, [114]), (3, [59]), (1, [97, 108, 119, 97, 121, 115]), (3, [64]), (3, [40]), (1, [112, 111, 115, 101, 100, 103, 101]), (1, [99, 108, 107]), (3, [41]), (1, [98, 101, 103, 105, 110]), (1, [113]), (3, [60, 61]), (3, [126]), (1, [113]), (3, [59]), (1, [114]), (3, [60, 61]), (1, [113]), (3, [91]), (2, [48]), (3, [93]), (3, [59]), (1, [101, 110, 100])]
def wsF (d : List UInt8) (g : Bool) : List (Int × List UInt8) := wA d ++ ((bif g then [(3, [45])] else []) ++ (2, [249]) :: wB)
def txF (d : List UInt8) (g : Bool) : List UInt8 := mtext (1, wModule) (wsF d g) wEnd
noncomputable def tkF (L : Nat) (d : List UInt8) (g : Bool) : List D := mtoks L (1, wModule) (wsF d g) wEnd
noncomputable def prj (o : Out) : Option D := Option.rec (motive := fun _ => Option D) none (fun p => Prod.rec (motive := fun _ => Option D) (fun b r => cnd b (cnd (nA (holes (sg 3).ro) r) (cnd (dI_ (nthL .top r 2) == 0) (some (dA_ (nthL .top r 0) 6)) none) none) none) p) o
noncomputable def evF (w : Nat) (g : Bool) (L : Nat) (m : Int) : Option D := frcSp (dec (w - 1)) fun d => frcSp (txF d g) fun t => frhs (tkF L d g) fun tk => prj (mgo (tlN t tk m) 1000 3 [.str t])
def stF (w : Nat) (N : Int) : D := .lst 3 [.agg [.int .i64 0, .int .i64 (w : Int), .lst 1 (wds w N)]]
def Fi (w : Nat) (g : Bool) : Prop := ∀ (L : Nat) (m : Int), evF w g L m = some (stF w (bif g then -m else m))
def cA : List UInt8 := [109, 111, 100, 117, 108, 101, 32, 116, 111, 112, 32, 40, 32, 105, 110, 112, 117, 116, 32, 99, 108, 107, 32, 44, 32, 111, 117, 116, 112, 117, 116, 32, 114, 101, 103, 32, 91, 32]
def cB : List UInt8 := [32, 58, 32, 48, 32, 93, 32, 113, 32, 61, 32]
def cC : List UInt8 := [32, 41, 32, 59, 32, 114, 101, 103, 32, 114, 32, 59, 32, 97, 108, 119, 97, 121, 115, 32, 64, 32, 40, 32, 112, 111, 115, 101, 100, 103, 101, 32, 99, 108, 107, 32, 41, 32, 98, 101, 103, 105, 110, 32, 113, 32, 60, 61, 32, 126, 32, 113, 32, 59, 32, 114, 32, 60, 61, 32, 113, 32, 91, 32, 48, 32, 93, 32, 59, 32, 101, 110, 100, 32, 101, 110, 100, 109, 111, 100, 117, 108, 101]
end Go.Proofs.YtpmjplpnpnmlcaaGreatDoor
