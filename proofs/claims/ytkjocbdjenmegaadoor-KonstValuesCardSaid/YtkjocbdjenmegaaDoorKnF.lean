/- Konst: an operator of two, the reference's. -/
import Derived.Test.YtkjocbdjenmegaaDoorKnE
namespace Go.Proofs.YtkjocbdjenmegaaDoor
open Go.AE
set_option linter.unusedVariables false
def gd (a b c m : Int) : D := bif inB m then outD m 0 0 0 0 else outD 0 a b c 3
theorem gd_tr (a b c : Int) (q : Bool) : gd a b c (trI q) = outD (trI q) 0 0 0 0 := by cases q <;> rfl
def rtwoV (p0 p1 p2 : Int) (t : List UInt8) (a b : Int) : D := bif offB t b then outD 0 p0 p1 p2 3 else gd p0 p1 p2 (valT t a b)
end Go.Proofs.YtkjocbdjenmegaaDoor
