/- Numbers as they are written: Parse returns. -/
import Derived.Test.YtalibicpmfbieaaGreatDoorLitTotal
import Derived.Test.YtalibicpmfbieaaGreatDoorEng
namespace Go.Proofs.YtalibicpmfbieaaGreatDoor
open Go.AE
set_option linter.unusedVariables false
set_option linter.unusedSimpArgs false
def Lit (r : Bool × List D) : Prop := ∃ w ws b1 b2 e, r = (true, [.agg [.int .i64 w, .lst 1 ws, .bool b1, .bool b2], .int .i64 e]) ∧ (e = 0 → Vec w ws)
end Go.Proofs.YtalibicpmfbieaaGreatDoor
