/- Words: every function of the lexer returns. -/
import Derived.Test.YtalibicpmfbieaaGreatDoorLitParse
namespace Go.Proofs.YtalibicpmfbieaaGreatDoor
open Go.AE
set_option linter.unusedVariables false
set_option linter.unusedSimpArgs false
end Go.Proofs.YtalibicpmfbieaaGreatDoor
