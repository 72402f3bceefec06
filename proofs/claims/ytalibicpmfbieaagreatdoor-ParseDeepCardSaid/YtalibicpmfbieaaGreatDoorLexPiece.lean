/- Words: pieces and their words. -/
import Derived.Test.YtalibicpmfbieaaGreatDoorLexTotal
namespace Go.Proofs.YtalibicpmfbieaaGreatDoor
open Go.AE
set_option linter.unusedVariables false
set_option linter.unusedSimpArgs false
def Toks (ts : List D) : Prop := ∀ y ∈ ts, ∃ (k : Int) (t : List UInt8) (a b c : Int), y = .agg [.int .i64 k, .str t, .int .i64 a, .int .i64 b, .int .i64 c]
def pieceOut (R : Option (Int × Int × Int × Int)) (out ts : List D) : Bool × List D := match R with
  | none => (true, [.agg [.int .i64 0, .int .i64 0, .int .i64 0], .int .i64 0, .lst 5 (out ++ ts)])
  | some (a, b, c, e) => (true, [.agg [.int .i64 a, .int .i64 b, .int .i64 c], .int .i64 e, .lst 5 []])
def pieceD (t : List UInt8) (p0 p1 p2 : Int) (fx : Bool) : D := .agg [.str t, .int .i64 p0, .int .i64 p1, .int .i64 p2, .bool fx]
end Go.Proofs.YtalibicpmfbieaaGreatDoor
