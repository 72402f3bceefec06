/- Words: Lex over pieces, few pieces, the lexer is awake. -/
import Derived.Test.YtalibicpmfbieaaGreatDoorLexPiece
namespace Go.Proofs.YtalibicpmfbieaaGreatDoor
open Go.AE
set_option linter.unusedVariables false
set_option linter.unusedSimpArgs false
def IsP (L : Nat) (y : D) : Prop := ∃ (t : List UInt8) (p0 p1 p2 : Int) (fx : Bool), y = pieceD t p0 p1 p2 fx ∧ t.length ≤ L
/-- What single pieces come to. -/
abbrev PR := Option (Int × Int × Int × Int) × List D
def PieceIs (y : D) (p : PR) : Prop := Toks p.2 ∧ p.2.length ≤ 300 ∧ (∀ a b c e, p.1 = some (a, b, c, e) → e ≠ 0) ∧ ∀ out : List D, out.length + 300 ≤ 12000 → Ev (fun n => lex_piece n y (.lst 5 out)) fun r => r = pieceOut p.1 out p.2
inductive All2 : List D → List PR → Prop
  | nil : All2 [] []
  | cons {y p ys ps} : IsP 300 y → PieceIs y p → All2 ys ps → All2 (y :: ys) (p :: ps)
end Go.Proofs.YtalibicpmfbieaaGreatDoor
