/- The words of an expression, told exactly; the reference's words are these. -/
import Derived.Test.YtalibicpmfbieaaGreatDoorPaA
import Derived.Test.YtalibicpmfbieaaGreatDoorAstMake
namespace Go.Proofs.YtalibicpmfbieaaGreatDoor
open Go.AE
set_option linter.unusedVariables false
set_option linter.unusedSimpArgs false
abbrev Tk := Int × List UInt8
def txt (ws : List Tk) : List D := ws.map fun p => D.str p.2
def opE (x : D) : Bool := (x.at_ 0).i == 3 || ((x.at_ 0).i == 4 || (x.at_ 0).i == 5)
def aW (w : D → List Tk) (x : D) : List Tk := bif opE x then [(3, [40])] ++ (w x ++ [(3, [41])]) else w x
def lW (w : D → List Tk) : List D → List Tk
  | [] => []
  | [x] => w x
  | x :: y :: r => w x ++ ((3, [44]) :: lW w (y :: r))
/-- The words of an expression of a kind, a text and operands, out of the operands' words. -/
def kW (w : D → List Tk) (k : Int) (t : List UInt8) (ar : List D) : List Tk :=
  bif k == 3 then [(3, t)] ++ aW w (ar[0]?.getD .top)
  else bif k == 4 then aW w (ar[0]?.getD .top) ++ ([(3, t)] ++ aW w (ar[1]?.getD .top))
  else bif k == 5 then aW w (ar[0]?.getD .top) ++ ([(3, [63])] ++ (aW w (ar[1]?.getD .top) ++ ([(3, [58])] ++ aW w (ar[2]?.getD .top))))
  else bif k == 6 then [(3, [123])] ++ (lW w ar ++ [(3, [125])])
  else bif k == 7 then [(3, [123])] ++ (w (ar[0]?.getD .top) ++ ([(3, [123])] ++ (lW w (ar.drop 1) ++ [(3, [125]), (3, [125])])))
  else bif k == 8 then [(1, t), (3, [91])] ++ (w (ar[0]?.getD .top) ++ [(3, [93])])
  else bif k == 9 then [(1, t), (3, [91])] ++ (w (ar[0]?.getD .top) ++ ([(3, [58])] ++ (w (ar[1]?.getD .top) ++ [(3, [93])])))
  else bif k == 10 then [(1, t), (3, [40])] ++ (lW w ar ++ [(3, [41])])
  else bif k == 1 then [(2, t)] else [(1, t)]
def wE : Nat → D → List Tk
  | 0, _ => []
  | n + 1, x => kW (wE n) (x.at_ 0).i (x.at_ 4).s (x.at_ 5).l
end Go.Proofs.YtalibicpmfbieaaGreatDoor
