/- The reference's maker of expressions: what it makes is well formed. -/
import Derived.Test.YtalibicpmfbieaaGreatDoorAe1
import Derived.Test.YtalibicpmfbieaaGreatDoorAe2
import Derived.Test.YtalibicpmfbieaaGreatDoorEng
namespace Go.Proofs.YtalibicpmfbieaaGreatDoor
open Go.AE
set_option linter.unusedVariables false
set_option linter.unusedSimpArgs false
/-- A maker's bytes and place. -/
def Mk (b : List D) (a : Int) : Prop := Bytes b ∧ b.length ≤ 300 ∧ 0 ≤ a ∧ a ≤ b.length

def nameT : List (List UInt8) := [[97], [98], [99], [100], [120, 49], [95, 121], [113], [114]]
def numT : List (List UInt8) := [[48], [49], [50], [55], [52, 39, 98, 49, 48, 49, 48], [56, 39, 104, 102, 102], [51, 39, 115, 100, 50], [49, 95, 48]]
def unT : List (List UInt8) := [[45], [126], [33], [38], [124], [94], [126, 38], [126, 124], [126, 94]]
def opT : List (List UInt8) := [[43], [45], [42], [47], [37], [38], [124], [94], [126, 94], [60, 60], [62, 62], [60, 60, 60], [62, 62, 62], [60], [60, 61], [62], [62, 61], [61, 61], [33, 61], [38, 38], [124, 124]]
def callT : List (List UInt8) := [[102], [103], [36, 115, 105, 103, 110, 101, 100], [36, 117, 110, 115, 105, 103, 110, 101, 100]]
/-- An expression. -/
def E (k : Int) (t : List UInt8) (ar : List D) : D := .agg [.int .i64 k, .int .i64 0, .int .i64 0, .int .i64 0, .str t, .lst 6 ar]
/-- Kind, text, and how many operands. -/
def shapeE (k : Int) (t : List UInt8) (m : Nat) : Prop :=
  (k = 1 ∧ t ∈ numT ∧ m = 0) ∨ (k = 2 ∧ t ∈ nameT ∧ m = 0) ∨ (k = 3 ∧ t ∈ unT ∧ m = 1) ∨ (k = 4 ∧ t ∈ opT ∧ m = 2) ∨ (k = 5 ∧ t = [] ∧ m = 3) ∨ (k = 6 ∧ t = [] ∧ 1 ≤ m ∧ m ≤ 3) ∨
  (k = 7 ∧ t = [] ∧ 2 ≤ m ∧ m ≤ 3) ∨ (k = 8 ∧ t ∈ nameT ∧ m = 1) ∨ (k = 9 ∧ t ∈ nameT ∧ m = 2) ∨ (k = 10 ∧ t ∈ callT ∧ 1 ≤ m ∧ m ≤ 2)
def wfE : Nat → D → Prop
  | 0, _ => False
  | n + 1, x => ∃ k t ar, x = E k t ar ∧ shapeE k t ar.length ∧ ∀ a ∈ ar, wfE n a

end Go.Proofs.YtalibicpmfbieaaGreatDoor
