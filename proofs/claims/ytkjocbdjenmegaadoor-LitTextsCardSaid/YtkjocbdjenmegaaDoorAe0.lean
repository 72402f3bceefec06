/- By a program (aegen.py): the functions of this seat as tasks of the interpreter. -/
import Derived.Test.YtkjocbdjenmegaaDoorEng
import Derived.Test.YtkjocbdjenmegaaDoorProg
import Derived.KernelRfl
namespace Go.Proofs.YtkjocbdjenmegaaDoor
open Go.AE
set_option linter.unusedVariables false
def ownTab : List (Nat × Nat × Nat) := [(65, 0, 1), (90, 0, 2)]
def dresTab : List (Nat × Nat × Nat) := [(64, 0, 2), (65, 0, 2), (66, 0, 2), (80, 0, 2), (104, 0, 2)]
def keepTab : List (Nat × Nat × List Nat) := [(10, 0, [0, 2, 4, 5]),
  (14, 0, [1, 3, 4, 5, 6]),
  (14, 2, [1, 3, 4, 5, 6, 7, 8]),
  (14, 4, [4, 5]),
  (19, 0, [0, 3]),
  (28, 0, [1, 3, 9, 10]),
  (31, 0, [0, 1, 6, 12, 13]),
  (32, 0, [1, 5, 8, 9, 10]),
  (34, 0, [2, 6, 7, 9, 28, 29, 30]),
  (35, 0, [0, 1, 5]),
  (36, 0, [0, 1, 5, 6]),
  (37, 0, [0, 1, 6, 7]),
  (38, 0, [0, 1, 2, 7, 8]),
  (38, 2, [0, 1, 2, 7, 8, 9, 10]),
  (38, 4, [0, 1, 2, 8, 9, 11]),
  (39, 0, [0, 1, 5]),
  (40, 0, [1, 3, 9, 10]),
  (43, 0, [1, 2, 10, 11, 12]),
  (44, 0, [1, 3, 4]),
  (44, 2, [1, 3, 4, 5, 15]),
  (45, 0, [0, 1, 5, 6]),
  (50, 2, [4, 6, 50, 51, 52]),
  (60, 0, [0, 1, 2, 7, 8]),
  (62, 0, [2, 4, 15, 16, 17]),
  (66, 0, [2, 3, 10, 11, 12]),
  (71, 0, [0, 3, 4]),
  (80, 0, [2, 3, 4, 6, 7, 14, 15]),
  (81, 0, [2, 3, 4, 5, 17, 18]),
  (81, 2, [2, 3, 4, 5, 6, 7, 8, 17, 18]),
  (83, 0, [2, 3, 4, 6, 7, 14, 15]),
  (102, 0, [2, 3, 4, 5, 6, 7, 8]),
  (104, 0, [1, 2, 4, 5, 6]),
  (105, 0, [1, 2, 3, 6, 7, 13, 14]),
  (108, 0, [2, 3, 5]),
  (114, 0, [0, 1, 7, 8]),
  (118, 0, [0, 1, 12, 13])]
def cutTab : List (Nat × Nat × List Nat) := []
def extList : List (Nat × (List D → Option (Bool × List D))) := [(100, extAdd64), (115, extIndexByte)]
def orcList : List (Nat × (Sk → List D → Option (List D))) := [(42, orcItoa), (29, orcCut)]
noncomputable def C : Cfg := { P := Tryd.prog, own := tab2 ownTab, dres := tab2 dresTab, keep := tabL keepTab, cut := tabL cutTab, orc := orcTab orcList, ext := extTab extList, gok := fun h => HasInt 0 h ∧ TabH 1 .u64 Lib.pow10Tab h }
def ty_il1bb : Ty := .agg [.int .i64, .lst 1, .bool, .bool]
def ty_l1bb : Ty := .agg [.lst 1, .bool, .bool]
def ty_il1 : Ty := .agg [.int .i64, .lst 1]
def law02_LitParses.sk : Sk := ⟨[(0, .d (.leaf .str))], []⟩
def law02_LitParses.osk : Sk := ⟨[(0, .d (.leaf .bool))], []⟩
noncomputable def law02_LitParses (n : Nat) (x0 : D) : Out := run C n (.call 3 law02_LitParses.sk [x0])
def law02_LitUnlike.sk : Sk := ⟨[(0, .d ty_l1bb), (1, .d ty_l1bb)], []⟩
def law02_LitUnlike.osk : Sk := ⟨[(0, .d (.leaf .bool))], []⟩
noncomputable def law02_LitUnlike (n : Nat) (x0 x1 : D) : Out := run C n (.call 4 law02_LitUnlike.sk [x0, x1])
def law02_LitNumbers.sk : Sk := ⟨[(0, .d (.leaf (.int .i64)))], []⟩
def law02_LitNumbers.osk : Sk := ⟨[(0, .d (.leaf .bool))], []⟩
noncomputable def law02_LitNumbers (n : Nat) (x0 : D) : Out := run C n (.call 5 law02_LitNumbers.sk [x0])
def law02_LitTexts.sk : Sk := ⟨[(0, .d ty_l1bb)], []⟩
def law02_LitTexts.osk : Sk := ⟨[(0, .d (.leaf .bool))], []⟩
noncomputable def law02_LitTexts (n : Nat) (x0 : D) : Out := run C n (.call 6 law02_LitTexts.sk [x0])
def law02_awake.sk : Sk := ⟨[], []⟩
def law02_awake.osk : Sk := ⟨[(0, .d (.leaf .bool))], []⟩
noncomputable def law02_awake (n : Nat) : Out := run C n (.call 8 law02_awake.sk [])
def lit_Parse.sk : Sk := ⟨[(0, .d (.leaf .str))], []⟩
def lit_Parse.osk : Sk := ⟨[(0, .d ty_il1bb), (1, .d (.leaf (.int .i64)))], []⟩
noncomputable def lit_Parse (n : Nat) (x0 : D) : Out := run C n (.call 9 lit_Parse.sk [x0])
def ref02_Parse.sk : Sk := ⟨[(0, .d (.leaf .str))], []⟩
def ref02_Parse.osk : Sk := ⟨[(0, .d ty_l1bb), (1, .d (.leaf (.int .i64)))], []⟩
noncomputable def ref02_Parse (n : Nat) (x0 : D) : Out := run C n (.call 10 ref02_Parse.sk [x0])
def law02_Told.sk : Sk := ⟨[(0, .d ty_il1bb)], []⟩
def law02_Told.osk : Sk := ⟨[(0, .d ty_l1bb)], []⟩
noncomputable def law02_Told (n : Nat) (x0 : D) : Out := run C n (.call 12 law02_Told.sk [x0])
def ref02_Same.sk : Sk := ⟨[(0, .d ty_l1bb), (1, .d ty_l1bb)], []⟩
def ref02_Same.osk : Sk := ⟨[(0, .d (.leaf .bool))], []⟩
noncomputable def ref02_Same (n : Nat) (x0 x1 : D) : Out := run C n (.call 11 ref02_Same.sk [x0, x1])
def lit_Lit_Text.sk : Sk := ⟨[(0, .d ty_il1bb)], []⟩
def lit_Lit_Text.osk : Sk := ⟨[(0, .d (.leaf .str))], []⟩
noncomputable def lit_Lit_Text (n : Nat) (x0 : D) : Out := run C n (.call 13 lit_Lit_Text.sk [x0])
def ref02_Text.sk : Sk := ⟨[(0, .d ty_l1bb)], []⟩
def ref02_Text.osk : Sk := ⟨[(0, .d (.leaf .str))], []⟩
noncomputable def ref02_Text (n : Nat) (x0 : D) : Out := run C n (.call 14 ref02_Text.sk [x0])
def law02_Own.sk : Sk := ⟨[(0, .d ty_l1bb)], []⟩
def law02_Own.osk : Sk := ⟨[(0, .d ty_il1bb), (1, .d (.leaf .bool))], []⟩
noncomputable def law02_Own (n : Nat) (x0 : D) : Out := run C n (.call 15 law02_Own.sk [x0])
def lit_Of.sk : Sk := ⟨[(0, .d (.leaf (.int .i64)))], []⟩
def lit_Of.osk : Sk := ⟨[(0, .d ty_il1bb), (1, .d (.leaf (.int .i64)))], []⟩
noncomputable def lit_Of (n : Nat) (x0 : D) : Out := run C n (.call 16 lit_Of.sk [x0])
def bv_Vec_Width.sk : Sk := ⟨[(0, .d ty_il1)], []⟩
def bv_Vec_Width.osk : Sk := ⟨[(0, .d (.leaf (.int .i64)))], []⟩
noncomputable def bv_Vec_Width (n : Nat) (x0 : D) : Out := run C n (.call 17 bv_Vec_Width.sk [x0])
def lit_Lit_Int.sk : Sk := ⟨[(0, .d ty_il1bb)], []⟩
def lit_Lit_Int.osk : Sk := ⟨[(0, .d (.leaf (.int .i64))), (1, .d (.leaf (.int .i64)))], []⟩
noncomputable def lit_Lit_Int (n : Nat) (x0 : D) : Out := run C n (.call 18 lit_Lit_Int.sk [x0])
def ref02_Dec.sk : Sk := ⟨[(0, .d (.leaf (.int .i64)))], []⟩
def ref02_Dec.osk : Sk := ⟨[(0, .d (.leaf .str))], []⟩
noncomputable def ref02_Dec (n : Nat) (x0 : D) : Out := run C n (.call 19 ref02_Dec.sk [x0])
def ref02_Int.sk : Sk := ⟨[(0, .d ty_l1bb)], []⟩
def ref02_Int.osk : Sk := ⟨[(0, .d (.leaf (.int .i64))), (1, .d (.leaf (.int .i64)))], []⟩
noncomputable def ref02_Int (n : Nat) (x0 : D) : Out := run C n (.call 20 ref02_Int.sk [x0])
def bv_Vec_Text.sk : Sk := ⟨[(0, .d ty_il1)], []⟩
def bv_Vec_Text.osk : Sk := ⟨[(0, .d (.leaf .str))], []⟩
noncomputable def bv_Vec_Text (n : Nat) (x0 : D) : Out := run C n (.call 28 bv_Vec_Text.sk [x0])
def strings_Cut.sk : Sk := ⟨[(0, .d (.leaf .str)), (1, .d (.leaf .str))], []⟩
def strings_Cut.osk : Sk := ⟨[(0, .d (.leaf .str)), (1, .d (.leaf .str)), (2, .d (.leaf .bool))], []⟩
noncomputable def strings_Cut (n : Nat) (x0 x1 : D) : Out := run C n (.call 29 strings_Cut.sk [x0, x1])
def lit_plain.sk : Sk := ⟨[(0, .d (.leaf .str))], []⟩
def lit_plain.osk : Sk := ⟨[(0, .d ty_il1bb), (1, .d (.leaf (.int .i64)))], []⟩
noncomputable def lit_plain (n : Nat) (x0 : D) : Out := run C n (.call 30 lit_plain.sk [x0])
def lit_digits.sk : Sk := ⟨[(0, .d (.leaf .str)), (1, .d (.leaf (.int .i64)))], []⟩
def lit_digits.osk : Sk := ⟨[(0, .row 0), (1, .d (.leaf (.int .i64)))], [.row 3 1 0]⟩
noncomputable def lit_digits (n : Nat) (x0 x1 : D) : Out := run C n (.call 31 lit_digits.sk [x0, x1])
def lit_small.sk : Sk := ⟨[(0, .d (.leaf (.lst 1))), (1, .d (.leaf (.int .i64)))], []⟩
def lit_small.osk : Sk := ⟨[(0, .d (.leaf (.int .i64)))], []⟩
noncomputable def lit_small (n : Nat) (x0 x1 : D) : Out := run C n (.call 32 lit_small.sk [x0, x1])
def lit_based.sk : Sk := ⟨[(0, .d (.leaf .str))], []⟩
def lit_based.osk : Sk := ⟨[(0, .d (.leaf .str)), (1, .d (.leaf (.int .i64))), (2, .d (.leaf .bool)), (3, .d (.leaf (.int .i64)))], []⟩
noncomputable def lit_based (n : Nat) (x0 : D) : Out := run C n (.call 33 lit_based.sk [x0])
def lit_bits.sk : Sk := ⟨[(0, .d (.leaf (.lst 1))), (1, .d (.leaf (.int .i64))), (2, .d (.leaf (.int .i64)))], []⟩
def lit_bits.osk : Sk := ⟨[(0, .d ty_il1)], []⟩
noncomputable def lit_bits (n : Nat) (x0 x1 x2 : D) : Out := run C n (.call 34 lit_bits.sk [x0, x1, x2])
def ref02_digits.sk : Sk := ⟨[(0, .d (.leaf .str)), (1, .d (.leaf (.int .i64)))], []⟩
def ref02_digits.osk : Sk := ⟨[(0, .d (.leaf (.int .i64)))], []⟩
noncomputable def ref02_digits (n : Nat) (x0 x1 : D) : Out := run C n (.call 35 ref02_digits.sk [x0, x1])
def ref02_decimal.sk : Sk := ⟨[(0, .d (.leaf .str)), (1, .d (.leaf (.int .i64)))], []⟩
def ref02_decimal.osk : Sk := ⟨[(0, .d (.leaf (.int .i64)))], []⟩
noncomputable def ref02_decimal (n : Nat) (x0 x1 : D) : Out := run C n (.call 36 ref02_decimal.sk [x0, x1])
def ref01_New.sk : Sk := ⟨[(0, .d (.leaf (.int .i64))), (1, .d (.leaf (.lst 1)))], []⟩
def ref01_New.osk : Sk := ⟨[(0, .row 0), (1, .d (.leaf (.int .i64)))], [.row 4 1 0]⟩
noncomputable def ref01_New (n : Nat) (x0 x1 : D) : Out := run C n (.call 37 ref01_New.sk [x0, x1])
def ref02_number.sk : Sk := ⟨[(0, .d (.leaf .str)), (1, .d (.leaf (.int .i64))), (2, .d (.leaf (.int .i64)))], []⟩
def ref02_number.osk : Sk := ⟨[(0, .row 0)], [.row 4 1 0]⟩
noncomputable def ref02_number (n : Nat) (x0 x1 x2 : D) : Out := run C n (.call 38 ref02_number.sk [x0, x1, x2])
def bv_Vec_Bits.sk : Sk := ⟨[(0, .d ty_il1)], []⟩
def bv_Vec_Bits.osk : Sk := ⟨[(0, .row 0)], [.row 4 1 0]⟩
noncomputable def bv_Vec_Bits (n : Nat) (x0 : D) : Out := run C n (.call 40 bv_Vec_Bits.sk [x0])
def ref01_Equal.sk : Sk := ⟨[(0, .d (.leaf (.lst 1))), (1, .d (.leaf (.lst 1)))], []⟩
def ref01_Equal.osk : Sk := ⟨[(0, .d (.leaf .bool))], []⟩
noncomputable def ref01_Equal (n : Nat) (x0 x1 : D) : Out := run C n (.call 39 ref01_Equal.sk [x0, x1])
def lit_Lit_isPlain.sk : Sk := ⟨[(0, .d ty_il1bb)], []⟩
def lit_Lit_isPlain.osk : Sk := ⟨[(0, .d (.leaf .bool))], []⟩
noncomputable def lit_Lit_isPlain (n : Nat) (x0 : D) : Out := run C n (.call 41 lit_Lit_isPlain.sk [x0])
def bv_Vec_Num.sk : Sk := ⟨[(0, .d ty_il1), (1, .d (.leaf (.int .i64)))], []⟩
def bv_Vec_Num.osk : Sk := ⟨[(0, .d (.leaf (.int .i64)))], []⟩
noncomputable def bv_Vec_Num (n : Nat) (x0 x1 : D) : Out := run C n (.call 43 bv_Vec_Num.sk [x0, x1])
def strconv_Itoa.sk : Sk := ⟨[(0, .d (.leaf (.int .i64)))], []⟩
def strconv_Itoa.osk : Sk := ⟨[(0, .d (.leaf .str))], []⟩
noncomputable def strconv_Itoa (n : Nat) (x0 : D) : Out := run C n (.call 42 strconv_Itoa.sk [x0])
def lit_hex.sk : Sk := ⟨[(0, .d ty_il1)], []⟩
def lit_hex.osk : Sk := ⟨[(0, .d (.leaf .str))], []⟩
noncomputable def lit_hex (n : Nat) (x0 : D) : Out := run C n (.call 44 lit_hex.sk [x0])
def ref01_Num.sk : Sk := ⟨[(0, .d (.leaf (.lst 1))), (1, .d (.leaf (.int .i64)))], []⟩
def ref01_Num.osk : Sk := ⟨[(0, .d (.leaf (.int .i64)))], []⟩
noncomputable def ref01_Num (n : Nat) (x0 x1 : D) : Out := run C n (.call 45 ref01_Num.sk [x0, x1])
def law01_Own.sk : Sk := ⟨[(0, .d (.leaf (.lst 1)))], []⟩
def law01_Own.osk : Sk := ⟨[(0, .d ty_il1)], []⟩
noncomputable def law01_Own (n : Nat) (x0 : D) : Out := run C n (.call 47 law01_Own.sk [x0])
def bv_New.sk : Sk := ⟨[(0, .d (.leaf (.int .i64))), (1, .d (.leaf (.lst 1)))], []⟩
def bv_New.osk : Sk := ⟨[(0, .d ty_il1), (1, .d (.leaf (.int .i64)))], []⟩
noncomputable def bv_New (n : Nat) (x0 x1 : D) : Out := run C n (.call 48 bv_New.sk [x0, x1])
def bv_Vec_Bit.sk : Sk := ⟨[(0, .d ty_il1), (1, .d (.leaf (.int .i64)))], []⟩
def bv_Vec_Bit.osk : Sk := ⟨[(0, .d (.leaf .bool))], []⟩
noncomputable def bv_Vec_Bit (n : Nat) (x0 x1 : D) : Out := run C n (.call 49 bv_Vec_Bit.sk [x0, x1])
def bv_Un.sk : Sk := ⟨[(0, .d (.leaf (.int .i64))), (1, .d ty_il1)], []⟩
def bv_Un.osk : Sk := ⟨[(0, .d ty_il1), (1, .d (.leaf (.int .i64)))], []⟩
noncomputable def bv_Un (n : Nat) (x0 x1 : D) : Out := run C n (.call 50 bv_Un.sk [x0, x1])
def ref01_Neg.sk : Sk := ⟨[(0, .d (.leaf (.lst 1)))], []⟩
def ref01_Neg.osk : Sk := ⟨[(0, .row 0)], [.row 4 1 0]⟩
noncomputable def ref01_Neg (n : Nat) (x0 : D) : Out := run C n (.call 51 ref01_Neg.sk [x0])
def lit_base.sk : Sk := ⟨[(0, .d (.leaf (.int .u8)))], []⟩
def lit_base.osk : Sk := ⟨[(0, .d (.leaf (.int .i64)))], []⟩
noncomputable def lit_base (n : Nat) (x0 : D) : Out := run C n (.call 57 lit_base.sk [x0])
def bv_Of.sk : Sk := ⟨[(0, .d (.leaf (.lst 1)))], []⟩
def bv_Of.osk : Sk := ⟨[(0, .d ty_il1), (1, .d (.leaf (.int .i64)))], []⟩
noncomputable def bv_Of (n : Nat) (x0 : D) : Out := run C n (.call 62 bv_Of.sk [x0])
def bv_good.sk : Sk := ⟨[(0, .d (.leaf (.int .i64)))], []⟩
def bv_good.osk : Sk := ⟨[(0, .d (.leaf .bool))], []⟩
noncomputable def bv_good (n : Nat) (x0 : D) : Out := run C n (.call 63 bv_good.sk [x0])
def bv_blank.sk : Sk := ⟨[(0, .d (.leaf (.int .i64)))], []⟩
def bv_blank.osk : Sk := ⟨[(0, .agg [.d (.leaf (.int .i64)), .row 0])], [.row 85 1 0]⟩
noncomputable def bv_blank (n : Nat) (x0 : D) : Out := run C n (.call 64 bv_blank.sk [x0])
def bv_Vec_cut.sk : Sk := ⟨[(0, .agg [.d (.leaf (.int .i64)), .row 0])], [.row 85 1 2]⟩
def bv_Vec_cut.osk : Sk := ⟨[(0, .agg [.d (.leaf (.int .i64)), .row 1])], [.gone, .row 85 1 0]⟩
noncomputable def bv_Vec_cut (n : Nat) (x0 x1 : D) : Out := run C n (.call 65 bv_Vec_cut.sk [x0, x1])
def bv_not.sk : Sk := ⟨[(0, .d ty_il1)], []⟩
def bv_not.osk : Sk := ⟨[(0, .agg [.d (.leaf (.int .i64)), .row 0])], [.row 85 1 0]⟩
noncomputable def bv_not (n : Nat) (x0 : D) : Out := run C n (.call 66 bv_not.sk [x0])
def bv_neg.sk : Sk := ⟨[(0, .d ty_il1)], []⟩
def bv_neg.osk : Sk := ⟨[(0, .d ty_il1)], []⟩
noncomputable def bv_neg (n : Nat) (x0 : D) : Out := run C n (.call 67 bv_neg.sk [x0])
def bv_any.sk : Sk := ⟨[(0, .d ty_il1)], []⟩
def bv_any.osk : Sk := ⟨[(0, .d (.leaf .bool))], []⟩
noncomputable def bv_any (n : Nat) (x0 : D) : Out := run C n (.call 69 bv_any.sk [x0])
def bv_truth.sk : Sk := ⟨[(0, .d (.leaf .bool))], []⟩
def bv_truth.osk : Sk := ⟨[(0, .d ty_il1)], []⟩
noncomputable def bv_truth (n : Nat) (x0 : D) : Out := run C n (.call 68 bv_truth.sk [x0])
def ref01_Not.sk : Sk := ⟨[(0, .d (.leaf (.lst 1)))], []⟩
def ref01_Not.osk : Sk := ⟨[(0, .row 0)], [.row 4 1 0]⟩
noncomputable def ref01_Not (n : Nat) (x0 : D) : Out := run C n (.call 71 ref01_Not.sk [x0])
def ref01_Plus.sk : Sk := ⟨[(0, .d (.leaf (.lst 1))), (1, .d (.leaf (.lst 1))), (2, .d (.leaf .bool))], []⟩
def ref01_Plus.osk : Sk := ⟨[(0, .row 0)], [.row 4 1 0]⟩
noncomputable def ref01_Plus (n : Nat) (x0 x1 x2 : D) : Out := run C n (.call 60 ref01_Plus.sk [x0, x1, x2])
def lit_value.sk : Sk := ⟨[(0, .d (.leaf (.int .u8)))], []⟩
def lit_value.osk : Sk := ⟨[(0, .d (.leaf (.int .i64)))], []⟩
noncomputable def lit_value (n : Nat) (x0 : D) : Out := run C n (.call 56 lit_value.sk [x0])
def bv_Bin.sk : Sk := ⟨[(0, .d (.leaf (.int .i64))), (1, .d ty_il1), (2, .d ty_il1)], []⟩
def bv_Bin.osk : Sk := ⟨[(0, .d ty_il1), (1, .d (.leaf (.int .i64)))], []⟩
noncomputable def bv_Bin (n : Nat) (x0 x1 x2 : D) : Out := run C n (.call 58 bv_Bin.sk [x0, x1, x2])
def ref02_value.sk : Sk := ⟨[(0, .d (.leaf (.int .u8)))], []⟩
def ref02_value.osk : Sk := ⟨[(0, .d (.leaf (.int .i64)))], []⟩
noncomputable def ref02_value (n : Nat) (x0 : D) : Out := run C n (.call 59 ref02_value.sk [x0])
def ref01_Bit.sk : Sk := ⟨[(0, .d (.leaf (.lst 1))), (1, .d (.leaf (.int .i64)))], []⟩
def ref01_Bit.osk : Sk := ⟨[(0, .d (.leaf .bool))], []⟩
noncomputable def ref01_Bit (n : Nat) (x0 x1 : D) : Out := run C n (.call 46 ref01_Bit.sk [x0, x1])
def bv_count.sk : Sk := ⟨[(0, .d (.leaf (.int .i64)))], []⟩
def bv_count.osk : Sk := ⟨[(0, .d (.leaf (.int .i64)))], []⟩
noncomputable def bv_count (n : Nat) (x0 : D) : Out := run C n (.call 91 bv_count.sk [x0])
def bv_plus.sk : Sk := ⟨[(0, .d ty_il1), (1, .d ty_il1), (2, .d (.leaf (.int .u64)))], []⟩
def bv_plus.osk : Sk := ⟨[(0, .agg [.d (.leaf (.int .i64)), .row 0])], [.row 85 1 0]⟩
noncomputable def bv_plus (n : Nat) (x0 x1 x2 : D) : Out := run C n (.call 80 bv_plus.sk [x0, x1, x2])
def slices_ContainsFunc_uint64.sk : Sk := ⟨[(0, .d (.leaf (.lst 1))), (1, .fn 93 [])], []⟩
def slices_ContainsFunc_uint64.osk : Sk := ⟨[(0, .d (.leaf .bool))], []⟩
noncomputable def slices_ContainsFunc_uint64 (n : Nat) (x0 : D) : Out := run C n (.call 92 slices_ContainsFunc_uint64.sk [x0])
def bv_Vec_set.sk : Sk := ⟨[(0, .agg [.d (.leaf (.int .i64)), .row 0]), (1, .d (.leaf (.int .i64))), (2, .d (.leaf .bool))], [.row 85 1 1]⟩
def bv_Vec_set.osk : Sk := ⟨[], [.row 85 1 1]⟩
noncomputable def bv_Vec_set (n : Nat) (x0 x1 x2 x3 : D) : Out := run C n (.call 90 bv_Vec_set.sk [x0, x1, x2, x3])
def math_bits_OnesCount64.sk : Sk := ⟨[(0, .d (.leaf (.int .u64)))], []⟩
def math_bits_OnesCount64.osk : Sk := ⟨[(0, .d (.leaf (.int .i64)))], []⟩
noncomputable def math_bits_OnesCount64 (n : Nat) (x0 : D) : Out := run C n (.call 70 math_bits_OnesCount64.sk [x0])
def strings_IndexByte.sk : Sk := ⟨[(0, .d (.leaf .str)), (1, .d (.leaf (.int .u8)))], []⟩
def strings_IndexByte.osk : Sk := ⟨[(0, .d (.leaf (.int .i64)))], []⟩
noncomputable def strings_IndexByte (n : Nat) (x0 x1 : D) : Out := run C n (.call 79 strings_IndexByte.sk [x0, x1])
def bv_times.sk : Sk := ⟨[(0, .d ty_il1), (1, .d ty_il1)], []⟩
def bv_times.osk : Sk := ⟨[(0, .d ty_il1)], []⟩
noncomputable def bv_times (n : Nat) (x0 x1 : D) : Out := run C n (.call 81 bv_times.sk [x0, x1])
def bv_divide.sk : Sk := ⟨[(0, .d (.leaf (.int .i64))), (1, .d ty_il1), (2, .d ty_il1)], []⟩
def bv_divide.osk : Sk := ⟨[(0, .d ty_il1)], []⟩
noncomputable def bv_divide (n : Nat) (x0 x1 x2 : D) : Out := run C n (.call 82 bv_divide.sk [x0, x1, x2])
def bv_bitwise.sk : Sk := ⟨[(0, .d ty_il1), (1, .d ty_il1), (2, .fn 84 [])], []⟩
def bv_bitwise.osk : Sk := ⟨[(0, .d ty_il1)], []⟩
noncomputable def bv_bitwise (n : Nat) (x0 x1 : D) : Out := run C n (.call 83 bv_bitwise.sk [x0, x1])
def bv_bitwise_2.sk : Sk := ⟨[(0, .d ty_il1), (1, .d ty_il1), (2, .fn 85 [])], []⟩
def bv_bitwise_2.osk : Sk := ⟨[(0, .d ty_il1)], []⟩
noncomputable def bv_bitwise_2 (n : Nat) (x0 x1 : D) : Out := run C n (.call 83 bv_bitwise_2.sk [x0, x1])
def bv_bitwise_3.sk : Sk := ⟨[(0, .d ty_il1), (1, .d ty_il1), (2, .fn 86 [])], []⟩
def bv_bitwise_3.osk : Sk := ⟨[(0, .d ty_il1)], []⟩
noncomputable def bv_bitwise_3 (n : Nat) (x0 x1 : D) : Out := run C n (.call 83 bv_bitwise_3.sk [x0, x1])
def bv_shift.sk : Sk := ⟨[(0, .d (.leaf (.int .i64))), (1, .d ty_il1), (2, .d ty_il1)], []⟩
def bv_shift.osk : Sk := ⟨[(0, .d ty_il1)], []⟩
noncomputable def bv_shift (n : Nat) (x0 x1 x2 : D) : Out := run C n (.call 87 bv_shift.sk [x0, x1, x2])
def bv_compare.sk : Sk := ⟨[(0, .d (.leaf (.int .i64))), (1, .d ty_il1), (2, .d ty_il1)], []⟩
def bv_compare.osk : Sk := ⟨[(0, .d (.leaf .bool))], []⟩
noncomputable def bv_compare (n : Nat) (x0 x1 x2 : D) : Out := run C n (.call 88 bv_compare.sk [x0, x1, x2])
def slices_IndexFunc_uint64.sk : Sk := ⟨[(0, .d (.leaf (.lst 1))), (1, .fn 93 [])], []⟩
def slices_IndexFunc_uint64.osk : Sk := ⟨[(0, .d (.leaf (.int .i64)))], []⟩
noncomputable def slices_IndexFunc_uint64 (n : Nat) (x0 : D) : Out := run C n (.call 114 slices_IndexFunc_uint64.sk [x0])
def internal_stringslite_IndexByte.sk : Sk := ⟨[(0, .d (.leaf .str)), (1, .d (.leaf (.int .u8)))], []⟩
def internal_stringslite_IndexByte.osk : Sk := ⟨[(0, .d (.leaf (.int .i64)))], []⟩
noncomputable def internal_stringslite_IndexByte (n : Nat) (x0 x1 : D) : Out := run C n (.call 96 internal_stringslite_IndexByte.sk [x0, x1])
def bv_split.sk : Sk := ⟨[(0, .d ty_il1), (1, .d ty_il1)], []⟩
def bv_split.osk : Sk := ⟨[(0, .d ty_il1), (1, .d ty_il1)], []⟩
noncomputable def bv_split (n : Nat) (x0 x1 : D) : Out := run C n (.call 102 bv_split.sk [x0, x1])
def bv_signed.sk : Sk := ⟨[(0, .d ty_il1), (1, .d ty_il1)], []⟩
def bv_signed.osk : Sk := ⟨[(0, .d ty_il1), (1, .d ty_il1)], []⟩
noncomputable def bv_signed (n : Nat) (x0 x1 : D) : Out := run C n (.call 103 bv_signed.sk [x0, x1])
def bv_up.sk : Sk := ⟨[(0, .d ty_il1), (1, .d (.leaf (.int .i64)))], []⟩
def bv_up.osk : Sk := ⟨[(0, .agg [.d (.leaf (.int .i64)), .row 0])], [.row 85 1 0]⟩
noncomputable def bv_up (n : Nat) (x0 x1 : D) : Out := run C n (.call 104 bv_up.sk [x0, x1])
def bv_down.sk : Sk := ⟨[(0, .d ty_il1), (1, .d (.leaf (.int .i64))), (2, .d (.leaf .bool))], []⟩
def bv_down.osk : Sk := ⟨[(0, .d ty_il1)], []⟩
noncomputable def bv_down (n : Nat) (x0 x1 x2 : D) : Out := run C n (.call 105 bv_down.sk [x0, x1, x2])
def bv_negative.sk : Sk := ⟨[(0, .d ty_il1)], []⟩
def bv_negative.osk : Sk := ⟨[(0, .d (.leaf .bool))], []⟩
noncomputable def bv_negative (n : Nat) (x0 : D) : Out := run C n (.call 106 bv_negative.sk [x0])
def bv_Equal.sk : Sk := ⟨[(0, .d ty_il1), (1, .d ty_il1)], []⟩
def bv_Equal.osk : Sk := ⟨[(0, .d (.leaf .bool))], []⟩
noncomputable def bv_Equal (n : Nat) (x0 x1 : D) : Out := run C n (.call 107 bv_Equal.sk [x0, x1])
def bv_less.sk : Sk := ⟨[(0, .d ty_il1), (1, .d ty_il1)], []⟩
def bv_less.osk : Sk := ⟨[(0, .d (.leaf .bool))], []⟩
noncomputable def bv_less (n : Nat) (x0 x1 : D) : Out := run C n (.call 108 bv_less.sk [x0, x1])
def bv_signedLess.sk : Sk := ⟨[(0, .d ty_il1), (1, .d ty_il1)], []⟩
def bv_signedLess.osk : Sk := ⟨[(0, .d (.leaf .bool))], []⟩
noncomputable def bv_signedLess (n : Nat) (x0 x1 : D) : Out := run C n (.call 109 bv_signedLess.sk [x0, x1])
def bv_magnitude.sk : Sk := ⟨[(0, .d ty_il1)], []⟩
def bv_magnitude.osk : Sk := ⟨[(0, .d ty_il1)], []⟩
noncomputable def bv_magnitude (n : Nat) (x0 : D) : Out := run C n (.call 117 bv_magnitude.sk [x0])
def bv_Bin_1.sk : Sk := ⟨[(0, .d (.leaf (.int .u64))), (1, .d (.leaf (.int .u64)))], []⟩
def bv_Bin_1.osk : Sk := ⟨[(0, .d (.leaf (.int .u64)))], []⟩
noncomputable def bv_Bin_1 (n : Nat) (x0 x1 : D) : Out := run C n (.call 84 bv_Bin_1.sk [x0, x1])
def bv_Bin_2.sk : Sk := ⟨[(0, .d (.leaf (.int .u64))), (1, .d (.leaf (.int .u64)))], []⟩
def bv_Bin_2.osk : Sk := ⟨[(0, .d (.leaf (.int .u64)))], []⟩
noncomputable def bv_Bin_2 (n : Nat) (x0 x1 : D) : Out := run C n (.call 85 bv_Bin_2.sk [x0, x1])
def bv_Bin_3.sk : Sk := ⟨[(0, .d (.leaf (.int .u64))), (1, .d (.leaf (.int .u64)))], []⟩
def bv_Bin_3.osk : Sk := ⟨[(0, .d (.leaf (.int .u64)))], []⟩
noncomputable def bv_Bin_3 (n : Nat) (x0 x1 : D) : Out := run C n (.call 86 bv_Bin_3.sk [x0, x1])
def slices_Equal_uint64.sk : Sk := ⟨[(0, .d (.leaf (.lst 1))), (1, .d (.leaf (.lst 1)))], []⟩
def slices_Equal_uint64.osk : Sk := ⟨[(0, .d (.leaf .bool))], []⟩
noncomputable def slices_Equal_uint64 (n : Nat) (x0 x1 : D) : Out := run C n (.call 118 slices_Equal_uint64.sk [x0, x1])
def bv_any_1.sk : Sk := ⟨[(0, .d (.leaf (.int .u64)))], []⟩
def bv_any_1.osk : Sk := ⟨[(0, .d (.leaf .bool))], []⟩
noncomputable def bv_any_1 (n : Nat) (x0 : D) : Out := run C n (.call 93 bv_any_1.sk [x0])
def math_bits_Mul64.sk : Sk := ⟨[(0, .d (.leaf (.int .u64))), (1, .d (.leaf (.int .u64)))], []⟩
def math_bits_Mul64.osk : Sk := ⟨[(0, .d (.leaf (.int .u64))), (1, .d (.leaf (.int .u64)))], []⟩
noncomputable def math_bits_Mul64 (n : Nat) (x0 x1 : D) : Out := run C n (.call 101 math_bits_Mul64.sk [x0, x1])
def ref02_Parse_L0.sk : Sk := ⟨[(0, .d (.leaf .str)), (2, .ptr 0 0), (4, .d (.leaf (.int .i64))), (5, .d (.leaf (.int .i64)))], [.var [.row 1, .d (.leaf .bool), .d (.leaf .bool)], .row 4 1 0]⟩
noncomputable def ref02_Parse_L0.body : Code := bodyAt C 10 0
noncomputable def ref02_Parse_L0 (n : Nat) (x0 x1 x2 x3 x4 x5 : D) : Out := run C n (.loop 10 ref02_Parse.osk [] false 0 ref02_Parse_L0.body ref02_Parse_L0.sk [x0, x1, x2, x3, x4, x5])
def ref02_Text_L0.sk : Sk := ⟨[(1, .ptr 0 0), (3, .d (.leaf (.int .i64))), (4, .d (.leaf .str)), (5, .d (.leaf .str)), (6, .d (.leaf (.int .i64)))], [.var [.d (.leaf (.lst 1)), .d (.leaf .bool), .d (.leaf .bool)]]⟩
noncomputable def ref02_Text_L0.body : Code := bodyAt C 14 0
noncomputable def ref02_Text_L0 (n : Nat) (x0 x1 x2 x3 x4 x5 x6 : D) : Out := run C n (.loop 14 ref02_Text.osk [] false 0 ref02_Text_L0.body ref02_Text_L0.sk [x0, x1, x2, x3, x4, x5, x6])
def ref02_Text_L4.sk : Sk := ⟨[(4, .d (.leaf .str)), (5, .d (.leaf .str))], []⟩
noncomputable def ref02_Text_L4.body : Code := bodyAt C 14 4
noncomputable def ref02_Text_L4 (n : Nat) (x0 x1 : D) : Out := run C n (.loop 14 ref02_Text.osk [] false 4 ref02_Text_L4.body ref02_Text_L4.sk [x0, x1])
def ref02_Dec_L0.sk : Sk := ⟨[(0, .d (.leaf (.int .i64))), (3, .d (.leaf .str))], []⟩
noncomputable def ref02_Dec_L0.body : Code := bodyAt C 19 0
noncomputable def ref02_Dec_L0 (n : Nat) (x0 x1 : D) : Out := run C n (.loop 19 ref02_Dec.osk [] false 0 ref02_Dec_L0.body ref02_Dec_L0.sk [x0, x1])
def bv_Vec_Text_L0.sk : Sk := ⟨[(1, .ptr 0 0), (3, .row 1), (9, .d (.leaf (.int .i64))), (10, .d (.leaf (.int .i64)))], [.var [.d (.leaf (.int .i64)), .d (.leaf (.lst 1))], .row 5 1 0]⟩
noncomputable def bv_Vec_Text_L0.body : Code := bodyAt C 28 0
noncomputable def bv_Vec_Text_L0 (n : Nat) (x0 x1 x2 x3 x4 : D) : Out := run C n (.loop 28 bv_Vec_Text.osk [] false 0 bv_Vec_Text_L0.body bv_Vec_Text_L0.sk [x0, x1, x2, x3, x4])
def lit_digits_L0.sk : Sk := ⟨[(0, .d (.leaf .str)), (1, .d (.leaf (.int .i64))), (6, .row 0), (12, .d (.leaf (.int .i64))), (13, .d (.leaf (.int .i64)))], [.row 3 1 0]⟩
noncomputable def lit_digits_L0.body : Code := bodyAt C 31 0
noncomputable def lit_digits_L0 (n : Nat) (x0 x1 x2 x3 x4 : D) : Out := run C n (.loop 31 lit_digits.osk [] false 0 lit_digits_L0.body lit_digits_L0.sk [x0, x1, x2, x3, x4])
def lit_small_L0.sk : Sk := ⟨[(1, .d (.leaf (.int .i64))), (5, .d (.leaf (.int .i64))), (8, .d (.leaf (.lst 1))), (9, .d (.leaf (.int .i64))), (10, .d (.leaf (.int .i64)))], []⟩
noncomputable def lit_small_L0.body : Code := bodyAt C 32 0
noncomputable def lit_small_L0 (n : Nat) (x0 x1 x2 x3 x4 : D) : Out := run C n (.loop 32 lit_small.osk [] false 0 lit_small_L0.body lit_small_L0.sk [x0, x1, x2, x3, x4])
def lit_bits_L0.sk : Sk := ⟨[(2, .d (.leaf (.int .i64))), (6, .ptr 0 0), (7, .ptr 1 0), (9, .ptr 2 0), (28, .d (.leaf (.lst 1))), (29, .d (.leaf (.int .i64))), (30, .d (.leaf (.int .i64)))], [.var [.d (.leaf (.int .i64)), .row 3], .var [.d (.leaf (.int .i64)), .d (.leaf (.lst 1))], .var [.d (.leaf (.int .i64)), .d (.leaf (.lst 1))], .row 85 1 0]⟩
noncomputable def lit_bits_L0.body : Code := bodyAt C 34 0
noncomputable def lit_bits_L0 (n : Nat) (x0 x1 x2 x3 x4 x5 x6 x7 x8 x9 : D) : Out := run C n (.loop 34 lit_bits.osk [] false 0 lit_bits_L0.body lit_bits_L0.sk [x0, x1, x2, x3, x4, x5, x6, x7, x8, x9])
def ref02_digits_L0.sk : Sk := ⟨[(0, .d (.leaf .str)), (1, .d (.leaf (.int .i64))), (5, .d (.leaf (.int .i64)))], []⟩
noncomputable def ref02_digits_L0.body : Code := bodyAt C 35 0
noncomputable def ref02_digits_L0 (n : Nat) (x0 x1 x2 : D) : Out := run C n (.loop 35 ref02_digits.osk [] false 0 ref02_digits_L0.body ref02_digits_L0.sk [x0, x1, x2])
def ref02_decimal_L0.sk : Sk := ⟨[(0, .d (.leaf .str)), (1, .d (.leaf (.int .i64))), (5, .d (.leaf (.int .i64))), (6, .d (.leaf (.int .i64)))], []⟩
noncomputable def ref02_decimal_L0.body : Code := bodyAt C 36 0
noncomputable def ref02_decimal_L0 (n : Nat) (x0 x1 x2 x3 : D) : Out := run C n (.loop 36 ref02_decimal.osk [] false 0 ref02_decimal_L0.body ref02_decimal_L0.sk [x0, x1, x2, x3])
def ref01_New_L0.sk : Sk := ⟨[(0, .d (.leaf (.int .i64))), (1, .d (.leaf (.lst 1))), (6, .row 0), (7, .d (.leaf (.int .i64)))], [.row 4 1 0]⟩
noncomputable def ref01_New_L0.body : Code := bodyAt C 37 0
noncomputable def ref01_New_L0 (n : Nat) (x0 x1 x2 x3 : D) : Out := run C n (.loop 37 ref01_New.osk [] false 0 ref01_New_L0.body ref01_New_L0.sk [x0, x1, x2, x3])
def ref02_number_L0.sk : Sk := ⟨[(0, .d (.leaf .str)), (1, .d (.leaf (.int .i64))), (2, .d (.leaf (.int .i64))), (7, .row 0), (8, .d (.leaf (.int .i64)))], [.row 4 1 0]⟩
noncomputable def ref02_number_L0.body : Code := bodyAt C 38 0
noncomputable def ref02_number_L0 (n : Nat) (x0 x1 x2 x3 x4 : D) : Out := run C n (.loop 38 ref02_number.osk [] false 0 ref02_number_L0.body ref02_number_L0.sk [x0, x1, x2, x3, x4])
def bv_Vec_Bits_L0.sk : Sk := ⟨[(1, .ptr 0 0), (3, .row 1), (9, .d (.leaf (.int .i64))), (10, .d (.leaf (.int .i64)))], [.var [.d (.leaf (.int .i64)), .d (.leaf (.lst 1))], .row 4 1 0]⟩
noncomputable def bv_Vec_Bits_L0.body : Code := bodyAt C 40 0
noncomputable def bv_Vec_Bits_L0 (n : Nat) (x0 x1 x2 x3 x4 : D) : Out := run C n (.loop 40 bv_Vec_Bits.osk [] false 0 bv_Vec_Bits_L0.body bv_Vec_Bits_L0.sk [x0, x1, x2, x3, x4])
def ref01_Equal_L0.sk : Sk := ⟨[(0, .d (.leaf (.lst 1))), (1, .d (.leaf (.lst 1))), (5, .d (.leaf (.int .i64)))], []⟩
noncomputable def ref01_Equal_L0.body : Code := bodyAt C 39 0
noncomputable def ref01_Equal_L0 (n : Nat) (x0 x1 x2 : D) : Out := run C n (.loop 39 ref01_Equal.osk [] false 0 ref01_Equal_L0.body ref01_Equal_L0.sk [x0, x1, x2])
def bv_Vec_Num_L0.sk : Sk := ⟨[(1, .d (.leaf (.int .i64))), (2, .ptr 0 0), (10, .d (.leaf (.lst 1))), (11, .d (.leaf (.int .i64))), (12, .d (.leaf (.int .i64)))], [.var [.d (.leaf (.int .i64)), .d (.leaf (.lst 1))]]⟩
noncomputable def bv_Vec_Num_L0.body : Code := bodyAt C 43 0
noncomputable def bv_Vec_Num_L0 (n : Nat) (x0 x1 x2 x3 x4 x5 : D) : Out := run C n (.loop 43 bv_Vec_Num.osk [] false 0 bv_Vec_Num_L0.body bv_Vec_Num_L0.sk [x0, x1, x2, x3, x4, x5])
def lit_hex_L0.sk : Sk := ⟨[(1, .ptr 0 0), (3, .row 1), (4, .d (.leaf (.int .i64)))], [.var [.d (.leaf (.int .i64)), .d (.leaf (.lst 1))], .row 5 1 0]⟩
noncomputable def lit_hex_L0.body : Code := bodyAt C 44 0
noncomputable def lit_hex_L0 (n : Nat) (x0 x1 x2 x3 : D) : Out := run C n (.loop 44 lit_hex.osk [] false 0 lit_hex_L0.body lit_hex_L0.sk [x0, x1, x2, x3])
def ref01_Num_L0.sk : Sk := ⟨[(0, .d (.leaf (.lst 1))), (1, .d (.leaf (.int .i64))), (5, .d (.leaf (.int .i64))), (6, .d (.leaf (.int .i64)))], []⟩
noncomputable def ref01_Num_L0.body : Code := bodyAt C 45 0
noncomputable def ref01_Num_L0 (n : Nat) (x0 x1 x2 x3 : D) : Out := run C n (.loop 45 ref01_Num.osk [] false 0 ref01_Num_L0.body ref01_Num_L0.sk [x0, x1, x2, x3])
def ref02_Text_L2.sk : Sk := ⟨[(1, .ptr 0 0), (3, .d (.leaf (.int .i64))), (4, .d (.leaf .str)), (5, .d (.leaf .str)), (6, .d (.leaf (.int .i64))), (7, .d (.leaf (.int .i64))), (8, .d (.leaf (.int .i64)))], [.var [.d (.leaf (.lst 1)), .d (.leaf .bool), .d (.leaf .bool)]]⟩
noncomputable def ref02_Text_L2.body : Code := bodyAt C 14 2
noncomputable def ref02_Text_L2 (n : Nat) (x0 x1 x2 x3 x4 x5 x6 x7 x8 : D) : Out := run C n (.loop 14 ref02_Text.osk [] false 2 ref02_Text_L2.body ref02_Text_L2.sk [x0, x1, x2, x3, x4, x5, x6, x7, x8])
def bv_Un_L2.sk : Sk := ⟨[(4, .ptr 0 0), (6, .d (.leaf (.int .i64))), (50, .d (.leaf (.lst 1))), (51, .d (.leaf (.int .i64))), (52, .d (.leaf (.int .i64)))], [.var [.d (.leaf (.int .i64)), .row 1], .row 85 1 0]⟩
noncomputable def bv_Un_L2.body : Code := bodyAt C 50 2
noncomputable def bv_Un_L2 (n : Nat) (x0 x1 x2 x3 x4 x5 : D) : Out := run C n (.loop 50 bv_Un.osk [] false 2 bv_Un_L2.body bv_Un_L2.sk [x0, x1, x2, x3, x4, x5])
def ref02_number_L2.sk : Sk := ⟨[(0, .d (.leaf .str)), (1, .d (.leaf (.int .i64))), (2, .d (.leaf (.int .i64))), (7, .row 0), (8, .d (.leaf (.int .i64))), (9, .row 1), (10, .d (.leaf (.int .i64)))], [.row 4 1 0, .row 4 1 0]⟩
noncomputable def ref02_number_L2.body : Code := bodyAt C 38 2
noncomputable def ref02_number_L2 (n : Nat) (x0 x1 x2 x3 x4 x5 x6 : D) : Out := run C n (.loop 38 ref02_number.osk [] false 2 ref02_number_L2.body ref02_number_L2.sk [x0, x1, x2, x3, x4, x5, x6])
def ref02_number_L4.sk : Sk := ⟨[(0, .d (.leaf .str)), (1, .d (.leaf (.int .i64))), (2, .d (.leaf (.int .i64))), (8, .d (.leaf (.int .i64))), (9, .row 0), (11, .d (.leaf (.int .i64)))], [.row 4 1 0]⟩
noncomputable def ref02_number_L4.body : Code := bodyAt C 38 4
noncomputable def ref02_number_L4 (n : Nat) (x0 x1 x2 x3 x4 x5 : D) : Out := run C n (.loop 38 ref02_number.osk [] false 4 ref02_number_L4.body ref02_number_L4.sk [x0, x1, x2, x3, x4, x5])
def lit_hex_L2.sk : Sk := ⟨[(1, .ptr 0 0), (3, .row 1), (4, .d (.leaf (.int .i64))), (5, .d (.leaf (.int .i64))), (15, .d (.leaf (.int .i64)))], [.var [.d (.leaf (.int .i64)), .d (.leaf (.lst 1))], .row 5 1 0]⟩
noncomputable def lit_hex_L2.body : Code := bodyAt C 44 2
noncomputable def lit_hex_L2 (n : Nat) (x0 x1 x2 x3 x4 x5 : D) : Out := run C n (.loop 44 lit_hex.osk [] false 2 lit_hex_L2.body lit_hex_L2.sk [x0, x1, x2, x3, x4, x5])
def bv_Of_L0.sk : Sk := ⟨[(2, .ptr 0 0), (4, .ptr 1 0), (15, .d (.leaf (.lst 1))), (16, .d (.leaf (.int .i64))), (17, .d (.leaf (.int .i64)))], [.var [.d (.leaf (.int .i64)), .row 2], .var [.d (.leaf (.int .i64)), .row 3], .row 85 1 0, .row 85 1 0]⟩
noncomputable def bv_Of_L0.body : Code := bodyAt C 62 0
noncomputable def bv_Of_L0 (n : Nat) (x0 x1 x2 x3 x4 x5 x6 : D) : Out := run C n (.loop 62 bv_Of.osk [] false 0 bv_Of_L0.body bv_Of_L0.sk [x0, x1, x2, x3, x4, x5, x6])
def bv_not_L0.sk : Sk := ⟨[(2, .ptr 0 0), (3, .ptr 1 0), (10, .d (.leaf (.lst 1))), (11, .d (.leaf (.int .i64))), (12, .d (.leaf (.int .i64)))], [.var [.d (.leaf (.int .i64)), .row 2], .var [.d (.leaf (.int .i64)), .row 3], .row 85 1 0, .row 85 1 0]⟩
noncomputable def bv_not_L0.body : Code := bodyAt C 66 0
noncomputable def bv_not_L0 (n : Nat) (x0 x1 x2 x3 x4 x5 x6 : D) : Out := run C n (.loop 66 bv_not.osk [] false 0 bv_not_L0.body bv_not_L0.sk [x0, x1, x2, x3, x4, x5, x6])
def ref01_Not_L0.sk : Sk := ⟨[(0, .d (.leaf (.lst 1))), (3, .row 0), (4, .d (.leaf (.int .i64)))], [.row 4 1 0]⟩
noncomputable def ref01_Not_L0.body : Code := bodyAt C 71 0
noncomputable def ref01_Not_L0 (n : Nat) (x0 x1 x2 : D) : Out := run C n (.loop 71 ref01_Not.osk [] false 0 ref01_Not_L0.body ref01_Not_L0.sk [x0, x1, x2])
def ref01_Plus_L0.sk : Sk := ⟨[(0, .d (.leaf (.lst 1))), (1, .d (.leaf (.lst 1))), (2, .d (.leaf .bool)), (7, .row 0), (8, .d (.leaf (.int .i64)))], [.row 4 1 0]⟩
noncomputable def ref01_Plus_L0.body : Code := bodyAt C 60 0
noncomputable def ref01_Plus_L0 (n : Nat) (x0 x1 x2 x3 x4 : D) : Out := run C n (.loop 60 ref01_Plus.osk [] false 0 ref01_Plus_L0.body ref01_Plus_L0.sk [x0, x1, x2, x3, x4])
def bv_plus_L0.sk : Sk := ⟨[(2, .d (.leaf (.int .u64))), (3, .ptr 0 0), (4, .ptr 1 0), (6, .ptr 2 0), (7, .ptr 3 0), (14, .d (.leaf (.int .i64))), (15, .d (.leaf (.int .i64)))], [.var [.d (.leaf (.int .i64)), .d (.leaf (.lst 1))], .var [.d (.leaf (.int .i64)), .d (.leaf (.lst 1))], .var [.d (.leaf (.int .i64)), .row 4], .var [.d (.leaf (.int .i64)), .row 5], .row 85 1 0, .row 85 1 0]⟩
noncomputable def bv_plus_L0.body : Code := bodyAt C 80 0
noncomputable def bv_plus_L0 (n : Nat) (x0 x1 x2 x3 x4 x5 x6 x7 x8 x9 x10 : D) : Out := run C n (.loop 80 bv_plus.osk [] false 0 bv_plus_L0.body bv_plus_L0.sk [x0, x1, x2, x3, x4, x5, x6, x7, x8, x9, x10])
def bv_times_L0.sk : Sk := ⟨[(2, .ptr 0 0), (3, .ptr 1 0), (4, .ptr 2 0), (5, .ptr 3 0), (17, .d (.leaf (.int .i64))), (18, .d (.leaf (.int .i64)))], [.var [.d (.leaf (.int .i64)), .d (.leaf (.lst 1))], .var [.d (.leaf (.int .i64)), .d (.leaf (.lst 1))], .var [.d (.leaf (.int .i64)), .row 4], .var [.d (.leaf (.int .i64)), .row 5], .row 85 1 0, .row 85 1 0]⟩
noncomputable def bv_times_L0.body : Code := bodyAt C 81 0
noncomputable def bv_times_L0 (n : Nat) (x0 x1 x2 x3 x4 x5 x6 x7 x8 x9 : D) : Out := run C n (.loop 81 bv_times.osk [] false 0 bv_times_L0.body bv_times_L0.sk [x0, x1, x2, x3, x4, x5, x6, x7, x8, x9])
def bv_bitwise_L0.sk : Sk := ⟨[(2, .fn 84 []), (3, .ptr 0 0), (4, .ptr 1 0), (6, .ptr 2 0), (7, .ptr 3 0), (14, .d (.leaf (.int .i64))), (15, .d (.leaf (.int .i64)))], [.var [.d (.leaf (.int .i64)), .d (.leaf (.lst 1))], .var [.d (.leaf (.int .i64)), .d (.leaf (.lst 1))], .var [.d (.leaf (.int .i64)), .row 4], .var [.d (.leaf (.int .i64)), .row 5], .row 85 1 0, .row 85 1 0]⟩
noncomputable def bv_bitwise_L0.body : Code := bodyAt C 83 0
noncomputable def bv_bitwise_L0 (n : Nat) (x0 x1 x2 x3 x4 x5 x6 x7 x8 x9 : D) : Out := run C n (.loop 83 bv_bitwise.osk [] false 0 bv_bitwise_L0.body bv_bitwise_L0.sk [x0, x1, x2, x3, x4, x5, x6, x7, x8, x9])
def bv_bitwise_2_L0.sk : Sk := ⟨[(2, .fn 85 []), (3, .ptr 0 0), (4, .ptr 1 0), (6, .ptr 2 0), (7, .ptr 3 0), (14, .d (.leaf (.int .i64))), (15, .d (.leaf (.int .i64)))], [.var [.d (.leaf (.int .i64)), .d (.leaf (.lst 1))], .var [.d (.leaf (.int .i64)), .d (.leaf (.lst 1))], .var [.d (.leaf (.int .i64)), .row 4], .var [.d (.leaf (.int .i64)), .row 5], .row 85 1 0, .row 85 1 0]⟩
noncomputable def bv_bitwise_2_L0.body : Code := bodyAt C 83 0
noncomputable def bv_bitwise_2_L0 (n : Nat) (x0 x1 x2 x3 x4 x5 x6 x7 x8 x9 : D) : Out := run C n (.loop 83 bv_bitwise_2.osk [] false 0 bv_bitwise_2_L0.body bv_bitwise_2_L0.sk [x0, x1, x2, x3, x4, x5, x6, x7, x8, x9])
def bv_bitwise_3_L0.sk : Sk := ⟨[(2, .fn 86 []), (3, .ptr 0 0), (4, .ptr 1 0), (6, .ptr 2 0), (7, .ptr 3 0), (14, .d (.leaf (.int .i64))), (15, .d (.leaf (.int .i64)))], [.var [.d (.leaf (.int .i64)), .d (.leaf (.lst 1))], .var [.d (.leaf (.int .i64)), .d (.leaf (.lst 1))], .var [.d (.leaf (.int .i64)), .row 4], .var [.d (.leaf (.int .i64)), .row 5], .row 85 1 0, .row 85 1 0]⟩
noncomputable def bv_bitwise_3_L0.body : Code := bodyAt C 83 0
noncomputable def bv_bitwise_3_L0 (n : Nat) (x0 x1 x2 x3 x4 x5 x6 x7 x8 x9 : D) : Out := run C n (.loop 83 bv_bitwise_3.osk [] false 0 bv_bitwise_3_L0.body bv_bitwise_3_L0.sk [x0, x1, x2, x3, x4, x5, x6, x7, x8, x9])
def slices_IndexFunc_uint64_L0.sk : Sk := ⟨[(0, .d (.leaf (.lst 1))), (1, .fn 93 []), (7, .d (.leaf (.int .i64))), (8, .d (.leaf (.int .i64)))], []⟩
noncomputable def slices_IndexFunc_uint64_L0.body : Code := bodyAt C 114 0
noncomputable def slices_IndexFunc_uint64_L0 (n : Nat) (x0 x1 x2 : D) : Out := run C n (.loop 114 slices_IndexFunc_uint64.osk [] false 0 slices_IndexFunc_uint64_L0.body slices_IndexFunc_uint64_L0.sk [x0, x1, x2])
def bv_times_L2.sk : Sk := ⟨[(2, .ptr 0 0), (3, .ptr 1 0), (4, .ptr 2 0), (5, .ptr 3 0), (6, .d (.leaf (.int .i64))), (7, .d (.leaf (.int .u64))), (8, .d (.leaf (.int .i64))), (17, .d (.leaf (.int .i64))), (18, .d (.leaf (.int .i64)))], [.var [.d (.leaf (.int .i64)), .d (.leaf (.lst 1))], .var [.d (.leaf (.int .i64)), .d (.leaf (.lst 1))], .var [.d (.leaf (.int .i64)), .row 4], .var [.d (.leaf (.int .i64)), .row 5], .row 85 1 0, .row 85 1 0]⟩
noncomputable def bv_times_L2.body : Code := bodyAt C 81 2
noncomputable def bv_times_L2 (n : Nat) (x0 x1 x2 x3 x4 x5 x6 x7 x8 x9 x10 x11 x12 : D) : Out := run C n (.loop 81 bv_times.osk [] false 2 bv_times_L2.body bv_times_L2.sk [x0, x1, x2, x3, x4, x5, x6, x7, x8, x9, x10, x11, x12])
def bv_split_L0.sk : Sk := ⟨[(2, .ptr 0 0), (3, .ptr 1 0), (4, .ptr 2 0), (5, .ptr 3 0), (6, .ptr 4 0), (7, .ptr 5 0), (8, .d (.leaf (.int .i64)))], [.var [.d (.leaf (.int .i64)), .d (.leaf (.lst 1))], .var [.d (.leaf (.int .i64)), .d (.leaf (.lst 1))], .var [.d (.leaf (.int .i64)), .row 6], .var [.d (.leaf (.int .i64)), .row 7], .var [.d (.leaf (.int .i64)), .row 8], .var [.d (.leaf (.int .i64)), .row 9], .row 85 1 0, .row 85 1 0, .row 85 1 0, .row 85 1 0]⟩
noncomputable def bv_split_L0.body : Code := bodyAt C 102 0
noncomputable def bv_split_L0 (n : Nat) (x0 x1 x2 x3 x4 x5 x6 x7 x8 x9 x10 x11 x12 : D) : Out := run C n (.loop 102 bv_split.osk [] false 0 bv_split_L0.body bv_split_L0.sk [x0, x1, x2, x3, x4, x5, x6, x7, x8, x9, x10, x11, x12])
def bv_up_L0.sk : Sk := ⟨[(1, .d (.leaf (.int .i64))), (2, .ptr 0 0), (4, .ptr 1 0), (5, .ptr 2 0), (6, .d (.leaf (.int .i64)))], [.var [.d (.leaf (.int .i64)), .d (.leaf (.lst 1))], .var [.d (.leaf (.int .i64)), .row 3], .var [.d (.leaf (.int .i64)), .row 4], .row 85 1 0, .row 85 1 0]⟩
noncomputable def bv_up_L0.body : Code := bodyAt C 104 0
noncomputable def bv_up_L0 (n : Nat) (x0 x1 x2 x3 x4 x5 x6 x7 : D) : Out := run C n (.loop 104 bv_up.osk [] false 0 bv_up_L0.body bv_up_L0.sk [x0, x1, x2, x3, x4, x5, x6, x7])
def bv_down_L0.sk : Sk := ⟨[(1, .d (.leaf (.int .i64))), (2, .d (.leaf .bool)), (3, .ptr 0 0), (6, .ptr 1 0), (7, .ptr 2 0), (13, .d (.leaf (.int .i64))), (14, .d (.leaf (.int .i64)))], [.var [.d (.leaf (.int .i64)), .d (.leaf (.lst 1))], .var [.d (.leaf (.int .i64)), .row 3], .var [.d (.leaf (.int .i64)), .row 4], .row 85 1 0, .row 85 1 0]⟩
noncomputable def bv_down_L0.body : Code := bodyAt C 105 0
noncomputable def bv_down_L0 (n : Nat) (x0 x1 x2 x3 x4 x5 x6 x7 x8 x9 : D) : Out := run C n (.loop 105 bv_down.osk [] false 0 bv_down_L0.body bv_down_L0.sk [x0, x1, x2, x3, x4, x5, x6, x7, x8, x9])
def bv_less_L0.sk : Sk := ⟨[(2, .ptr 0 0), (3, .ptr 1 0), (5, .d (.leaf (.int .i64)))], [.var [.d (.leaf (.int .i64)), .d (.leaf (.lst 1))], .var [.d (.leaf (.int .i64)), .d (.leaf (.lst 1))]]⟩
noncomputable def bv_less_L0.body : Code := bodyAt C 108 0
noncomputable def bv_less_L0 (n : Nat) (x0 x1 x2 x3 x4 : D) : Out := run C n (.loop 108 bv_less.osk [] false 0 bv_less_L0.body bv_less_L0.sk [x0, x1, x2, x3, x4])
def slices_Equal_uint64_L0.sk : Sk := ⟨[(0, .d (.leaf (.lst 1))), (1, .d (.leaf (.lst 1))), (12, .d (.leaf (.int .i64))), (13, .d (.leaf (.int .i64)))], []⟩
noncomputable def slices_Equal_uint64_L0.body : Code := bodyAt C 118 0
noncomputable def slices_Equal_uint64_L0 (n : Nat) (x0 x1 x2 x3 : D) : Out := run C n (.loop 118 slices_Equal_uint64.osk [] false 0 slices_Equal_uint64_L0.body slices_Equal_uint64_L0.sk [x0, x1, x2, x3])
def strings_Cut.orc : Sk → List D → Option (List D) := orcCut
theorem strings_Cut_orc (n : Nat) (x0 x1 : D) (r : List D) (h : strings_Cut.orc strings_Cut.sk [x0, x1] = some r) : strings_Cut (n + 1) x0 x1 = some (true, r) := by
  show (match C.orc 29 strings_Cut.sk [x0, x1] with | some r => some (true, r) | none => _) = _
  rw [show C.orc 29 strings_Cut.sk [x0, x1] = some r from h]
def strconv_Itoa.orc : Sk → List D → Option (List D) := orcItoa
theorem strconv_Itoa_orc (n : Nat) (x0 : D) (r : List D) (h : strconv_Itoa.orc strconv_Itoa.sk [x0] = some r) : strconv_Itoa (n + 1) x0 = some (true, r) := by
  show (match C.orc 42 strconv_Itoa.sk [x0] with | some r => some (true, r) | none => _) = _
  rw [show C.orc 42 strconv_Itoa.sk [x0] = some r from h]
end Go.Proofs.YtkjocbdjenmegaaDoor
