/- By a program (aegen.py): the functions of this seat as tasks of the interpreter. -/
import Derived.Test.YthlhbocobgkdmaaGreatEng
import Derived.Test.YthlhbocobgkdmaaGreatProg
import Derived.KernelRfl
namespace Go.Proofs.YthlhbocobgkdmaaGreat
open Go.AE
set_option linter.unusedVariables false
def globTab : List (Nat × List D) := []
def ownTab : List (Nat × Nat × Nat) := [(75, 0, 1), (96, 0, 2), (102, 0, 2), (139, 0, 1)]
def dresTab : List (Nat × Nat × Nat) := [(22, 0, 1), (26, 0, 1), (58, 0, 1), (70, 0, 1), (70, 1, 1), (71, 0, 1), (71, 1, 1), (101, 0, 2), (104, 0, 2), (109, 0, 2), (139, 0, 2), (146, 0, 2)]
def keepTab : List (Nat × Nat × List Nat) := [(4, 0, [0, 7, 8, 9, 10, 11, 19]),
  (4, 2, [0, 7, 8, 9, 10, 11, 23]),
  (17, 0, [0, 1, 2, 8, 9]),
  (18, 0, [1, 2, 39, 40, 41]),
  (18, 2, [1, 2, 64, 65, 66]),
  (19, 0, [1, 2, 4, 5, 13, 14, 15]),
  (22, 0, [0, 1, 6, 7]),
  (26, 1, [0, 1, 2, 8, 20]),
  (29, 0, [0, 3]),
  (39, 0, [0, 3, 4]),
  (41, 0, [1, 2, 4, 30, 31, 32]),
  (46, 0, [2, 3, 7, 8, 9]),
  (50, 0, [2, 4, 15, 16, 17]),
  (52, 0, [1, 3, 9, 10]),
  (53, 0, [0, 3, 4]),
  (54, 0, [1, 3, 9, 10]),
  (56, 0, [0, 3, 4]),
  (57, 0, [1, 2, 10, 11, 12]),
  (60, 0, [0, 1, 12, 13]),
  (61, 0, [1, 3, 6, 8, 33, 34]),
  (62, 2, [4, 6, 50, 51, 52]),
  (66, 0, [2, 3, 6, 8, 21, 22]),
  (67, 0, [0, 1, 5, 6]),
  (68, 0, [0, 1, 2, 7, 8]),
  (69, 0, [0, 1, 5, 6]),
  (70, 0, [0, 6, 7, 8, 9]),
  (72, 0, [0, 1, 2, 7, 8]),
  (73, 0, [0, 1, 5]),
  (74, 0, [0, 1, 5]),
  (75, 0, [0, 1, 5, 6]),
  (88, 0, [1, 10, 11, 12]),
  (96, 0, [0, 1, 7, 8]),
  (98, 0, [0, 1, 7, 8]),
  (104, 0, [2, 3, 10, 11, 12]),
  (109, 0, [2, 3, 4, 6, 7, 14, 15]),
  (110, 0, [2, 3, 4, 5, 17, 18]),
  (110, 2, [2, 3, 4, 5, 6, 7, 8, 17, 18]),
  (112, 0, [2, 3, 4, 6, 7, 14, 15]),
  (118, 0, [0, 1, 7, 8]),
  (135, 0, [0, 5, 8, 9, 10]),
  (137, 0, [0, 3, 4, 5, 10, 11, 12]),
  (144, 0, [2, 3, 4, 5, 6, 7, 8]),
  (146, 0, [1, 2, 4, 5, 6]),
  (147, 0, [1, 2, 3, 6, 7, 13, 14]),
  (148, 0, [2, 3, 5]),
  (154, 1, [0, 4, 13, 15, 117, 118]),
  (168, 0, [0, 1, 6, 12, 13]),
  (169, 0, [1, 5, 8, 9, 10]),
  (171, 0, [2, 6, 7, 9, 28, 29, 30]),
  (176, 0, [0, 1, 7, 8]),
  (183, 0, [0, 2, 3, 12, 13, 14]),
  (184, 0, [0, 5, 8, 9, 10]),
  (185, 0, [0, 3, 4, 5, 6, 28, 29, 30]),
  (198, 0, [2, 5, 12, 13, 14]),
  (200, 1, [0, 1, 5, 6, 7, 8, 9, 10]),
  (210, 0, [0, 1, 5, 6, 7, 8, 9]),
  (210, 2, [0, 1, 5, 6, 7, 8, 10]),
  (215, 0, [0, 4, 5]),
  (215, 2, [4, 6, 7, 8])]
def cutTab : List (Nat × Nat × List Nat) := []
def extList : List (Nat × (List D → Option (Bool × List D))) := [(142, extAdd64)]
def orcList : List (Nat × (Sk → List D → Option (List D))) := []
noncomputable def C : Cfg := { P := Tryz.prog, own := tab2 ownTab, dres := tab2 dresTab, keep := tabL keepTab, cut := tabL cutTab, orc := orcTab orcList, ext := extTab extList, gok := fun _ => True, glob := tabG globTab, trn := fun t => [25].any (Nat.beq t), nowid := fun f => [3, 46, 4].any (Nat.beq f) }
def ty_iii : Ty := .agg [.int .i64, .int .i64, .int .i64]
def ty_il1 : Ty := .agg [.int .i64, .lst 1]
def ty_iiiiibil1l9 : Ty := .agg [.int .i64, .int .i64, .int .i64, .int .i64, .int .i64, .bool, .int .i64, .lst 1, .lst 9]
def ty_l19l2 : Ty := .agg [.lst 19, .lst 2]
def ty_sibi : Ty := .agg [.str, .int .i64, .bool, .int .i64]
def ty_l2 : Ty := .agg [.lst 2]
def ty_l4ibiiiiibil1l9 : Ty := .agg [.lst 4, .int .i64, .bool, .int .i64, .int .i64, .int .i64, .int .i64, .int .i64, .bool, .int .i64, .lst 1, .lst 9]
def ty_siisibil4ibiiiiibil1l9 : Ty := .agg [.str, .int .i64, .int .i64, .str, .int .i64, .bool, .int .i64, .lst 4, .int .i64, .bool, .int .i64, .int .i64, .int .i64, .int .i64, .int .i64, .bool, .int .i64, .lst 1, .lst 9]
def ty_si : Ty := .agg [.str, .int .i64]
def law12_TypedMakers.sk : Sk := ⟨[(0, .d (.leaf (.lst 1))), (1, .d (.leaf (.lst 1))), (2, .d ty_iii)], []⟩
def law12_TypedMakers.osk : Sk := ⟨[(0, .d (.leaf .bool))], []⟩
noncomputable def law12_TypedMakers (n : Nat) (x0 x1 x2 : D) : Out := run C n (.call 4 law12_TypedMakers.sk [x0, x1, x2])
def law12_awake.sk : Sk := ⟨[], []⟩
def law12_awake.osk : Sk := ⟨[(0, .d (.leaf .bool))], []⟩
noncomputable def law12_awake (n : Nat) : Out := run C n (.call 6 law12_awake.sk [])
def law01_Own.sk : Sk := ⟨[(0, .d (.leaf (.lst 1)))], []⟩
def law01_Own.osk : Sk := ⟨[(0, .d ty_il1)], []⟩
noncomputable def law01_Own (n : Nat) (x0 : D) : Out := run C n (.call 15 law01_Own.sk [x0])
def typed_Num.sk : Sk := ⟨[(0, .d ty_il1)], []⟩
def typed_Num.osk : Sk := ⟨[(0, .d ty_iiiiibil1l9)], []⟩
noncomputable def typed_Num (n : Nat) (x0 : D) : Out := run C n (.call 14 typed_Num.sk [x0])
def ref01_Slice.sk : Sk := ⟨[(0, .d (.leaf (.lst 1))), (1, .d (.leaf (.int .i64))), (2, .d (.leaf (.int .i64)))], []⟩
def ref01_Slice.osk : Sk := ⟨[(0, .row 0), (1, .d (.leaf (.int .i64)))], [.row 4 1 0]⟩
noncomputable def ref01_Slice (n : Nat) (x0 x1 x2 : D) : Out := run C n (.call 16 ref01_Slice.sk [x0, x1, x2])
def ref01_Ext.sk : Sk := ⟨[(0, .d (.leaf (.lst 1))), (1, .d (.leaf (.int .i64))), (2, .d (.leaf .bool))], []⟩
def ref01_Ext.osk : Sk := ⟨[(0, .row 0), (1, .d (.leaf (.int .i64)))], [.row 4 1 0]⟩
noncomputable def ref01_Ext (n : Nat) (x0 x1 x2 : D) : Out := run C n (.call 17 ref01_Ext.sk [x0, x1, x2])
def typed_Part.sk : Sk := ⟨[(0, .d ty_iiiiibil1l9), (1, .d (.leaf (.int .i64))), (2, .d (.leaf (.int .i64)))], []⟩
def typed_Part.osk : Sk := ⟨[(0, .d ty_iiiiibil1l9)], []⟩
noncomputable def typed_Part (n : Nat) (x0 x1 x2 : D) : Out := run C n (.call 20 typed_Part.sk [x0, x1, x2])
def typed_Eval.sk : Sk := ⟨[(0, .d ty_iiiiibil1l9), (1, .d (.leaf .any))], []⟩
def typed_Eval.osk : Sk := ⟨[(0, .d ty_il1)], []⟩
noncomputable def typed_Eval (n : Nat) (x0 x1 : D) : Out := run C n (.call 19 typed_Eval.sk [x0, x1])
def law01_Is.sk : Sk := ⟨[(0, .d ty_il1), (1, .d (.leaf (.lst 1)))], []⟩
def law01_Is.osk : Sk := ⟨[(0, .d (.leaf .bool))], []⟩
noncomputable def law01_Is (n : Nat) (x0 x1 : D) : Out := run C n (.call 18 law01_Is.sk [x0, x1])
def typed_Wide.sk : Sk := ⟨[(0, .d ty_iiiiibil1l9), (1, .d (.leaf (.int .i64))), (2, .d (.leaf .bool))], []⟩
def typed_Wide.osk : Sk := ⟨[(0, .d ty_iiiiibil1l9)], []⟩
noncomputable def typed_Wide (n : Nat) (x0 x1 x2 : D) : Out := run C n (.call 21 typed_Wide.sk [x0, x1, x2])
def typed_Truth.sk : Sk := ⟨[(0, .d ty_iiiiibil1l9)], []⟩
def typed_Truth.osk : Sk := ⟨[(0, .d ty_iiiiibil1l9)], []⟩
noncomputable def typed_Truth (n : Nat) (x0 : D) : Out := run C n (.call 28 typed_Truth.sk [x0])
def ref01_Any.sk : Sk := ⟨[(0, .d (.leaf (.lst 1)))], []⟩
def ref01_Any.osk : Sk := ⟨[(0, .d (.leaf .bool))], []⟩
noncomputable def ref01_Any (n : Nat) (x0 : D) : Out := run C n (.call 29 ref01_Any.sk [x0])
def typed_Scope_Const.sk : Sk := ⟨[(0, .d ty_l19l2), (1, .d (.leaf .str)), (2, .d (.leaf (.int .i64)))], []⟩
def typed_Scope_Const.osk : Sk := ⟨[(0, .d ty_l19l2)], []⟩
noncomputable def typed_Scope_Const (n : Nat) (x0 x1 x2 : D) : Out := run C n (.call 7 typed_Scope_Const.sk [x0, x1, x2])
def typed_Scope_Sig.sk : Sk := ⟨[(0, .d ty_l19l2), (1, .d (.leaf .str)), (2, .d (.leaf (.int .i64))), (3, .d ty_sibi)], []⟩
def typed_Scope_Sig.osk : Sk := ⟨[(0, .d ty_l19l2)], []⟩
noncomputable def typed_Scope_Sig (n : Nat) (x0 x1 x2 x3 : D) : Out := run C n (.call 8 typed_Scope_Sig.sk [x0, x1, x2, x3])
def typed_Scope_Func.sk : Sk := ⟨[(0, .d ty_l19l2), (1, .d (.leaf .str)), (2, .d ty_l4ibiiiiibil1l9)], []⟩
def typed_Scope_Func.osk : Sk := ⟨[(0, .d ty_l19l2)], []⟩
noncomputable def typed_Scope_Func (n : Nat) (x0 x1 x2 : D) : Out := run C n (.call 9 typed_Scope_Func.sk [x0, x1, x2])
def typed_Scope_Find.sk : Sk := ⟨[(0, .d ty_l19l2), (1, .d (.leaf .str))], []⟩
def typed_Scope_Find.osk : Sk := ⟨[(0, .d (.leaf (.int .i64))), (1, .d (.leaf (.int .i64))), (2, .d ty_sibi)], []⟩
noncomputable def typed_Scope_Find (n : Nat) (x0 x1 : D) : Out := run C n (.call 10 typed_Scope_Find.sk [x0, x1])
def typed_Scope_Without.sk : Sk := ⟨[(0, .d ty_l19l2), (1, .d (.leaf (.int .i64)))], []⟩
def typed_Scope_Without.osk : Sk := ⟨[(0, .d ty_l19l2)], []⟩
noncomputable def typed_Scope_Without (n : Nat) (x0 x1 : D) : Out := run C n (.call 30 typed_Scope_Without.sk [x0, x1])
def typed_Signal.sk : Sk := ⟨[(0, .d (.leaf (.int .i64))), (1, .d ty_sibi)], []⟩
def typed_Signal.osk : Sk := ⟨[(0, .d ty_iiiiibil1l9)], []⟩
noncomputable def typed_Signal (n : Nat) (x0 x1 : D) : Out := run C n (.call 31 typed_Signal.sk [x0, x1])
def bv_Vec_Bit.sk : Sk := ⟨[(0, .d ty_il1), (1, .d (.leaf (.int .i64)))], []⟩
def bv_Vec_Bit.osk : Sk := ⟨[(0, .d (.leaf .bool))], []⟩
noncomputable def bv_Vec_Bit (n : Nat) (x0 x1 : D) : Out := run C n (.call 32 bv_Vec_Bit.sk [x0, x1])
def typed_Choose.sk : Sk := ⟨[(0, .d ty_iiiiibil1l9), (1, .d ty_iiiiibil1l9), (2, .d ty_iiiiibil1l9)], []⟩
def typed_Choose.osk : Sk := ⟨[(0, .d ty_iiiiibil1l9)], []⟩
noncomputable def typed_Choose (n : Nat) (x0 x1 x2 : D) : Out := run C n (.call 33 typed_Choose.sk [x0, x1, x2])
def typed_Scope_Env.sk : Sk := ⟨[(0, .d ty_l19l2)], []⟩
def typed_Scope_Env.osk : Sk := ⟨[(0, .d ty_l2)], []⟩
noncomputable def typed_Scope_Env (n : Nat) (x0 : D) : Out := run C n (.call 11 typed_Scope_Env.sk [x0])
def konst_Env_Len.sk : Sk := ⟨[(0, .d ty_l2)], []⟩
def konst_Env_Len.osk : Sk := ⟨[(0, .d (.leaf (.int .i64)))], []⟩
noncomputable def konst_Env_Len (n : Nat) (x0 : D) : Out := run C n (.call 13 konst_Env_Len.sk [x0])
def bv_Of.sk : Sk := ⟨[(0, .d (.leaf (.lst 1)))], []⟩
def bv_Of.osk : Sk := ⟨[(0, .d ty_il1), (1, .d (.leaf (.int .i64)))], []⟩
noncomputable def bv_Of (n : Nat) (x0 : D) : Out := run C n (.call 50 bv_Of.sk [x0])
def bv_Vec_Width.sk : Sk := ⟨[(0, .d ty_il1)], []⟩
def bv_Vec_Width.osk : Sk := ⟨[(0, .d (.leaf (.int .i64)))], []⟩
noncomputable def bv_Vec_Width (n : Nat) (x0 : D) : Out := run C n (.call 49 bv_Vec_Width.sk [x0])
def bv_Vec_Num.sk : Sk := ⟨[(0, .d ty_il1), (1, .d (.leaf (.int .i64)))], []⟩
def bv_Vec_Num.osk : Sk := ⟨[(0, .d (.leaf (.int .i64)))], []⟩
noncomputable def bv_Vec_Num (n : Nat) (x0 x1 : D) : Out := run C n (.call 57 bv_Vec_Num.sk [x0, x1])
def typed_Value.sk : Sk := ⟨[(0, .d ty_iiiiibil1l9), (1, .d (.leaf (.lst 2)))], []⟩
def typed_Value.osk : Sk := ⟨[(0, .d ty_il1)], []⟩
noncomputable def typed_Value (n : Nat) (x0 x1 : D) : Out := run C n (.call 25 typed_Value.sk [x0, x1])
def bv_Vec_Text.sk : Sk := ⟨[(0, .d ty_il1)], []⟩
def bv_Vec_Text.osk : Sk := ⟨[(0, .d (.leaf .str))], []⟩
noncomputable def bv_Vec_Text (n : Nat) (x0 : D) : Out := run C n (.call 52 bv_Vec_Text.sk [x0])
def ref01_Text.sk : Sk := ⟨[(0, .d (.leaf (.lst 1)))], []⟩
def ref01_Text.osk : Sk := ⟨[(0, .d (.leaf .str))], []⟩
noncomputable def ref01_Text (n : Nat) (x0 : D) : Out := run C n (.call 53 ref01_Text.sk [x0])
def bv_Vec_Bits.sk : Sk := ⟨[(0, .d ty_il1)], []⟩
def bv_Vec_Bits.osk : Sk := ⟨[(0, .row 0)], [.row 4 1 0]⟩
noncomputable def bv_Vec_Bits (n : Nat) (x0 : D) : Out := run C n (.call 54 bv_Vec_Bits.sk [x0])
def bv_Vec_Words.sk : Sk := ⟨[(0, .d ty_il1)], []⟩
def bv_Vec_Words.osk : Sk := ⟨[(0, .row 0)], [.row 128 1 0]⟩
noncomputable def bv_Vec_Words (n : Nat) (x0 : D) : Out := run C n (.call 55 bv_Vec_Words.sk [x0])
def ref01_Words.sk : Sk := ⟨[(0, .d (.leaf (.lst 1)))], []⟩
def ref01_Words.osk : Sk := ⟨[(0, .row 0)], [.row 128 1 0]⟩
noncomputable def ref01_Words (n : Nat) (x0 : D) : Out := run C n (.call 56 ref01_Words.sk [x0])
def ref01_Un.sk : Sk := ⟨[(0, .d (.leaf (.int .i64))), (1, .d (.leaf (.lst 1)))], []⟩
def ref01_Un.osk : Sk := ⟨[(0, .d (.leaf (.lst 1))), (1, .d (.leaf (.int .i64)))], []⟩
noncomputable def ref01_Un (n : Nat) (x0 x1 : D) : Out := run C n (.call 22 ref01_Un.sk [x0, x1])
def typed_One.sk : Sk := ⟨[(0, .d (.leaf (.int .i64))), (1, .d ty_iiiiibil1l9)], []⟩
def typed_One.osk : Sk := ⟨[(0, .d ty_iiiiibil1l9)], []⟩
noncomputable def typed_One (n : Nat) (x0 x1 : D) : Out := run C n (.call 23 typed_One.sk [x0, x1])
def bv_Equal.sk : Sk := ⟨[(0, .d ty_il1), (1, .d ty_il1)], []⟩
def bv_Equal.osk : Sk := ⟨[(0, .d (.leaf .bool))], []⟩
noncomputable def bv_Equal (n : Nat) (x0 x1 : D) : Out := run C n (.call 24 bv_Equal.sk [x0, x1])
def ref01_Bin.sk : Sk := ⟨[(0, .d (.leaf (.int .i64))), (1, .d (.leaf (.lst 1))), (2, .d (.leaf (.lst 1)))], []⟩
def ref01_Bin.osk : Sk := ⟨[(0, .d (.leaf (.lst 1))), (1, .d (.leaf (.int .i64)))], []⟩
noncomputable def ref01_Bin (n : Nat) (x0 x1 x2 : D) : Out := run C n (.call 26 ref01_Bin.sk [x0, x1, x2])
def typed_Two.sk : Sk := ⟨[(0, .d (.leaf (.int .i64))), (1, .d ty_iiiiibil1l9), (2, .d ty_iiiiibil1l9)], []⟩
def typed_Two.osk : Sk := ⟨[(0, .d ty_iiiiibil1l9)], []⟩
noncomputable def typed_Two (n : Nat) (x0 x1 x2 : D) : Out := run C n (.call 27 typed_Two.sk [x0, x1, x2])
def typed_Scope_with.sk : Sk := ⟨[(0, .d ty_l19l2), (1, .d ty_siisibil4ibiiiiibil1l9)], []⟩
def typed_Scope_with.osk : Sk := ⟨[(0, .d ty_l19l2)], []⟩
noncomputable def typed_Scope_with (n : Nat) (x0 x1 : D) : Out := run C n (.call 44 typed_Scope_with.sk [x0, x1])
def konst_Env_With.sk : Sk := ⟨[(0, .d ty_l2), (1, .d (.leaf .str)), (2, .d (.leaf (.int .i64)))], []⟩
def konst_Env_With.osk : Sk := ⟨[(0, .d ty_l2)], []⟩
noncomputable def konst_Env_With (n : Nat) (x0 x1 x2 : D) : Out := run C n (.call 45 konst_Env_With.sk [x0, x1, x2])
def typed_Scope_plain.sk : Sk := ⟨[(0, .d ty_l19l2)], []⟩
def typed_Scope_plain.osk : Sk := ⟨[(0, .d ty_l2)], []⟩
noncomputable def typed_Scope_plain (n : Nat) (x0 : D) : Out := run C n (.call 46 typed_Scope_plain.sk [x0])
def typed_Scope_find.sk : Sk := ⟨[(0, .d ty_l19l2), (1, .d (.leaf .str))], []⟩
def typed_Scope_find.osk : Sk := ⟨[(0, .d ty_siisibil4ibiiiiibil1l9)], []⟩
noncomputable def typed_Scope_find (n : Nat) (x0 x1 : D) : Out := run C n (.call 47 typed_Scope_find.sk [x0, x1])
def slices_Clone_thing.sk : Sk := ⟨[(0, .d (.leaf (.lst 19)))], []⟩
def slices_Clone_thing.osk : Sk := ⟨[(0, .row 0)], [.row 115 19 0]⟩
noncomputable def slices_Clone_thing (n : Nat) (x0 : D) : Out := run C n (.call 76 slices_Clone_thing.sk [x0])
def slices_DeleteFunc_thing.sk : Sk := ⟨[(0, .row 1), (1, .fn 77 [.ptr 0 0])], [.var [.d (.leaf (.int .i64))], .row 115 19 2]⟩
def slices_DeleteFunc_thing.osk : Sk := ⟨[(0, .row 2)], [.var [.d (.leaf (.int .i64))], .gone, .row 115 19 0]⟩
noncomputable def slices_DeleteFunc_thing (n : Nat) (x0 x1 : D) : Out := run C n (.call 75 slices_DeleteFunc_thing.sk [x0, x1])
def bv_good.sk : Sk := ⟨[(0, .d (.leaf (.int .i64)))], []⟩
def bv_good.osk : Sk := ⟨[(0, .d (.leaf .bool))], []⟩
noncomputable def bv_good (n : Nat) (x0 : D) : Out := run C n (.call 100 bv_good.sk [x0])
def bv_blank.sk : Sk := ⟨[(0, .d (.leaf (.int .i64)))], []⟩
def bv_blank.osk : Sk := ⟨[(0, .agg [.d (.leaf (.int .i64)), .row 0])], [.row 128 1 0]⟩
noncomputable def bv_blank (n : Nat) (x0 : D) : Out := run C n (.call 101 bv_blank.sk [x0])
def ref01_top.sk : Sk := ⟨[(0, .d (.leaf (.lst 1)))], []⟩
def ref01_top.osk : Sk := ⟨[(0, .d (.leaf .bool))], []⟩
noncomputable def ref01_top (n : Nat) (x0 : D) : Out := run C n (.call 51 ref01_top.sk [x0])
def bv_Slice.sk : Sk := ⟨[(0, .d ty_il1), (1, .d (.leaf (.int .i64))), (2, .d (.leaf (.int .i64)))], []⟩
def bv_Slice.osk : Sk := ⟨[(0, .d ty_il1), (1, .d (.leaf (.int .i64)))], []⟩
noncomputable def bv_Slice (n : Nat) (x0 x1 x2 : D) : Out := run C n (.call 61 bv_Slice.sk [x0, x1, x2])
def bv_Un.sk : Sk := ⟨[(0, .d (.leaf (.int .i64))), (1, .d ty_il1)], []⟩
def bv_Un.osk : Sk := ⟨[(0, .d ty_il1), (1, .d (.leaf (.int .i64)))], []⟩
noncomputable def bv_Un (n : Nat) (x0 x1 : D) : Out := run C n (.call 62 bv_Un.sk [x0, x1])
def bv_Bin.sk : Sk := ⟨[(0, .d (.leaf (.int .i64))), (1, .d ty_il1), (2, .d ty_il1)], []⟩
def bv_Bin.osk : Sk := ⟨[(0, .d ty_il1), (1, .d (.leaf (.int .i64)))], []⟩
noncomputable def bv_Bin (n : Nat) (x0 x1 x2 : D) : Out := run C n (.call 63 bv_Bin.sk [x0, x1, x2])
def slices_Contains_bool.sk : Sk := ⟨[(0, .d (.leaf (.lst 1))), (1, .d (.leaf .bool))], []⟩
def slices_Contains_bool.osk : Sk := ⟨[(0, .d (.leaf .bool))], []⟩
noncomputable def slices_Contains_bool (n : Nat) (x0 x1 : D) : Out := run C n (.call 64 slices_Contains_bool.sk [x0, x1])
def bv_Cat.sk : Sk := ⟨[(0, .d (.leaf (.lst 2)))], []⟩
def bv_Cat.osk : Sk := ⟨[(0, .d ty_il1), (1, .d (.leaf (.int .i64)))], []⟩
noncomputable def bv_Cat (n : Nat) (x0 : D) : Out := run C n (.call 65 bv_Cat.sk [x0])
def bv_Ext.sk : Sk := ⟨[(0, .d ty_il1), (1, .d (.leaf (.int .i64))), (2, .d (.leaf .bool))], []⟩
def bv_Ext.osk : Sk := ⟨[(0, .d ty_il1), (1, .d (.leaf (.int .i64)))], []⟩
noncomputable def bv_Ext (n : Nat) (x0 x1 x2 : D) : Out := run C n (.call 66 bv_Ext.sk [x0, x1, x2])
def slices_Clone_uint64.sk : Sk := ⟨[(0, .d (.leaf (.lst 1)))], []⟩
def slices_Clone_uint64.osk : Sk := ⟨[(0, .row 0)], [.row 128 1 0]⟩
noncomputable def slices_Clone_uint64 (n : Nat) (x0 : D) : Out := run C n (.call 103 slices_Clone_uint64.sk [x0])
def ref01_Not.sk : Sk := ⟨[(0, .d (.leaf (.lst 1)))], []⟩
def ref01_Not.osk : Sk := ⟨[(0, .row 0)], [.row 4 1 0]⟩
noncomputable def ref01_Not (n : Nat) (x0 : D) : Out := run C n (.call 39 ref01_Not.sk [x0])
def ref01_Neg.sk : Sk := ⟨[(0, .d (.leaf (.lst 1)))], []⟩
def ref01_Neg.osk : Sk := ⟨[(0, .d (.leaf (.lst 1)))], []⟩
noncomputable def ref01_Neg (n : Nat) (x0 : D) : Out := run C n (.call 58 ref01_Neg.sk [x0])
def ref01_one.sk : Sk := ⟨[(0, .d (.leaf .bool))], []⟩
def ref01_one.osk : Sk := ⟨[(0, .row 0)], [.row 4 1 0]⟩
noncomputable def ref01_one (n : Nat) (x0 : D) : Out := run C n (.call 59 ref01_one.sk [x0])
def slices_Equal_uint64.sk : Sk := ⟨[(0, .d (.leaf (.lst 1))), (1, .d (.leaf (.lst 1)))], []⟩
def slices_Equal_uint64.osk : Sk := ⟨[(0, .d (.leaf .bool))], []⟩
noncomputable def slices_Equal_uint64 (n : Nat) (x0 x1 : D) : Out := run C n (.call 60 slices_Equal_uint64.sk [x0, x1])
def ref01_Num.sk : Sk := ⟨[(0, .d (.leaf (.lst 1))), (1, .d (.leaf (.int .i64)))], []⟩
def ref01_Num.osk : Sk := ⟨[(0, .d (.leaf (.int .i64)))], []⟩
noncomputable def ref01_Num (n : Nat) (x0 x1 : D) : Out := run C n (.call 67 ref01_Num.sk [x0, x1])
def ref01_Plus.sk : Sk := ⟨[(0, .d (.leaf (.lst 1))), (1, .d (.leaf (.lst 1))), (2, .d (.leaf .bool))], []⟩
def ref01_Plus.osk : Sk := ⟨[(0, .row 0)], [.row 4 1 0]⟩
noncomputable def ref01_Plus (n : Nat) (x0 x1 x2 : D) : Out := run C n (.call 68 ref01_Plus.sk [x0, x1, x2])
def ref01_times.sk : Sk := ⟨[(0, .d (.leaf (.lst 1))), (1, .d (.leaf (.lst 1)))], []⟩
def ref01_times.osk : Sk := ⟨[(0, .row 0)], [.row 4 1 0]⟩
noncomputable def ref01_times (n : Nat) (x0 x1 : D) : Out := run C n (.call 69 ref01_times.sk [x0, x1])
def ref01_split.sk : Sk := ⟨[(0, .d (.leaf (.lst 1))), (1, .d (.leaf (.lst 1)))], []⟩
def ref01_split.osk : Sk := ⟨[(0, .d (.leaf (.lst 1))), (1, .d (.leaf (.lst 1)))], []⟩
noncomputable def ref01_split (n : Nat) (x0 x1 : D) : Out := run C n (.call 70 ref01_split.sk [x0, x1])
def ref01_signed.sk : Sk := ⟨[(0, .d (.leaf (.lst 1))), (1, .d (.leaf (.lst 1)))], []⟩
def ref01_signed.osk : Sk := ⟨[(0, .d (.leaf (.lst 1))), (1, .d (.leaf (.lst 1)))], []⟩
noncomputable def ref01_signed (n : Nat) (x0 x1 : D) : Out := run C n (.call 71 ref01_signed.sk [x0, x1])
def ref01_Move.sk : Sk := ⟨[(0, .d (.leaf (.lst 1))), (1, .d (.leaf (.int .i64))), (2, .d (.leaf .bool))], []⟩
def ref01_Move.osk : Sk := ⟨[(0, .row 0)], [.row 4 1 0]⟩
noncomputable def ref01_Move (n : Nat) (x0 x1 x2 : D) : Out := run C n (.call 72 ref01_Move.sk [x0, x1, x2])
def ref01_Equal.sk : Sk := ⟨[(0, .d (.leaf (.lst 1))), (1, .d (.leaf (.lst 1)))], []⟩
def ref01_Equal.osk : Sk := ⟨[(0, .d (.leaf .bool))], []⟩
noncomputable def ref01_Equal (n : Nat) (x0 x1 : D) : Out := run C n (.call 73 ref01_Equal.sk [x0, x1])
def ref01_Less.sk : Sk := ⟨[(0, .d (.leaf (.lst 1))), (1, .d (.leaf (.lst 1)))], []⟩
def ref01_Less.osk : Sk := ⟨[(0, .d (.leaf .bool))], []⟩
noncomputable def ref01_Less (n : Nat) (x0 x1 : D) : Out := run C n (.call 74 ref01_Less.sk [x0, x1])
def slices_DeleteFunc_thing_2.sk : Sk := ⟨[(0, .row 1), (1, .fn 94 [.ptr 0 0])], [.var [.d (.leaf .str), .d (.leaf (.int .i64)), .d (.leaf (.int .i64)), .d (.leaf .str), .d (.leaf (.int .i64)), .d (.leaf .bool), .d (.leaf (.int .i64)), .d (.leaf (.lst 4)), .d (.leaf (.int .i64)), .d (.leaf .bool), .d (.leaf (.int .i64)), .d (.leaf (.int .i64)), .d (.leaf (.int .i64)), .d (.leaf (.int .i64)), .d (.leaf (.int .i64)), .d (.leaf .bool), .d (.leaf (.int .i64)), .d (.leaf (.lst 1)), .d (.leaf (.lst 9))], .row 115 19 2]⟩
def slices_DeleteFunc_thing_2.osk : Sk := ⟨[(0, .row 2)], [.var [.d (.leaf .str), .d (.leaf (.int .i64)), .d (.leaf (.int .i64)), .d (.leaf .str), .d (.leaf (.int .i64)), .d (.leaf .bool), .d (.leaf (.int .i64)), .d (.leaf (.lst 4)), .d (.leaf (.int .i64)), .d (.leaf .bool), .d (.leaf (.int .i64)), .d (.leaf (.int .i64)), .d (.leaf (.int .i64)), .d (.leaf (.int .i64)), .d (.leaf (.int .i64)), .d (.leaf .bool), .d (.leaf (.int .i64)), .d (.leaf (.lst 1)), .d (.leaf (.lst 9))], .gone, .row 115 19 0]⟩
noncomputable def slices_DeleteFunc_thing_2 (n : Nat) (x0 x1 x2 x3 x4 x5 x6 x7 x8 x9 x10 x11 x12 x13 x14 x15 x16 x17 x18 x19 : D) : Out := run C n (.call 75 slices_DeleteFunc_thing_2.sk [x0, x1, x2, x3, x4, x5, x6, x7, x8, x9, x10, x11, x12, x13, x14, x15, x16, x17, x18, x19])
def slices_Clone_named.sk : Sk := ⟨[(0, .d (.leaf (.lst 2)))], []⟩
def slices_Clone_named.osk : Sk := ⟨[(0, .row 0)], [.row 120 2 0]⟩
noncomputable def slices_Clone_named (n : Nat) (x0 : D) : Out := run C n (.call 95 slices_Clone_named.sk [x0])
def konst_Env_place.sk : Sk := ⟨[(0, .d ty_l2), (1, .d (.leaf .str))], []⟩
def konst_Env_place.osk : Sk := ⟨[(0, .d (.leaf (.int .i64)))], []⟩
noncomputable def konst_Env_place (n : Nat) (x0 x1 : D) : Out := run C n (.call 48 konst_Env_place.sk [x0, x1])
def slices_IndexFunc_thing.sk : Sk := ⟨[(0, .d (.leaf (.lst 19))), (1, .fn 97 [.ptr 0 0])], [.var [.d (.leaf .str)]]⟩
def slices_IndexFunc_thing.osk : Sk := ⟨[(0, .d (.leaf (.int .i64)))], [.var [.d (.leaf .str)]]⟩
noncomputable def slices_IndexFunc_thing (n : Nat) (x0 x1 : D) : Out := run C n (.call 96 slices_IndexFunc_thing.sk [x0, x1])
def slices_IndexFunc_thing_2.sk : Sk := ⟨[(0, .row 0), (1, .fn 77 [.ptr 1 0])], [.row 115 19 1, .var [.d (.leaf (.int .i64))]]⟩
def slices_IndexFunc_thing_2.osk : Sk := ⟨[(0, .d (.leaf (.int .i64)))], [.row 115 19 1, .var [.d (.leaf (.int .i64))]]⟩
noncomputable def slices_IndexFunc_thing_2 (n : Nat) (x0 x1 : D) : Out := run C n (.call 96 slices_IndexFunc_thing_2.sk [x0, x1])
def bv_count.sk : Sk := ⟨[(0, .d (.leaf (.int .i64)))], []⟩
def bv_count.osk : Sk := ⟨[(0, .d (.leaf (.int .i64)))], []⟩
noncomputable def bv_count (n : Nat) (x0 : D) : Out := run C n (.call 138 bv_count.sk [x0])
def bv_Vec_set.sk : Sk := ⟨[(0, .agg [.d (.leaf (.int .i64)), .row 0]), (1, .d (.leaf (.int .i64))), (2, .d (.leaf .bool))], [.row 128 1 1]⟩
def bv_Vec_set.osk : Sk := ⟨[], [.row 128 1 1]⟩
noncomputable def bv_Vec_set (n : Nat) (x0 x1 x2 x3 : D) : Out := run C n (.call 102 bv_Vec_set.sk [x0, x1, x2, x3])
def bv_not.sk : Sk := ⟨[(0, .d ty_il1)], []⟩
def bv_not.osk : Sk := ⟨[(0, .agg [.d (.leaf (.int .i64)), .row 0])], [.row 128 1 0]⟩
noncomputable def bv_not (n : Nat) (x0 : D) : Out := run C n (.call 104 bv_not.sk [x0])
def bv_neg.sk : Sk := ⟨[(0, .d ty_il1)], []⟩
def bv_neg.osk : Sk := ⟨[(0, .d ty_il1)], []⟩
noncomputable def bv_neg (n : Nat) (x0 : D) : Out := run C n (.call 105 bv_neg.sk [x0])
def bv_any.sk : Sk := ⟨[(0, .d ty_il1)], []⟩
def bv_any.osk : Sk := ⟨[(0, .d (.leaf .bool))], []⟩
noncomputable def bv_any (n : Nat) (x0 : D) : Out := run C n (.call 107 bv_any.sk [x0])
def bv_truth.sk : Sk := ⟨[(0, .d (.leaf .bool))], []⟩
def bv_truth.osk : Sk := ⟨[(0, .d ty_il1)], []⟩
noncomputable def bv_truth (n : Nat) (x0 : D) : Out := run C n (.call 106 bv_truth.sk [x0])
def bv_plus.sk : Sk := ⟨[(0, .d ty_il1), (1, .d ty_il1), (2, .d (.leaf (.int .u64)))], []⟩
def bv_plus.osk : Sk := ⟨[(0, .agg [.d (.leaf (.int .i64)), .row 0])], [.row 128 1 0]⟩
noncomputable def bv_plus (n : Nat) (x0 x1 x2 : D) : Out := run C n (.call 109 bv_plus.sk [x0, x1, x2])
def bv_times.sk : Sk := ⟨[(0, .d ty_il1), (1, .d ty_il1)], []⟩
def bv_times.osk : Sk := ⟨[(0, .d ty_il1)], []⟩
noncomputable def bv_times (n : Nat) (x0 x1 : D) : Out := run C n (.call 110 bv_times.sk [x0, x1])
def bv_divide.sk : Sk := ⟨[(0, .d (.leaf (.int .i64))), (1, .d ty_il1), (2, .d ty_il1)], []⟩
def bv_divide.osk : Sk := ⟨[(0, .d ty_il1)], []⟩
noncomputable def bv_divide (n : Nat) (x0 x1 x2 : D) : Out := run C n (.call 111 bv_divide.sk [x0, x1, x2])
def bv_bitwise.sk : Sk := ⟨[(0, .d ty_il1), (1, .d ty_il1), (2, .fn 113 [])], []⟩
def bv_bitwise.osk : Sk := ⟨[(0, .d ty_il1)], []⟩
noncomputable def bv_bitwise (n : Nat) (x0 x1 : D) : Out := run C n (.call 112 bv_bitwise.sk [x0, x1])
def bv_bitwise_2.sk : Sk := ⟨[(0, .d ty_il1), (1, .d ty_il1), (2, .fn 114 [])], []⟩
def bv_bitwise_2.osk : Sk := ⟨[(0, .d ty_il1)], []⟩
noncomputable def bv_bitwise_2 (n : Nat) (x0 x1 : D) : Out := run C n (.call 112 bv_bitwise_2.sk [x0, x1])
def bv_bitwise_3.sk : Sk := ⟨[(0, .d ty_il1), (1, .d ty_il1), (2, .fn 115 [])], []⟩
def bv_bitwise_3.osk : Sk := ⟨[(0, .d ty_il1)], []⟩
noncomputable def bv_bitwise_3 (n : Nat) (x0 x1 : D) : Out := run C n (.call 112 bv_bitwise_3.sk [x0, x1])
def bv_shift.sk : Sk := ⟨[(0, .d (.leaf (.int .i64))), (1, .d ty_il1), (2, .d ty_il1)], []⟩
def bv_shift.osk : Sk := ⟨[(0, .d ty_il1)], []⟩
noncomputable def bv_shift (n : Nat) (x0 x1 x2 : D) : Out := run C n (.call 116 bv_shift.sk [x0, x1, x2])
def bv_compare.sk : Sk := ⟨[(0, .d (.leaf (.int .i64))), (1, .d ty_il1), (2, .d ty_il1)], []⟩
def bv_compare.osk : Sk := ⟨[(0, .d (.leaf .bool))], []⟩
noncomputable def bv_compare (n : Nat) (x0 x1 x2 : D) : Out := run C n (.call 117 bv_compare.sk [x0, x1, x2])
def slices_Index_bool.sk : Sk := ⟨[(0, .d (.leaf (.lst 1))), (1, .d (.leaf .bool))], []⟩
def slices_Index_bool.osk : Sk := ⟨[(0, .d (.leaf (.int .i64)))], []⟩
noncomputable def slices_Index_bool (n : Nat) (x0 x1 : D) : Out := run C n (.call 118 slices_Index_bool.sk [x0, x1])
def slices_IndexFunc_thing_3.sk : Sk := ⟨[(0, .row 0), (1, .fn 94 [.ptr 1 0])], [.row 115 19 1, .var [.d (.leaf .str), .d (.leaf (.int .i64)), .d (.leaf (.int .i64)), .d (.leaf .str), .d (.leaf (.int .i64)), .d (.leaf .bool), .d (.leaf (.int .i64)), .d (.leaf (.lst 4)), .d (.leaf (.int .i64)), .d (.leaf .bool), .d (.leaf (.int .i64)), .d (.leaf (.int .i64)), .d (.leaf (.int .i64)), .d (.leaf (.int .i64)), .d (.leaf (.int .i64)), .d (.leaf .bool), .d (.leaf (.int .i64)), .d (.leaf (.lst 1)), .d (.leaf (.lst 9))]]⟩
def slices_IndexFunc_thing_3.osk : Sk := ⟨[(0, .d (.leaf (.int .i64)))], [.row 115 19 1, .var [.d (.leaf .str), .d (.leaf (.int .i64)), .d (.leaf (.int .i64)), .d (.leaf .str), .d (.leaf (.int .i64)), .d (.leaf .bool), .d (.leaf (.int .i64)), .d (.leaf (.lst 4)), .d (.leaf (.int .i64)), .d (.leaf .bool), .d (.leaf (.int .i64)), .d (.leaf (.int .i64)), .d (.leaf (.int .i64)), .d (.leaf (.int .i64)), .d (.leaf (.int .i64)), .d (.leaf .bool), .d (.leaf (.int .i64)), .d (.leaf (.lst 1)), .d (.leaf (.lst 9))]]⟩
noncomputable def slices_IndexFunc_thing_3 (n : Nat) (x0 x1 x2 x3 x4 x5 x6 x7 x8 x9 x10 x11 x12 x13 x14 x15 x16 x17 x18 x19 : D) : Out := run C n (.call 96 slices_IndexFunc_thing_3.sk [x0, x1, x2, x3, x4, x5, x6, x7, x8, x9, x10, x11, x12, x13, x14, x15, x16, x17, x18, x19])
def slices_IndexFunc_named.sk : Sk := ⟨[(0, .d (.leaf (.lst 2))), (1, .fn 99 [.ptr 0 0])], [.var [.d (.leaf .str)]]⟩
def slices_IndexFunc_named.osk : Sk := ⟨[(0, .d (.leaf (.int .i64)))], [.var [.d (.leaf .str)]]⟩
noncomputable def slices_IndexFunc_named (n : Nat) (x0 x1 : D) : Out := run C n (.call 98 slices_IndexFunc_named.sk [x0, x1])
def typed_Scope_Without_1.sk : Sk := ⟨[(0, .d ty_siisibil4ibiiiiibil1l9), (1, .ptr 0 0)], [.var [.d (.leaf (.int .i64))]]⟩
def typed_Scope_Without_1.osk : Sk := ⟨[(0, .d (.leaf .bool))], [.var [.d (.leaf (.int .i64))]]⟩
noncomputable def typed_Scope_Without_1 (n : Nat) (x0 x1 : D) : Out := run C n (.call 77 typed_Scope_Without_1.sk [x0, x1])
def bv_Vec_cut.sk : Sk := ⟨[(0, .agg [.d (.leaf (.int .i64)), .row 0])], [.row 128 1 2]⟩
def bv_Vec_cut.osk : Sk := ⟨[(0, .agg [.d (.leaf (.int .i64)), .row 1])], [.gone, .row 128 1 0]⟩
noncomputable def bv_Vec_cut (n : Nat) (x0 x1 : D) : Out := run C n (.call 139 bv_Vec_cut.sk [x0, x1])
def slices_ContainsFunc_uint64.sk : Sk := ⟨[(0, .d (.leaf (.lst 1))), (1, .fn 141 [])], []⟩
def slices_ContainsFunc_uint64.osk : Sk := ⟨[(0, .d (.leaf .bool))], []⟩
noncomputable def slices_ContainsFunc_uint64 (n : Nat) (x0 : D) : Out := run C n (.call 140 slices_ContainsFunc_uint64.sk [x0])
def math_bits_OnesCount64.sk : Sk := ⟨[(0, .d (.leaf (.int .u64)))], []⟩
def math_bits_OnesCount64.osk : Sk := ⟨[(0, .d (.leaf (.int .i64)))], []⟩
noncomputable def math_bits_OnesCount64 (n : Nat) (x0 : D) : Out := run C n (.call 108 math_bits_OnesCount64.sk [x0])
def bv_split.sk : Sk := ⟨[(0, .d ty_il1), (1, .d ty_il1)], []⟩
def bv_split.osk : Sk := ⟨[(0, .d ty_il1), (1, .d ty_il1)], []⟩
noncomputable def bv_split (n : Nat) (x0 x1 : D) : Out := run C n (.call 144 bv_split.sk [x0, x1])
def bv_signed.sk : Sk := ⟨[(0, .d ty_il1), (1, .d ty_il1)], []⟩
def bv_signed.osk : Sk := ⟨[(0, .d ty_il1), (1, .d ty_il1)], []⟩
noncomputable def bv_signed (n : Nat) (x0 x1 : D) : Out := run C n (.call 145 bv_signed.sk [x0, x1])
def bv_up.sk : Sk := ⟨[(0, .d ty_il1), (1, .d (.leaf (.int .i64)))], []⟩
def bv_up.osk : Sk := ⟨[(0, .agg [.d (.leaf (.int .i64)), .row 0])], [.row 128 1 0]⟩
noncomputable def bv_up (n : Nat) (x0 x1 : D) : Out := run C n (.call 146 bv_up.sk [x0, x1])
def bv_down.sk : Sk := ⟨[(0, .d ty_il1), (1, .d (.leaf (.int .i64))), (2, .d (.leaf .bool))], []⟩
def bv_down.osk : Sk := ⟨[(0, .d ty_il1)], []⟩
noncomputable def bv_down (n : Nat) (x0 x1 x2 : D) : Out := run C n (.call 147 bv_down.sk [x0, x1, x2])
def bv_negative.sk : Sk := ⟨[(0, .d ty_il1)], []⟩
def bv_negative.osk : Sk := ⟨[(0, .d (.leaf .bool))], []⟩
noncomputable def bv_negative (n : Nat) (x0 : D) : Out := run C n (.call 120 bv_negative.sk [x0])
def bv_less.sk : Sk := ⟨[(0, .d ty_il1), (1, .d ty_il1)], []⟩
def bv_less.osk : Sk := ⟨[(0, .d (.leaf .bool))], []⟩
noncomputable def bv_less (n : Nat) (x0 x1 : D) : Out := run C n (.call 148 bv_less.sk [x0, x1])
def bv_signedLess.sk : Sk := ⟨[(0, .d ty_il1), (1, .d ty_il1)], []⟩
def bv_signedLess.osk : Sk := ⟨[(0, .d (.leaf .bool))], []⟩
noncomputable def bv_signedLess (n : Nat) (x0 x1 : D) : Out := run C n (.call 149 bv_signedLess.sk [x0, x1])
def typed_Scope_with_1.sk : Sk := ⟨[(0, .d ty_siisibil4ibiiiiibil1l9), (1, .ptr 0 0)], [.var [.d (.leaf .str), .d (.leaf (.int .i64)), .d (.leaf (.int .i64)), .d (.leaf .str), .d (.leaf (.int .i64)), .d (.leaf .bool), .d (.leaf (.int .i64)), .d (.leaf (.lst 4)), .d (.leaf (.int .i64)), .d (.leaf .bool), .d (.leaf (.int .i64)), .d (.leaf (.int .i64)), .d (.leaf (.int .i64)), .d (.leaf (.int .i64)), .d (.leaf (.int .i64)), .d (.leaf .bool), .d (.leaf (.int .i64)), .d (.leaf (.lst 1)), .d (.leaf (.lst 9))]]⟩
def typed_Scope_with_1.osk : Sk := ⟨[(0, .d (.leaf .bool))], [.var [.d (.leaf .str), .d (.leaf (.int .i64)), .d (.leaf (.int .i64)), .d (.leaf .str), .d (.leaf (.int .i64)), .d (.leaf .bool), .d (.leaf (.int .i64)), .d (.leaf (.lst 4)), .d (.leaf (.int .i64)), .d (.leaf .bool), .d (.leaf (.int .i64)), .d (.leaf (.int .i64)), .d (.leaf (.int .i64)), .d (.leaf (.int .i64)), .d (.leaf (.int .i64)), .d (.leaf .bool), .d (.leaf (.int .i64)), .d (.leaf (.lst 1)), .d (.leaf (.lst 9))]]⟩
noncomputable def typed_Scope_with_1 (n : Nat) (x0 x1 x2 x3 x4 x5 x6 x7 x8 x9 x10 x11 x12 x13 x14 x15 x16 x17 x18 x19 : D) : Out := run C n (.call 94 typed_Scope_with_1.sk [x0, x1, x2, x3, x4, x5, x6, x7, x8, x9, x10, x11, x12, x13, x14, x15, x16, x17, x18, x19])
def typed_Scope_find_1.sk : Sk := ⟨[(0, .d ty_siisibil4ibiiiiibil1l9), (1, .ptr 0 0)], [.var [.d (.leaf .str)]]⟩
def typed_Scope_find_1.osk : Sk := ⟨[(0, .d (.leaf .bool))], [.var [.d (.leaf .str)]]⟩
noncomputable def typed_Scope_find_1 (n : Nat) (x0 x1 : D) : Out := run C n (.call 97 typed_Scope_find_1.sk [x0, x1])
def slices_IndexFunc_uint64.sk : Sk := ⟨[(0, .d (.leaf (.lst 1))), (1, .fn 141 [])], []⟩
def slices_IndexFunc_uint64.osk : Sk := ⟨[(0, .d (.leaf (.int .i64)))], []⟩
noncomputable def slices_IndexFunc_uint64 (n : Nat) (x0 : D) : Out := run C n (.call 176 slices_IndexFunc_uint64.sk [x0])
def bv_magnitude.sk : Sk := ⟨[(0, .d ty_il1)], []⟩
def bv_magnitude.osk : Sk := ⟨[(0, .d ty_il1)], []⟩
noncomputable def bv_magnitude (n : Nat) (x0 : D) : Out := run C n (.call 177 bv_magnitude.sk [x0])
def bv_Bin_1.sk : Sk := ⟨[(0, .d (.leaf (.int .u64))), (1, .d (.leaf (.int .u64)))], []⟩
def bv_Bin_1.osk : Sk := ⟨[(0, .d (.leaf (.int .u64)))], []⟩
noncomputable def bv_Bin_1 (n : Nat) (x0 x1 : D) : Out := run C n (.call 113 bv_Bin_1.sk [x0, x1])
def bv_Bin_2.sk : Sk := ⟨[(0, .d (.leaf (.int .u64))), (1, .d (.leaf (.int .u64)))], []⟩
def bv_Bin_2.osk : Sk := ⟨[(0, .d (.leaf (.int .u64)))], []⟩
noncomputable def bv_Bin_2 (n : Nat) (x0 x1 : D) : Out := run C n (.call 114 bv_Bin_2.sk [x0, x1])
def bv_Bin_3.sk : Sk := ⟨[(0, .d (.leaf (.int .u64))), (1, .d (.leaf (.int .u64)))], []⟩
def bv_Bin_3.osk : Sk := ⟨[(0, .d (.leaf (.int .u64)))], []⟩
noncomputable def bv_Bin_3 (n : Nat) (x0 x1 : D) : Out := run C n (.call 115 bv_Bin_3.sk [x0, x1])
def konst_Env_place_1.sk : Sk := ⟨[(0, .d ty_si), (1, .ptr 0 0)], [.var [.d (.leaf .str)]]⟩
def konst_Env_place_1.osk : Sk := ⟨[(0, .d (.leaf .bool))], [.var [.d (.leaf .str)]]⟩
noncomputable def konst_Env_place_1 (n : Nat) (x0 x1 : D) : Out := run C n (.call 99 konst_Env_place_1.sk [x0, x1])
def math_bits_Mul64.sk : Sk := ⟨[(0, .d (.leaf (.int .u64))), (1, .d (.leaf (.int .u64)))], []⟩
def math_bits_Mul64.osk : Sk := ⟨[(0, .d (.leaf (.int .u64))), (1, .d (.leaf (.int .u64)))], []⟩
noncomputable def math_bits_Mul64 (n : Nat) (x0 x1 : D) : Out := run C n (.call 143 math_bits_Mul64.sk [x0, x1])
def bv_any_1.sk : Sk := ⟨[(0, .d (.leaf (.int .u64)))], []⟩
def bv_any_1.osk : Sk := ⟨[(0, .d (.leaf .bool))], []⟩
noncomputable def bv_any_1 (n : Nat) (x0 : D) : Out := run C n (.call 141 bv_any_1.sk [x0])
def law12_TypedMakers_L0.sk : Sk := ⟨[(0, .d (.leaf (.lst 1))), (7, .d (.leaf (.lst 1))), (8, .ptr 0 0), (9, .ptr 1 0), (10, .ptr 2 0), (11, .d (.leaf (.int .i64))), (19, .d (.leaf (.int .i64)))], [.var [.d (.leaf (.int .i64)), .d (.leaf (.int .i64)), .d (.leaf (.int .i64)), .d (.leaf (.int .i64)), .d (.leaf (.int .i64)), .d (.leaf .bool), .d (.leaf (.int .i64)), .d (.leaf (.lst 1)), .d (.leaf (.lst 9))], .var [.d (.leaf (.int .i64)), .d (.leaf (.int .i64)), .d (.leaf (.int .i64)), .d (.leaf (.int .i64)), .d (.leaf (.int .i64)), .d (.leaf .bool), .d (.leaf (.int .i64)), .d (.leaf (.lst 1)), .d (.leaf (.lst 9))], .var [.d (.leaf (.lst 2)), .d (.leaf (.lst 5)), .d (.leaf (.lst 10))]]⟩
noncomputable def law12_TypedMakers_L0.body : Code := bodyAt C 4 0
noncomputable def law12_TypedMakers_L0 (n : Nat) (x0 x1 x2 x3 x4 x5 x6 x7 x8 x9 x10 x11 x12 x13 x14 x15 x16 x17 x18 x19 x20 x21 x22 x23 x24 : D) : Out := run C n (.loop 4 law12_TypedMakers.osk [] [] false 0 law12_TypedMakers_L0.body law12_TypedMakers_L0.sk [x0, x1, x2, x3, x4, x5, x6, x7, x8, x9, x10, x11, x12, x13, x14, x15, x16, x17, x18, x19, x20, x21, x22, x23, x24])
def law12_TypedMakers_L2.sk : Sk := ⟨[(0, .d (.leaf (.lst 1))), (7, .d (.leaf (.lst 1))), (8, .ptr 0 0), (9, .ptr 1 0), (10, .ptr 2 0), (11, .d (.leaf (.int .i64))), (23, .d (.leaf (.int .i64)))], [.var [.d (.leaf (.int .i64)), .d (.leaf (.int .i64)), .d (.leaf (.int .i64)), .d (.leaf (.int .i64)), .d (.leaf (.int .i64)), .d (.leaf .bool), .d (.leaf (.int .i64)), .d (.leaf (.lst 1)), .d (.leaf (.lst 9))], .var [.d (.leaf (.int .i64)), .d (.leaf (.int .i64)), .d (.leaf (.int .i64)), .d (.leaf (.int .i64)), .d (.leaf (.int .i64)), .d (.leaf .bool), .d (.leaf (.int .i64)), .d (.leaf (.lst 1)), .d (.leaf (.lst 9))], .var [.d (.leaf (.lst 2)), .d (.leaf (.lst 5)), .d (.leaf (.lst 10))]]⟩
noncomputable def law12_TypedMakers_L2.body : Code := bodyAt C 4 2
noncomputable def law12_TypedMakers_L2 (n : Nat) (x0 x1 x2 x3 x4 x5 x6 x7 x8 x9 x10 x11 x12 x13 x14 x15 x16 x17 x18 x19 x20 x21 x22 x23 x24 : D) : Out := run C n (.loop 4 law12_TypedMakers.osk [] [] false 2 law12_TypedMakers_L2.body law12_TypedMakers_L2.sk [x0, x1, x2, x3, x4, x5, x6, x7, x8, x9, x10, x11, x12, x13, x14, x15, x16, x17, x18, x19, x20, x21, x22, x23, x24])
def ref01_Ext_L0.sk : Sk := ⟨[(0, .d (.leaf (.lst 1))), (1, .d (.leaf (.int .i64))), (2, .d (.leaf .bool)), (8, .row 0), (9, .d (.leaf (.int .i64)))], [.row 4 1 0]⟩
noncomputable def ref01_Ext_L0.body : Code := bodyAt C 17 0
noncomputable def ref01_Ext_L0 (n : Nat) (x0 x1 x2 x3 x4 : D) : Out := run C n (.loop 17 ref01_Ext.osk [] [] false 0 ref01_Ext_L0.body ref01_Ext_L0.sk [x0, x1, x2, x3, x4])
def typed_Eval_L0.sk : Sk := ⟨[(1, .d (.leaf .any)), (2, .ptr 0 0), (4, .ptr 1 0), (5, .row 2), (13, .d (.leaf (.lst 9))), (14, .d (.leaf (.int .i64))), (15, .d (.leaf (.int .i64)))], [.var [.d (.leaf (.int .i64)), .d (.leaf (.int .i64)), .d (.leaf (.int .i64)), .d (.leaf (.int .i64)), .d (.leaf (.int .i64)), .d (.leaf .bool), .d (.leaf (.int .i64)), .d (.leaf (.lst 1)), .d (.leaf (.lst 9))], .var [.d (.leaf (.int .i64)), .row 3], .row 40 2 0, .row 128 1 0]⟩
noncomputable def typed_Eval_L0.body : Code := bodyAt C 19 0
noncomputable def typed_Eval_L0 (n : Nat) (x0 x1 x2 x3 x4 x5 x6 x7 x8 x9 x10 x11 x12 x13 x14 x15 : D) : Out := run C n (.loop 19 typed_Eval.osk [] [] false 0 typed_Eval_L0.body typed_Eval_L0.sk [x0, x1, x2, x3, x4, x5, x6, x7, x8, x9, x10, x11, x12, x13, x14, x15])
def law01_Is_L0.sk : Sk := ⟨[(1, .d (.leaf (.lst 1))), (2, .ptr 0 0), (39, .row 1), (40, .d (.leaf (.int .i64))), (41, .d (.leaf (.int .i64)))], [.var [.d (.leaf (.int .i64)), .d (.leaf (.lst 1))], .row 4 1 0]⟩
noncomputable def law01_Is_L0.body : Code := bodyAt C 18 0
noncomputable def law01_Is_L0 (n : Nat) (x0 x1 x2 x3 x4 x5 : D) : Out := run C n (.loop 18 law01_Is.osk [] [] false 0 law01_Is_L0.body law01_Is_L0.sk [x0, x1, x2, x3, x4, x5])
def law01_Is_L2.sk : Sk := ⟨[(1, .d (.leaf (.lst 1))), (2, .ptr 0 0), (64, .row 1), (65, .d (.leaf (.int .i64))), (66, .d (.leaf (.int .i64)))], [.var [.d (.leaf (.int .i64)), .d (.leaf (.lst 1))], .row 128 1 0]⟩
noncomputable def law01_Is_L2.body : Code := bodyAt C 18 2
noncomputable def law01_Is_L2 (n : Nat) (x0 x1 x2 x3 x4 x5 : D) : Out := run C n (.loop 18 law01_Is.osk [] [] false 2 law01_Is_L2.body law01_Is_L2.sk [x0, x1, x2, x3, x4, x5])
def ref01_Any_L0.sk : Sk := ⟨[(0, .d (.leaf (.lst 1))), (3, .d (.leaf (.int .i64)))], []⟩
noncomputable def ref01_Any_L0.body : Code := bodyAt C 29 0
noncomputable def ref01_Any_L0 (n : Nat) (x0 x1 : D) : Out := run C n (.loop 29 ref01_Any.osk [] [] false 0 ref01_Any_L0.body ref01_Any_L0.sk [x0, x1])
def bv_Of_L0.sk : Sk := ⟨[(2, .ptr 0 0), (4, .ptr 1 0), (15, .d (.leaf (.lst 1))), (16, .d (.leaf (.int .i64))), (17, .d (.leaf (.int .i64)))], [.var [.d (.leaf (.int .i64)), .row 2], .var [.d (.leaf (.int .i64)), .row 3], .row 128 1 0, .row 128 1 0]⟩
noncomputable def bv_Of_L0.body : Code := bodyAt C 50 0
noncomputable def bv_Of_L0 (n : Nat) (x0 x1 x2 x3 x4 x5 x6 : D) : Out := run C n (.loop 50 bv_Of.osk [] [] false 0 bv_Of_L0.body bv_Of_L0.sk [x0, x1, x2, x3, x4, x5, x6])
def bv_Vec_Num_L0.sk : Sk := ⟨[(1, .d (.leaf (.int .i64))), (2, .ptr 0 0), (10, .d (.leaf (.lst 1))), (11, .d (.leaf (.int .i64))), (12, .d (.leaf (.int .i64)))], [.var [.d (.leaf (.int .i64)), .d (.leaf (.lst 1))]]⟩
noncomputable def bv_Vec_Num_L0.body : Code := bodyAt C 57 0
noncomputable def bv_Vec_Num_L0 (n : Nat) (x0 x1 x2 x3 x4 x5 : D) : Out := run C n (.loop 57 bv_Vec_Num.osk [] [] false 0 bv_Vec_Num_L0.body bv_Vec_Num_L0.sk [x0, x1, x2, x3, x4, x5])
def bv_Vec_Text_L0.sk : Sk := ⟨[(1, .ptr 0 0), (3, .row 1), (9, .d (.leaf (.int .i64))), (10, .d (.leaf (.int .i64)))], [.var [.d (.leaf (.int .i64)), .d (.leaf (.lst 1))], .row 5 1 0]⟩
noncomputable def bv_Vec_Text_L0.body : Code := bodyAt C 52 0
noncomputable def bv_Vec_Text_L0 (n : Nat) (x0 x1 x2 x3 x4 : D) : Out := run C n (.loop 52 bv_Vec_Text.osk [] [] false 0 bv_Vec_Text_L0.body bv_Vec_Text_L0.sk [x0, x1, x2, x3, x4])
def ref01_Text_L0.sk : Sk := ⟨[(0, .d (.leaf (.lst 1))), (3, .d (.leaf .str)), (4, .d (.leaf (.int .i64)))], []⟩
noncomputable def ref01_Text_L0.body : Code := bodyAt C 53 0
noncomputable def ref01_Text_L0 (n : Nat) (x0 x1 x2 : D) : Out := run C n (.loop 53 ref01_Text.osk [] [] false 0 ref01_Text_L0.body ref01_Text_L0.sk [x0, x1, x2])
def bv_Vec_Bits_L0.sk : Sk := ⟨[(1, .ptr 0 0), (3, .row 1), (9, .d (.leaf (.int .i64))), (10, .d (.leaf (.int .i64)))], [.var [.d (.leaf (.int .i64)), .d (.leaf (.lst 1))], .row 4 1 0]⟩
noncomputable def bv_Vec_Bits_L0.body : Code := bodyAt C 54 0
noncomputable def bv_Vec_Bits_L0 (n : Nat) (x0 x1 x2 x3 x4 : D) : Out := run C n (.loop 54 bv_Vec_Bits.osk [] [] false 0 bv_Vec_Bits_L0.body bv_Vec_Bits_L0.sk [x0, x1, x2, x3, x4])
def ref01_Words_L0.sk : Sk := ⟨[(0, .d (.leaf (.lst 1))), (3, .row 0), (4, .d (.leaf (.int .i64)))], [.row 128 1 0]⟩
noncomputable def ref01_Words_L0.body : Code := bodyAt C 56 0
noncomputable def ref01_Words_L0 (n : Nat) (x0 x1 x2 : D) : Out := run C n (.loop 56 ref01_Words.osk [] [] false 0 ref01_Words_L0.body ref01_Words_L0.sk [x0, x1, x2])
def ref01_Un_L0.sk : Sk := ⟨[(0, .d (.leaf (.int .i64))), (1, .d (.leaf (.lst 1))), (6, .d (.leaf .bool)), (7, .d (.leaf (.int .i64)))], []⟩
noncomputable def ref01_Un_L0.body : Code := bodyAt C 22 0
noncomputable def ref01_Un_L0 (n : Nat) (x0 x1 x2 x3 : D) : Out := run C n (.loop 22 ref01_Un.osk [] [] false 0 ref01_Un_L0.body ref01_Un_L0.sk [x0, x1, x2, x3])
def ref01_Bin_L1.sk : Sk := ⟨[(0, .d (.leaf (.int .i64))), (1, .d (.leaf (.lst 1))), (2, .d (.leaf (.lst 1))), (8, .row 0), (20, .d (.leaf (.int .i64)))], [.row 4 1 0]⟩
noncomputable def ref01_Bin_L1.body : Code := bodyAt C 26 1
noncomputable def ref01_Bin_L1 (n : Nat) (x0 x1 x2 x3 x4 : D) : Out := run C n (.loop 26 ref01_Bin.osk [] [] false 1 ref01_Bin_L1.body ref01_Bin_L1.sk [x0, x1, x2, x3, x4])
def typed_Scope_plain_L0.sk : Sk := ⟨[(2, .ptr 0 0), (3, .ptr 1 0), (7, .d (.leaf (.lst 19))), (8, .d (.leaf (.int .i64))), (9, .d (.leaf (.int .i64)))], [.var [.d (.leaf (.lst 2))], .var [.d (.leaf (.lst 2))]]⟩
noncomputable def typed_Scope_plain_L0.body : Code := bodyAt C 46 0
noncomputable def typed_Scope_plain_L0 (n : Nat) (x0 x1 x2 x3 x4 : D) : Out := run C n (.loop 46 typed_Scope_plain.osk [] [] false 0 typed_Scope_plain_L0.body typed_Scope_plain_L0.sk [x0, x1, x2, x3, x4])
def slices_DeleteFunc_thing_L0.sk : Sk := ⟨[(0, .row 1), (1, .fn 77 [.ptr 0 0]), (5, .d (.leaf (.int .i64))), (6, .d (.leaf (.int .i64)))], [.var [.d (.leaf (.int .i64))], .row 115 19 0]⟩
noncomputable def slices_DeleteFunc_thing_L0.body : Code := bodyAt C 75 0
noncomputable def slices_DeleteFunc_thing_L0 (n : Nat) (x0 x1 x2 x3 : D) : Out := run C n (.loop 75 slices_DeleteFunc_thing.osk [(0, 0)] [] false 0 slices_DeleteFunc_thing_L0.body slices_DeleteFunc_thing_L0.sk [x0, x1, x2, x3])
def bv_Slice_L0.sk : Sk := ⟨[(1, .d (.leaf (.int .i64))), (3, .ptr 0 0), (6, .ptr 1 0), (8, .ptr 2 0), (33, .d (.leaf (.int .i64))), (34, .d (.leaf (.int .i64)))], [.var [.d (.leaf (.int .i64)), .d (.leaf (.lst 1))], .var [.d (.leaf (.int .i64)), .row 3], .var [.d (.leaf (.int .i64)), .row 4], .row 128 1 0, .row 128 1 0]⟩
noncomputable def bv_Slice_L0.body : Code := bodyAt C 61 0
noncomputable def bv_Slice_L0 (n : Nat) (x0 x1 x2 x3 x4 x5 x6 x7 x8 : D) : Out := run C n (.loop 61 bv_Slice.osk [] [] false 0 bv_Slice_L0.body bv_Slice_L0.sk [x0, x1, x2, x3, x4, x5, x6, x7, x8])
def bv_Un_L2.sk : Sk := ⟨[(4, .ptr 0 0), (6, .d (.leaf (.int .i64))), (50, .d (.leaf (.lst 1))), (51, .d (.leaf (.int .i64))), (52, .d (.leaf (.int .i64)))], [.var [.d (.leaf (.int .i64)), .row 1], .row 128 1 0]⟩
noncomputable def bv_Un_L2.body : Code := bodyAt C 62 2
noncomputable def bv_Un_L2 (n : Nat) (x0 x1 x2 x3 x4 x5 : D) : Out := run C n (.loop 62 bv_Un.osk [] [] false 2 bv_Un_L2.body bv_Un_L2.sk [x0, x1, x2, x3, x4, x5])
def bv_Ext_L0.sk : Sk := ⟨[(2, .d (.leaf .bool)), (3, .ptr 0 0), (6, .ptr 1 0), (8, .ptr 2 0), (21, .d (.leaf (.int .i64))), (22, .d (.leaf (.int .i64)))], [.var [.d (.leaf (.int .i64)), .d (.leaf (.lst 1))], .var [.d (.leaf (.int .i64)), .row 3], .var [.d (.leaf (.int .i64)), .row 4], .row 128 1 0, .row 128 1 0]⟩
noncomputable def bv_Ext_L0.body : Code := bodyAt C 66 0
noncomputable def bv_Ext_L0 (n : Nat) (x0 x1 x2 x3 x4 x5 x6 x7 x8 : D) : Out := run C n (.loop 66 bv_Ext.osk [] [] false 0 bv_Ext_L0.body bv_Ext_L0.sk [x0, x1, x2, x3, x4, x5, x6, x7, x8])
def ref01_Not_L0.sk : Sk := ⟨[(0, .d (.leaf (.lst 1))), (3, .row 0), (4, .d (.leaf (.int .i64)))], [.row 4 1 0]⟩
noncomputable def ref01_Not_L0.body : Code := bodyAt C 39 0
noncomputable def ref01_Not_L0 (n : Nat) (x0 x1 x2 : D) : Out := run C n (.loop 39 ref01_Not.osk [] [] false 0 ref01_Not_L0.body ref01_Not_L0.sk [x0, x1, x2])
def slices_Equal_uint64_L0.sk : Sk := ⟨[(0, .d (.leaf (.lst 1))), (1, .d (.leaf (.lst 1))), (12, .d (.leaf (.int .i64))), (13, .d (.leaf (.int .i64)))], []⟩
noncomputable def slices_Equal_uint64_L0.body : Code := bodyAt C 60 0
noncomputable def slices_Equal_uint64_L0 (n : Nat) (x0 x1 x2 x3 : D) : Out := run C n (.loop 60 slices_Equal_uint64.osk [] [] false 0 slices_Equal_uint64_L0.body slices_Equal_uint64_L0.sk [x0, x1, x2, x3])
def ref01_Num_L0.sk : Sk := ⟨[(0, .d (.leaf (.lst 1))), (1, .d (.leaf (.int .i64))), (5, .d (.leaf (.int .i64))), (6, .d (.leaf (.int .i64)))], []⟩
noncomputable def ref01_Num_L0.body : Code := bodyAt C 67 0
noncomputable def ref01_Num_L0 (n : Nat) (x0 x1 x2 x3 : D) : Out := run C n (.loop 67 ref01_Num.osk [] [] false 0 ref01_Num_L0.body ref01_Num_L0.sk [x0, x1, x2, x3])
def ref01_Plus_L0.sk : Sk := ⟨[(0, .d (.leaf (.lst 1))), (1, .d (.leaf (.lst 1))), (2, .d (.leaf .bool)), (7, .row 0), (8, .d (.leaf (.int .i64)))], [.row 4 1 0]⟩
noncomputable def ref01_Plus_L0.body : Code := bodyAt C 68 0
noncomputable def ref01_Plus_L0 (n : Nat) (x0 x1 x2 x3 x4 : D) : Out := run C n (.loop 68 ref01_Plus.osk [] [] false 0 ref01_Plus_L0.body ref01_Plus_L0.sk [x0, x1, x2, x3, x4])
def ref01_times_L0.sk : Sk := ⟨[(0, .d (.leaf (.lst 1))), (1, .d (.leaf (.lst 1))), (5, .row 0), (6, .d (.leaf (.int .i64)))], [.row 4 1 0]⟩
noncomputable def ref01_times_L0.body : Code := bodyAt C 69 0
noncomputable def ref01_times_L0 (n : Nat) (x0 x1 x2 x3 : D) : Out := run C n (.loop 69 ref01_times.osk [] [] false 0 ref01_times_L0.body ref01_times_L0.sk [x0, x1, x2, x3])
def ref01_split_L0.sk : Sk := ⟨[(0, .d (.leaf (.lst 1))), (6, .row 0), (7, .row 1), (8, .row 2), (9, .d (.leaf (.int .i64)))], [.row 4 1 0, .row 4 1 0, .row 4 1 0]⟩
noncomputable def ref01_split_L0.body : Code := bodyAt C 70 0
noncomputable def ref01_split_L0 (n : Nat) (x0 x1 x2 x3 x4 : D) : Out := run C n (.loop 70 ref01_split.osk [] [] false 0 ref01_split_L0.body ref01_split_L0.sk [x0, x1, x2, x3, x4])
def ref01_Move_L0.sk : Sk := ⟨[(0, .d (.leaf (.lst 1))), (1, .d (.leaf (.int .i64))), (2, .d (.leaf .bool)), (7, .row 0), (8, .d (.leaf (.int .i64)))], [.row 4 1 0]⟩
noncomputable def ref01_Move_L0.body : Code := bodyAt C 72 0
noncomputable def ref01_Move_L0 (n : Nat) (x0 x1 x2 x3 x4 : D) : Out := run C n (.loop 72 ref01_Move.osk [] [] false 0 ref01_Move_L0.body ref01_Move_L0.sk [x0, x1, x2, x3, x4])
def ref01_Equal_L0.sk : Sk := ⟨[(0, .d (.leaf (.lst 1))), (1, .d (.leaf (.lst 1))), (5, .d (.leaf (.int .i64)))], []⟩
noncomputable def ref01_Equal_L0.body : Code := bodyAt C 73 0
noncomputable def ref01_Equal_L0 (n : Nat) (x0 x1 x2 : D) : Out := run C n (.loop 73 ref01_Equal.osk [] [] false 0 ref01_Equal_L0.body ref01_Equal_L0.sk [x0, x1, x2])
def ref01_Less_L0.sk : Sk := ⟨[(0, .d (.leaf (.lst 1))), (1, .d (.leaf (.lst 1))), (5, .d (.leaf (.int .i64)))], []⟩
noncomputable def ref01_Less_L0.body : Code := bodyAt C 74 0
noncomputable def ref01_Less_L0 (n : Nat) (x0 x1 x2 : D) : Out := run C n (.loop 74 ref01_Less.osk [] [] false 0 ref01_Less_L0.body ref01_Less_L0.sk [x0, x1, x2])
def slices_DeleteFunc_thing_2_L0.sk : Sk := ⟨[(0, .row 1), (1, .fn 94 [.ptr 0 0]), (5, .d (.leaf (.int .i64))), (6, .d (.leaf (.int .i64)))], [.var [.d (.leaf .str), .d (.leaf (.int .i64)), .d (.leaf (.int .i64)), .d (.leaf .str), .d (.leaf (.int .i64)), .d (.leaf .bool), .d (.leaf (.int .i64)), .d (.leaf (.lst 4)), .d (.leaf (.int .i64)), .d (.leaf .bool), .d (.leaf (.int .i64)), .d (.leaf (.int .i64)), .d (.leaf (.int .i64)), .d (.leaf (.int .i64)), .d (.leaf (.int .i64)), .d (.leaf .bool), .d (.leaf (.int .i64)), .d (.leaf (.lst 1)), .d (.leaf (.lst 9))], .row 115 19 0]⟩
noncomputable def slices_DeleteFunc_thing_2_L0.body : Code := bodyAt C 75 0
noncomputable def slices_DeleteFunc_thing_2_L0 (n : Nat) (x0 x1 x2 x3 x4 x5 x6 x7 x8 x9 x10 x11 x12 x13 x14 x15 x16 x17 x18 x19 x20 x21 : D) : Out := run C n (.loop 75 slices_DeleteFunc_thing_2.osk [(0, 0)] [] false 0 slices_DeleteFunc_thing_2_L0.body slices_DeleteFunc_thing_2_L0.sk [x0, x1, x2, x3, x4, x5, x6, x7, x8, x9, x10, x11, x12, x13, x14, x15, x16, x17, x18, x19, x20, x21])
def slices_IndexFunc_thing_L0.sk : Sk := ⟨[(0, .d (.leaf (.lst 19))), (1, .fn 97 [.ptr 0 0]), (7, .d (.leaf (.int .i64))), (8, .d (.leaf (.int .i64)))], [.var [.d (.leaf .str)]]⟩
noncomputable def slices_IndexFunc_thing_L0.body : Code := bodyAt C 96 0
noncomputable def slices_IndexFunc_thing_L0 (n : Nat) (x0 x1 x2 x3 : D) : Out := run C n (.loop 96 slices_IndexFunc_thing.osk [(0, 0)] [] false 0 slices_IndexFunc_thing_L0.body slices_IndexFunc_thing_L0.sk [x0, x1, x2, x3])
def slices_IndexFunc_thing_2_L0.sk : Sk := ⟨[(0, .row 0), (1, .fn 77 [.ptr 1 0]), (7, .d (.leaf (.int .i64))), (8, .d (.leaf (.int .i64)))], [.row 115 19 0, .var [.d (.leaf (.int .i64))]]⟩
noncomputable def slices_IndexFunc_thing_2_L0.body : Code := bodyAt C 96 0
noncomputable def slices_IndexFunc_thing_2_L0 (n : Nat) (x0 x1 x2 x3 : D) : Out := run C n (.loop 96 slices_IndexFunc_thing_2.osk [(0, 0), (1, 1)] [] false 0 slices_IndexFunc_thing_2_L0.body slices_IndexFunc_thing_2_L0.sk [x0, x1, x2, x3])
def bv_not_L0.sk : Sk := ⟨[(2, .ptr 0 0), (3, .ptr 1 0), (10, .d (.leaf (.lst 1))), (11, .d (.leaf (.int .i64))), (12, .d (.leaf (.int .i64)))], [.var [.d (.leaf (.int .i64)), .row 2], .var [.d (.leaf (.int .i64)), .row 3], .row 128 1 0, .row 128 1 0]⟩
noncomputable def bv_not_L0.body : Code := bodyAt C 104 0
noncomputable def bv_not_L0 (n : Nat) (x0 x1 x2 x3 x4 x5 x6 : D) : Out := run C n (.loop 104 bv_not.osk [] [] false 0 bv_not_L0.body bv_not_L0.sk [x0, x1, x2, x3, x4, x5, x6])
def bv_plus_L0.sk : Sk := ⟨[(2, .d (.leaf (.int .u64))), (3, .ptr 0 0), (4, .ptr 1 0), (6, .ptr 2 0), (7, .ptr 3 0), (14, .d (.leaf (.int .i64))), (15, .d (.leaf (.int .i64)))], [.var [.d (.leaf (.int .i64)), .d (.leaf (.lst 1))], .var [.d (.leaf (.int .i64)), .d (.leaf (.lst 1))], .var [.d (.leaf (.int .i64)), .row 4], .var [.d (.leaf (.int .i64)), .row 5], .row 128 1 0, .row 128 1 0]⟩
noncomputable def bv_plus_L0.body : Code := bodyAt C 109 0
noncomputable def bv_plus_L0 (n : Nat) (x0 x1 x2 x3 x4 x5 x6 x7 x8 x9 x10 : D) : Out := run C n (.loop 109 bv_plus.osk [] [] false 0 bv_plus_L0.body bv_plus_L0.sk [x0, x1, x2, x3, x4, x5, x6, x7, x8, x9, x10])
def bv_times_L0.sk : Sk := ⟨[(2, .ptr 0 0), (3, .ptr 1 0), (4, .ptr 2 0), (5, .ptr 3 0), (17, .d (.leaf (.int .i64))), (18, .d (.leaf (.int .i64)))], [.var [.d (.leaf (.int .i64)), .d (.leaf (.lst 1))], .var [.d (.leaf (.int .i64)), .d (.leaf (.lst 1))], .var [.d (.leaf (.int .i64)), .row 4], .var [.d (.leaf (.int .i64)), .row 5], .row 128 1 0, .row 128 1 0]⟩
noncomputable def bv_times_L0.body : Code := bodyAt C 110 0
noncomputable def bv_times_L0 (n : Nat) (x0 x1 x2 x3 x4 x5 x6 x7 x8 x9 : D) : Out := run C n (.loop 110 bv_times.osk [] [] false 0 bv_times_L0.body bv_times_L0.sk [x0, x1, x2, x3, x4, x5, x6, x7, x8, x9])
def bv_bitwise_L0.sk : Sk := ⟨[(2, .fn 113 []), (3, .ptr 0 0), (4, .ptr 1 0), (6, .ptr 2 0), (7, .ptr 3 0), (14, .d (.leaf (.int .i64))), (15, .d (.leaf (.int .i64)))], [.var [.d (.leaf (.int .i64)), .d (.leaf (.lst 1))], .var [.d (.leaf (.int .i64)), .d (.leaf (.lst 1))], .var [.d (.leaf (.int .i64)), .row 4], .var [.d (.leaf (.int .i64)), .row 5], .row 128 1 0, .row 128 1 0]⟩
noncomputable def bv_bitwise_L0.body : Code := bodyAt C 112 0
noncomputable def bv_bitwise_L0 (n : Nat) (x0 x1 x2 x3 x4 x5 x6 x7 x8 x9 : D) : Out := run C n (.loop 112 bv_bitwise.osk [] [] false 0 bv_bitwise_L0.body bv_bitwise_L0.sk [x0, x1, x2, x3, x4, x5, x6, x7, x8, x9])
def bv_bitwise_2_L0.sk : Sk := ⟨[(2, .fn 114 []), (3, .ptr 0 0), (4, .ptr 1 0), (6, .ptr 2 0), (7, .ptr 3 0), (14, .d (.leaf (.int .i64))), (15, .d (.leaf (.int .i64)))], [.var [.d (.leaf (.int .i64)), .d (.leaf (.lst 1))], .var [.d (.leaf (.int .i64)), .d (.leaf (.lst 1))], .var [.d (.leaf (.int .i64)), .row 4], .var [.d (.leaf (.int .i64)), .row 5], .row 128 1 0, .row 128 1 0]⟩
noncomputable def bv_bitwise_2_L0.body : Code := bodyAt C 112 0
noncomputable def bv_bitwise_2_L0 (n : Nat) (x0 x1 x2 x3 x4 x5 x6 x7 x8 x9 : D) : Out := run C n (.loop 112 bv_bitwise_2.osk [] [] false 0 bv_bitwise_2_L0.body bv_bitwise_2_L0.sk [x0, x1, x2, x3, x4, x5, x6, x7, x8, x9])
def bv_bitwise_3_L0.sk : Sk := ⟨[(2, .fn 115 []), (3, .ptr 0 0), (4, .ptr 1 0), (6, .ptr 2 0), (7, .ptr 3 0), (14, .d (.leaf (.int .i64))), (15, .d (.leaf (.int .i64)))], [.var [.d (.leaf (.int .i64)), .d (.leaf (.lst 1))], .var [.d (.leaf (.int .i64)), .d (.leaf (.lst 1))], .var [.d (.leaf (.int .i64)), .row 4], .var [.d (.leaf (.int .i64)), .row 5], .row 128 1 0, .row 128 1 0]⟩
noncomputable def bv_bitwise_3_L0.body : Code := bodyAt C 112 0
noncomputable def bv_bitwise_3_L0 (n : Nat) (x0 x1 x2 x3 x4 x5 x6 x7 x8 x9 : D) : Out := run C n (.loop 112 bv_bitwise_3.osk [] [] false 0 bv_bitwise_3_L0.body bv_bitwise_3_L0.sk [x0, x1, x2, x3, x4, x5, x6, x7, x8, x9])
def slices_Index_bool_L0.sk : Sk := ⟨[(0, .d (.leaf (.lst 1))), (1, .d (.leaf .bool)), (7, .d (.leaf (.int .i64))), (8, .d (.leaf (.int .i64)))], []⟩
noncomputable def slices_Index_bool_L0.body : Code := bodyAt C 118 0
noncomputable def slices_Index_bool_L0 (n : Nat) (x0 x1 x2 x3 : D) : Out := run C n (.loop 118 slices_Index_bool.osk [] [] false 0 slices_Index_bool_L0.body slices_Index_bool_L0.sk [x0, x1, x2, x3])
def slices_IndexFunc_thing_3_L0.sk : Sk := ⟨[(0, .row 0), (1, .fn 94 [.ptr 1 0]), (7, .d (.leaf (.int .i64))), (8, .d (.leaf (.int .i64)))], [.row 115 19 0, .var [.d (.leaf .str), .d (.leaf (.int .i64)), .d (.leaf (.int .i64)), .d (.leaf .str), .d (.leaf (.int .i64)), .d (.leaf .bool), .d (.leaf (.int .i64)), .d (.leaf (.lst 4)), .d (.leaf (.int .i64)), .d (.leaf .bool), .d (.leaf (.int .i64)), .d (.leaf (.int .i64)), .d (.leaf (.int .i64)), .d (.leaf (.int .i64)), .d (.leaf (.int .i64)), .d (.leaf .bool), .d (.leaf (.int .i64)), .d (.leaf (.lst 1)), .d (.leaf (.lst 9))]]⟩
noncomputable def slices_IndexFunc_thing_3_L0.body : Code := bodyAt C 96 0
noncomputable def slices_IndexFunc_thing_3_L0 (n : Nat) (x0 x1 x2 x3 x4 x5 x6 x7 x8 x9 x10 x11 x12 x13 x14 x15 x16 x17 x18 x19 x20 x21 : D) : Out := run C n (.loop 96 slices_IndexFunc_thing_3.osk [(0, 0), (1, 1)] [] false 0 slices_IndexFunc_thing_3_L0.body slices_IndexFunc_thing_3_L0.sk [x0, x1, x2, x3, x4, x5, x6, x7, x8, x9, x10, x11, x12, x13, x14, x15, x16, x17, x18, x19, x20, x21])
def slices_IndexFunc_named_L0.sk : Sk := ⟨[(0, .d (.leaf (.lst 2))), (1, .fn 99 [.ptr 0 0]), (7, .d (.leaf (.int .i64))), (8, .d (.leaf (.int .i64)))], [.var [.d (.leaf .str)]]⟩
noncomputable def slices_IndexFunc_named_L0.body : Code := bodyAt C 98 0
noncomputable def slices_IndexFunc_named_L0 (n : Nat) (x0 x1 x2 x3 : D) : Out := run C n (.loop 98 slices_IndexFunc_named.osk [(0, 0)] [] false 0 slices_IndexFunc_named_L0.body slices_IndexFunc_named_L0.sk [x0, x1, x2, x3])
def bv_times_L2.sk : Sk := ⟨[(2, .ptr 0 0), (3, .ptr 1 0), (4, .ptr 2 0), (5, .ptr 3 0), (6, .d (.leaf (.int .i64))), (7, .d (.leaf (.int .u64))), (8, .d (.leaf (.int .i64))), (17, .d (.leaf (.int .i64))), (18, .d (.leaf (.int .i64)))], [.var [.d (.leaf (.int .i64)), .d (.leaf (.lst 1))], .var [.d (.leaf (.int .i64)), .d (.leaf (.lst 1))], .var [.d (.leaf (.int .i64)), .row 4], .var [.d (.leaf (.int .i64)), .row 5], .row 128 1 0, .row 128 1 0]⟩
noncomputable def bv_times_L2.body : Code := bodyAt C 110 2
noncomputable def bv_times_L2 (n : Nat) (x0 x1 x2 x3 x4 x5 x6 x7 x8 x9 x10 x11 x12 : D) : Out := run C n (.loop 110 bv_times.osk [] [] false 2 bv_times_L2.body bv_times_L2.sk [x0, x1, x2, x3, x4, x5, x6, x7, x8, x9, x10, x11, x12])
def bv_split_L0.sk : Sk := ⟨[(2, .ptr 0 0), (3, .ptr 1 0), (4, .ptr 2 0), (5, .ptr 3 0), (6, .ptr 4 0), (7, .ptr 5 0), (8, .d (.leaf (.int .i64)))], [.var [.d (.leaf (.int .i64)), .d (.leaf (.lst 1))], .var [.d (.leaf (.int .i64)), .d (.leaf (.lst 1))], .var [.d (.leaf (.int .i64)), .row 6], .var [.d (.leaf (.int .i64)), .row 7], .var [.d (.leaf (.int .i64)), .row 8], .var [.d (.leaf (.int .i64)), .row 9], .row 128 1 0, .row 128 1 0, .row 128 1 0, .row 128 1 0]⟩
noncomputable def bv_split_L0.body : Code := bodyAt C 144 0
noncomputable def bv_split_L0 (n : Nat) (x0 x1 x2 x3 x4 x5 x6 x7 x8 x9 x10 x11 x12 : D) : Out := run C n (.loop 144 bv_split.osk [] [] false 0 bv_split_L0.body bv_split_L0.sk [x0, x1, x2, x3, x4, x5, x6, x7, x8, x9, x10, x11, x12])
def bv_up_L0.sk : Sk := ⟨[(1, .d (.leaf (.int .i64))), (2, .ptr 0 0), (4, .ptr 1 0), (5, .ptr 2 0), (6, .d (.leaf (.int .i64)))], [.var [.d (.leaf (.int .i64)), .d (.leaf (.lst 1))], .var [.d (.leaf (.int .i64)), .row 3], .var [.d (.leaf (.int .i64)), .row 4], .row 128 1 0, .row 128 1 0]⟩
noncomputable def bv_up_L0.body : Code := bodyAt C 146 0
noncomputable def bv_up_L0 (n : Nat) (x0 x1 x2 x3 x4 x5 x6 x7 : D) : Out := run C n (.loop 146 bv_up.osk [] [] false 0 bv_up_L0.body bv_up_L0.sk [x0, x1, x2, x3, x4, x5, x6, x7])
def bv_down_L0.sk : Sk := ⟨[(1, .d (.leaf (.int .i64))), (2, .d (.leaf .bool)), (3, .ptr 0 0), (6, .ptr 1 0), (7, .ptr 2 0), (13, .d (.leaf (.int .i64))), (14, .d (.leaf (.int .i64)))], [.var [.d (.leaf (.int .i64)), .d (.leaf (.lst 1))], .var [.d (.leaf (.int .i64)), .row 3], .var [.d (.leaf (.int .i64)), .row 4], .row 128 1 0, .row 128 1 0]⟩
noncomputable def bv_down_L0.body : Code := bodyAt C 147 0
noncomputable def bv_down_L0 (n : Nat) (x0 x1 x2 x3 x4 x5 x6 x7 x8 x9 : D) : Out := run C n (.loop 147 bv_down.osk [] [] false 0 bv_down_L0.body bv_down_L0.sk [x0, x1, x2, x3, x4, x5, x6, x7, x8, x9])
def bv_less_L0.sk : Sk := ⟨[(2, .ptr 0 0), (3, .ptr 1 0), (5, .d (.leaf (.int .i64)))], [.var [.d (.leaf (.int .i64)), .d (.leaf (.lst 1))], .var [.d (.leaf (.int .i64)), .d (.leaf (.lst 1))]]⟩
noncomputable def bv_less_L0.body : Code := bodyAt C 148 0
noncomputable def bv_less_L0 (n : Nat) (x0 x1 x2 x3 x4 : D) : Out := run C n (.loop 148 bv_less.osk [] [] false 0 bv_less_L0.body bv_less_L0.sk [x0, x1, x2, x3, x4])
def slices_IndexFunc_uint64_L0.sk : Sk := ⟨[(0, .d (.leaf (.lst 1))), (1, .fn 141 []), (7, .d (.leaf (.int .i64))), (8, .d (.leaf (.int .i64)))], []⟩
noncomputable def slices_IndexFunc_uint64_L0.body : Code := bodyAt C 176 0
noncomputable def slices_IndexFunc_uint64_L0 (n : Nat) (x0 x1 x2 : D) : Out := run C n (.loop 176 slices_IndexFunc_uint64.osk [] [] false 0 slices_IndexFunc_uint64_L0.body slices_IndexFunc_uint64_L0.sk [x0, x1, x2])
end Go.Proofs.YthlhbocobgkdmaaGreat
