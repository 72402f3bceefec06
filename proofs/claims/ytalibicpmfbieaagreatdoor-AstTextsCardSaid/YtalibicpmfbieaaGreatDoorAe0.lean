/- By a program (aegen.py): the functions of this seat as tasks of the interpreter. -/
import Derived.Test.YtalibicpmfbieaaGreatDoorEng
import Derived.Test.YtalibicpmfbieaaGreatDoorProg
import Derived.KernelRfl
namespace Go.Proofs.YtalibicpmfbieaaGreatDoor
open Go.AE
set_option linter.unusedVariables false
def globTab : List (Nat × List D) := []
def ownTab : List (Nat × Nat × Nat) := [(52, 0, 2), (53, 0, 1), (65, 0, 1), (69, 0, 2), (105, 0, 2), (206, 0, 1), (232, 0, 2)]
def dresTab : List (Nat × Nat × Nat) := [(12, 0, 1), (18, 0, 1), (18, 1, 1), (205, 0, 2), (206, 0, 2), (207, 0, 2), (208, 0, 2), (229, 0, 2)]
def keepTab : List (Nat × Nat × List Nat) := [(3, 0, [4, 5, 6, 7, 32, 33]),
  (11, 0, [0, 3, 4, 5]),
  (11, 2, [0, 3, 4, 5, 6, 7]),
  (11, 4, [0, 3, 4, 5, 6, 8]),
  (13, 0, [3, 6, 7, 8]),
  (14, 0, [3, 8, 9, 10]),
  (15, 0, [0, 3, 4, 5]),
  (16, 0, [0, 3, 4]),
  (16, 2, [0, 3, 4, 5, 6]),
  (16, 4, [0, 3, 4, 5, 7]),
  (26, 0, [3, 7, 8, 9]),
  (28, 0, [0, 3]),
  (30, 0, [0, 1, 2, 7, 8]),
  (32, 0, [0, 1, 2, 7, 8]),
  (33, 0, [3, 6, 7, 8]),
  (34, 0, [0, 3, 21, 22, 23]),
  (34, 2, [0, 3, 44, 45, 46]),
  (37, 0, [0, 3, 4]),
  (41, 0, [0, 3, 4]),
  (49, 0, [1, 10, 11, 12]),
  (53, 0, [0, 3]),
  (53, 2, [0, 3, 4, 5]),
  (55, 1, [0, 4, 6, 7]),
  (56, 0, [3, 6, 7, 8]),
  (57, 0, [3, 9, 10, 11]),
  (57, 2, [3, 6, 9, 10, 11, 27, 28, 29]),
  (58, 0, [3, 6, 7, 8]),
  (59, 0, [0, 6, 7, 8]),
  (63, 0, [0, 6, 7, 8]),
  (78, 1, [0, 1, 4, 6, 7]),
  (78, 3, [0, 1, 4, 9, 10]),
  (79, 0, [0, 3, 4]),
  (84, 0, [0, 6, 7, 8]),
  (86, 0, [0, 12, 13, 14]),
  (88, 1, [1, 3, 4]),
  (88, 3, [1, 3, 5]),
  (89, 0, [0, 3, 4]),
  (91, 0, [0, 3, 4]),
  (127, 0, [0, 2, 8, 9, 10]),
  (128, 1, [0, 19, 20, 21]),
  (128, 3, [0, 111, 112, 113]),
  (130, 0, [0, 9, 10, 11]),
  (132, 0, [0, 6, 7, 8])]
def cutTab : List (Nat × Nat × List Nat) := [(22, 10, [0, 1, 4, 5, 10]),
  (50, 5, [1, 2, 5])]
def extList : List (Nat × (List D → Option (Bool × List D))) := []
def orcList : List (Nat × (Sk → List D → Option (List D))) := [(53, orcCompact 9), (52, orcSort), (85, orcSplit 9)]
noncomputable def C : Cfg := { P := Tryz.prog, own := tab2 ownTab, dres := tab2 dresTab, keep := tabL keepTab, cut := tabL cutTab, orc := orcTab orcList, ext := extTab extList, gok := fun h => HasInt 0 h, glob := tabG globTab, bld := tabN [(90, 0)], cc := fun f => Nat.beq f 124, bstr := fun f => Nat.beq f 35, bty := 5 }
def ty_iiiisl6 : Ty := .agg [.int .i64, .int .i64, .int .i64, .int .i64, .str, .lst 6]
def ty_sl11l11l11 : Ty := .agg [.str, .lst 11, .lst 11, .lst 11]
def ty_siiil14l14l14 : Ty := .agg [.str, .int .i64, .int .i64, .int .i64, .lst 14, .lst 14, .lst 14]
def ty_issbl6l6l5l11l11l2l2 : Ty := .agg [.int .i64, .str, .str, .bool, .lst 6, .lst 6, .lst 5, .lst 11, .lst 11, .lst 2, .lst 2]
def ty_iiiissbl6l6l8l14l14l5l5 : Ty := .agg [.int .i64, .int .i64, .int .i64, .int .i64, .str, .str, .bool, .lst 6, .lst 6, .lst 8, .lst 14, .lst 14, .lst 5, .lst 5]
def ty_isl6l5l6 : Ty := .agg [.int .i64, .str, .lst 6, .lst 5, .lst 6]
def ty_sl6 : Ty := .agg [.str, .lst 6]
def ty_iiiisl6l8l9 : Ty := .agg [.int .i64, .int .i64, .int .i64, .int .i64, .str, .lst 6, .lst 8, .lst 9]
def ty_l6isl6l5l6 : Ty := .agg [.lst 6, .int .i64, .str, .lst 6, .lst 5, .lst 6]
def ty_l6iiiisl6l8l9 : Ty := .agg [.lst 6, .int .i64, .int .i64, .int .i64, .int .i64, .str, .lst 6, .lst 8, .lst 9]
def ty_siiil6 : Ty := .agg [.str, .int .i64, .int .i64, .int .i64, .lst 6]
def law09_AstTexts.sk : Sk := ⟨[(0, .d (.leaf (.lst 1)))], []⟩
def law09_AstTexts.osk : Sk := ⟨[(0, .d (.leaf .bool))], []⟩
noncomputable def law09_AstTexts (n : Nat) (x0 : D) : Out := run C n (.call 3 law09_AstTexts.sk [x0])
def law09_awake.sk : Sk := ⟨[], []⟩
def law09_awake.osk : Sk := ⟨[(0, .d (.leaf .bool))], []⟩
noncomputable def law09_awake (n : Nat) : Out := run C n (.call 10 law09_awake.sk [])
def law09_Short.sk : Sk := ⟨[(0, .d (.leaf (.lst 1)))], []⟩
def law09_Short.osk : Sk := ⟨[(0, .d (.leaf (.lst 1)))], []⟩
noncomputable def law09_Short (n : Nat) (x0 : D) : Out := run C n (.call 12 law09_Short.sk [x0])
def ref09_Make.sk : Sk := ⟨[(0, .d (.leaf (.lst 1)))], []⟩
def ref09_Make.osk : Sk := ⟨[(0, .row 0)], [.row 75 4 0]⟩
noncomputable def ref09_Make (n : Nat) (x0 : D) : Out := run C n (.call 11 ref09_Make.sk [x0])
def law09_Own.sk : Sk := ⟨[(0, .d (.leaf (.lst 4)))], []⟩
def law09_Own.osk : Sk := ⟨[(0, .row 0)], [.row 43 7 0]⟩
noncomputable def law09_Own (n : Nat) (x0 : D) : Out := run C n (.call 13 law09_Own.sk [x0])
def ast_Text.sk : Sk := ⟨[(0, .d (.leaf (.lst 7)))], []⟩
def ast_Text.osk : Sk := ⟨[(0, .d (.leaf .str))], []⟩
noncomputable def ast_Text (n : Nat) (x0 : D) : Out := run C n (.call 14 ast_Text.sk [x0])
def law09_Words.sk : Sk := ⟨[(0, .d (.leaf .str))], []⟩
def law09_Words.osk : Sk := ⟨[(0, .row 0)], [.row 9 1 0]⟩
noncomputable def law09_Words (n : Nat) (x0 : D) : Out := run C n (.call 15 law09_Words.sk [x0])
def ref09_Words.sk : Sk := ⟨[(0, .d (.leaf (.lst 4)))], []⟩
def ref09_Words.osk : Sk := ⟨[(0, .row 0)], [.row 9 1 0]⟩
noncomputable def ref09_Words (n : Nat) (x0 : D) : Out := run C n (.call 16 ref09_Words.sk [x0])
def ast_Names.sk : Sk := ⟨[(0, .d ty_iiiisl6)], []⟩
def ast_Names.osk : Sk := ⟨[(0, .row 0)], [.row 9 1 0]⟩
noncomputable def ast_Names (n : Nat) (x0 : D) : Out := run C n (.call 25 ast_Names.sk [x0])
def ast_Depth.sk : Sk := ⟨[(0, .d ty_iiiisl6)], []⟩
def ast_Depth.osk : Sk := ⟨[(0, .d (.leaf (.int .i64)))], []⟩
noncomputable def ast_Depth (n : Nat) (x0 : D) : Out := run C n (.call 26 ast_Depth.sk [x0])
def ref09_Next.sk : Sk := ⟨[(0, .ptr 0 0), (1, .d (.leaf (.int .i64)))], [.var [.d (.leaf (.lst 1)), .d (.leaf (.int .i64))]]⟩
def ref09_Next.osk : Sk := ⟨[(0, .d (.leaf (.int .i64)))], [.var [.d (.leaf (.lst 1)), .d (.leaf (.int .i64))]]⟩
noncomputable def ref09_Next (n : Nat) (x0 x1 x2 : D) : Out := run C n (.call 27 ref09_Next.sk [x0, x1, x2])
def ast_walk.sk : Sk := ⟨[(0, .d ty_iiiisl6), (1, .fn 50 [.ptr 0 0])], [.var [.row 1], .row 9 1 0]⟩
def ast_walk.osk : Sk := ⟨[], [.var [.row 1], .row 9 1 0]⟩
noncomputable def ast_walk (n : Nat) (x0 x1 : D) : Out := run C n (.call 49 ast_walk.sk [x0, x1])
def slices_Sort_string.sk : Sk := ⟨[(0, .row 0)], [.row 9 1 1]⟩
def slices_Sort_string.osk : Sk := ⟨[], [.row 9 1 1]⟩
noncomputable def slices_Sort_string (n : Nat) (x0 : D) : Out := run C n (.call 52 slices_Sort_string.sk [x0])
def slices_Compact_string.sk : Sk := ⟨[(0, .row 0)], [.row 9 1 2]⟩
def slices_Compact_string.osk : Sk := ⟨[(0, .row 1)], [.gone, .row 9 1 0]⟩
noncomputable def slices_Compact_string (n : Nat) (x0 : D) : Out := run C n (.call 53 slices_Compact_string.sk [x0])
def ref02_Dec.sk : Sk := ⟨[(0, .d (.leaf (.int .i64)))], []⟩
def ref02_Dec.osk : Sk := ⟨[(0, .d (.leaf .str))], []⟩
noncomputable def ref02_Dec (n : Nat) (x0 : D) : Out := run C n (.call 28 ref02_Dec.sk [x0])
def ref09_MakeItems.sk : Sk := ⟨[(0, .ptr 0 0), (1, .d (.leaf (.int .i64))), (2, .d (.leaf (.int .i64)))], [.var [.d (.leaf (.lst 1)), .d (.leaf (.int .i64))]]⟩
def ref09_MakeItems.osk : Sk := ⟨[(0, .row 1)], [.var [.d (.leaf (.lst 1)), .d (.leaf (.int .i64))], .row 81 11 0]⟩
noncomputable def ref09_MakeItems (n : Nat) (x0 x1 x2 x3 : D) : Out := run C n (.call 32 ref09_MakeItems.sk [x0, x1, x2, x3])
def law09_items.sk : Sk := ⟨[(0, .d (.leaf (.lst 11)))], []⟩
def law09_items.osk : Sk := ⟨[(0, .row 0)], [.row 48 14 0]⟩
noncomputable def law09_items (n : Nat) (x0 : D) : Out := run C n (.call 33 law09_items.sk [x0])
def ast_printer_module.sk : Sk := ⟨[(0, .ptr 0 0), (1, .d ty_siiil14l14l14)], [.var [.bp 90 0 0, .row 1, .d (.leaf .bool)], .row 5 1 0]⟩
def ast_printer_module.osk : Sk := ⟨[], [.var [.bp 90 0 0, .row 1, .d (.leaf .bool)], .row 5 1 0]⟩
noncomputable def ast_printer_module (n : Nat) (x0 x1 x2 : D) : Out := run C n (.call 34 ast_printer_module.sk [x0, x1, x2])
def ref09_ItemsWords.sk : Sk := ⟨[(0, .d (.leaf (.lst 11)))], []⟩
def ref09_ItemsWords.osk : Sk := ⟨[(0, .row 0)], [.row 9 1 0]⟩
noncomputable def ref09_ItemsWords (n : Nat) (x0 : D) : Out := run C n (.call 37 ref09_ItemsWords.sk [x0])
def ast_Names_1.sk : Sk := ⟨[(0, .d ty_iiiisl6), (1, .ptr 0 0)], [.var [.row 1], .row 9 1 0]⟩
def ast_Names_1.osk : Sk := ⟨[], [.var [.row 1], .row 9 1 0]⟩
noncomputable def ast_Names_1 (n : Nat) (x0 x1 : D) : Out := run C n (.call 50 ast_Names_1.sk [x0, x1])
def ref09_name.sk : Sk := ⟨[(0, .ptr 0 0)], [.var [.d (.leaf (.lst 1)), .d (.leaf (.int .i64))]]⟩
def ref09_name.osk : Sk := ⟨[(0, .d (.leaf .str))], [.var [.d (.leaf (.lst 1)), .d (.leaf (.int .i64))]]⟩
noncomputable def ref09_name (n : Nat) (x0 x1 : D) : Out := run C n (.call 29 ref09_name.sk [x0, x1])
def ref09_MakeExprs.sk : Sk := ⟨[(0, .ptr 0 0), (1, .d (.leaf (.int .i64))), (2, .d (.leaf (.int .i64)))], [.var [.d (.leaf (.lst 1)), .d (.leaf (.int .i64))]]⟩
def ref09_MakeExprs.osk : Sk := ⟨[(0, .row 1)], [.var [.d (.leaf (.lst 1)), .d (.leaf (.int .i64))], .row 52 6 0]⟩
noncomputable def ref09_MakeExprs (n : Nat) (x0 x1 x2 x3 : D) : Out := run C n (.call 30 ref09_MakeExprs.sk [x0, x1, x2, x3])
def ref09_MakePort.sk : Sk := ⟨[(0, .ptr 0 0)], [.var [.d (.leaf (.lst 1)), .d (.leaf (.int .i64))]]⟩
def ref09_MakePort.osk : Sk := ⟨[(0, .d ty_issbl6l6l5l11l11l2l2)], [.var [.d (.leaf (.lst 1)), .d (.leaf (.int .i64))]]⟩
noncomputable def ref09_MakePort (n : Nat) (x0 x1 : D) : Out := run C n (.call 31 ref09_MakePort.sk [x0, x1])
def ast_printer_word.sk : Sk := ⟨[(0, .ptr 0 0), (1, .d (.leaf (.lst 1)))], [.var [.bp 90 0 0, .row 1, .d (.leaf .bool)], .row 5 1 0]⟩
def ast_printer_word.osk : Sk := ⟨[], [.var [.bp 90 0 0, .row 1, .d (.leaf .bool)], .row 5 1 0]⟩
noncomputable def ast_printer_word (n : Nat) (x0 x1 x2 : D) : Out := run C n (.call 59 ast_printer_word.sk [x0, x1, x2])
def ast_printer_line.sk : Sk := ⟨[(0, .ptr 0 0), (1, .d (.leaf (.lst 1)))], [.var [.bp 90 0 0, .row 1, .d (.leaf .bool)], .row 5 1 0]⟩
def ast_printer_line.osk : Sk := ⟨[], [.var [.bp 90 0 0, .row 1, .d (.leaf .bool)], .row 5 1 0]⟩
noncomputable def ast_printer_line (n : Nat) (x0 x1 x2 : D) : Out := run C n (.call 62 ast_printer_line.sk [x0, x1, x2])
def ast_printer_items.sk : Sk := ⟨[(0, .ptr 0 0), (1, .d (.leaf (.lst 14)))], [.var [.bp 90 0 0, .row 1, .d (.leaf .bool)], .row 5 1 0]⟩
def ast_printer_items.osk : Sk := ⟨[], [.var [.bp 90 0 0, .row 1, .d (.leaf .bool)], .row 5 1 0]⟩
noncomputable def ast_printer_items (n : Nat) (x0 x1 x2 : D) : Out := run C n (.call 63 ast_printer_items.sk [x0, x1, x2])
def ref09_ExprWords.sk : Sk := ⟨[(0, .d ty_iiiisl6)], []⟩
def ref09_ExprWords.osk : Sk := ⟨[(0, .row 0)], [.row 9 1 0]⟩
noncomputable def ref09_ExprWords (n : Nat) (x0 : D) : Out := run C n (.call 19 ref09_ExprWords.sk [x0])
def ref09_net.sk : Sk := ⟨[(0, .d ty_issbl6l6l5l11l11l2l2)], []⟩
def ref09_net.osk : Sk := ⟨[(0, .row 0)], [.row 9 1 0]⟩
noncomputable def ref09_net (n : Nat) (x0 : D) : Out := run C n (.call 36 ref09_net.sk [x0])
def ref09_MakeNet.sk : Sk := ⟨[(0, .ptr 0 0), (1, .d (.leaf .str)), (2, .d (.leaf (.int .i64)))], [.var [.d (.leaf (.lst 1)), .d (.leaf (.int .i64))]]⟩
def ref09_MakeNet.osk : Sk := ⟨[(0, .d ty_issbl6l6l5l11l11l2l2)], [.var [.d (.leaf (.lst 1)), .d (.leaf (.int .i64))]]⟩
noncomputable def ref09_MakeNet (n : Nat) (x0 x1 x2 x3 : D) : Out := run C n (.call 54 ref09_MakeNet.sk [x0, x1, x2, x3])
def ref09_MakeItem.sk : Sk := ⟨[(0, .ptr 0 0), (1, .d (.leaf (.int .i64)))], [.var [.d (.leaf (.lst 1)), .d (.leaf (.int .i64))]]⟩
def ref09_MakeItem.osk : Sk := ⟨[(0, .d ty_issbl6l6l5l11l11l2l2)], [.var [.d (.leaf (.lst 1)), .d (.leaf (.int .i64))]]⟩
noncomputable def ref09_MakeItem (n : Nat) (x0 x1 x2 : D) : Out := run C n (.call 55 ref09_MakeItem.sk [x0, x1, x2])
def law09_OwnExprs.sk : Sk := ⟨[(0, .d (.leaf (.lst 6)))], []⟩
def law09_OwnExprs.osk : Sk := ⟨[(0, .row 0)], [.row 55 6 0]⟩
noncomputable def law09_OwnExprs (n : Nat) (x0 : D) : Out := run C n (.call 56 law09_OwnExprs.sk [x0])
def law09_stmts.sk : Sk := ⟨[(0, .d (.leaf (.lst 5)))], []⟩
def law09_stmts.osk : Sk := ⟨[(0, .row 0)], [.row 144 8 0]⟩
noncomputable def law09_stmts (n : Nat) (x0 : D) : Out := run C n (.call 57 law09_stmts.sk [x0])
def law09_conns.sk : Sk := ⟨[(0, .d (.leaf (.lst 2)))], []⟩
def law09_conns.osk : Sk := ⟨[(0, .row 0)], [.row 152 5 0]⟩
noncomputable def law09_conns (n : Nat) (x0 : D) : Out := run C n (.call 58 law09_conns.sk [x0])
def ast_printer_param.sk : Sk := ⟨[(0, .ptr 0 0), (1, .d ty_iiiissbl6l6l8l14l14l5l5)], [.var [.bp 90 0 0, .row 1, .d (.leaf .bool)], .row 5 1 0]⟩
def ast_printer_param.osk : Sk := ⟨[], [.var [.bp 90 0 0, .row 1, .d (.leaf .bool)], .row 5 1 0]⟩
noncomputable def ast_printer_param (n : Nat) (x0 x1 x2 : D) : Out := run C n (.call 60 ast_printer_param.sk [x0, x1, x2])
def ast_printer_net.sk : Sk := ⟨[(0, .ptr 0 0), (1, .d ty_iiiissbl6l6l8l14l14l5l5)], [.var [.bp 90 0 0, .row 1, .d (.leaf .bool)], .row 5 1 0]⟩
def ast_printer_net.osk : Sk := ⟨[], [.var [.bp 90 0 0, .row 1, .d (.leaf .bool)], .row 5 1 0]⟩
noncomputable def ast_printer_net (n : Nat) (x0 x1 x2 : D) : Out := run C n (.call 61 ast_printer_net.sk [x0, x1, x2])
def strings_Builder_WriteByte.sk : Sk := ⟨[(0, .ptr 0 0), (1, .d (.leaf (.int .u8)))], [.var [.bp 90 0 0, .row 1, .d (.leaf .bool)], .row 5 1 0]⟩
def strings_Builder_WriteByte.osk : Sk := ⟨[(0, .d (.leaf .any))], [.var [.bp 90 0 0, .row 1, .d (.leaf .bool)], .row 5 1 0]⟩
noncomputable def strings_Builder_WriteByte (n : Nat) (x0 x1 x2 : D) : Out := run C n (.call 82 strings_Builder_WriteByte.sk [x0, x1, x2])
def ref09_arg.sk : Sk := ⟨[(0, .d ty_iiiisl6)], []⟩
def ref09_arg.osk : Sk := ⟨[(0, .row 0)], [.row 9 1 0]⟩
noncomputable def ref09_arg (n : Nat) (x0 : D) : Out := run C n (.call 40 ref09_arg.sk [x0])
def ref09_List.sk : Sk := ⟨[(0, .d (.leaf (.lst 6)))], []⟩
def ref09_List.osk : Sk := ⟨[(0, .row 0)], [.row 9 1 0]⟩
noncomputable def ref09_List (n : Nat) (x0 : D) : Out := run C n (.call 41 ref09_List.sk [x0])
def ref09_bounds.sk : Sk := ⟨[(0, .d (.leaf (.lst 6)))], []⟩
def ref09_bounds.osk : Sk := ⟨[(0, .row 0)], [.row 9 1 0]⟩
noncomputable def ref09_bounds (n : Nat) (x0 : D) : Out := run C n (.call 42 ref09_bounds.sk [x0])
def ref09_ItemWords.sk : Sk := ⟨[(0, .d ty_issbl6l6l5l11l11l2l2)], []⟩
def ref09_ItemWords.osk : Sk := ⟨[(0, .row 0)], [.row 9 1 0]⟩
noncomputable def ref09_ItemWords (n : Nat) (x0 : D) : Out := run C n (.call 64 ref09_ItemWords.sk [x0])
def strings_HasPrefix.sk : Sk := ⟨[(0, .d (.leaf .str)), (1, .d (.leaf .str))], []⟩
def strings_HasPrefix.osk : Sk := ⟨[(0, .d (.leaf .bool))], []⟩
noncomputable def strings_HasPrefix (n : Nat) (x0 x1 : D) : Out := run C n (.call 51 strings_HasPrefix.sk [x0, x1])
def ref09_MakeExpr.sk : Sk := ⟨[(0, .ptr 0 0), (1, .d (.leaf (.int .i64)))], [.var [.d (.leaf (.lst 1)), .d (.leaf (.int .i64))]]⟩
def ref09_MakeExpr.osk : Sk := ⟨[(0, .d ty_iiiisl6)], [.var [.d (.leaf (.lst 1)), .d (.leaf (.int .i64))]]⟩
noncomputable def ref09_MakeExpr (n : Nat) (x0 x1 x2 : D) : Out := run C n (.call 22 ref09_MakeExpr.sk [x0, x1, x2])
def ref09_left.sk : Sk := ⟨[(0, .ptr 0 0)], [.var [.d (.leaf (.lst 1)), .d (.leaf (.int .i64))]]⟩
def ref09_left.osk : Sk := ⟨[(0, .d ty_iiiisl6)], [.var [.d (.leaf (.lst 1)), .d (.leaf (.int .i64))]]⟩
noncomputable def ref09_left (n : Nat) (x0 x1 : D) : Out := run C n (.call 77 ref09_left.sk [x0, x1])
def ref09_MakeStmt.sk : Sk := ⟨[(0, .ptr 0 0), (1, .d (.leaf (.int .i64)))], [.var [.d (.leaf (.lst 1)), .d (.leaf (.int .i64))]]⟩
def ref09_MakeStmt.osk : Sk := ⟨[(0, .d ty_isl6l5l6)], [.var [.d (.leaf (.lst 1)), .d (.leaf (.int .i64))]]⟩
noncomputable def ref09_MakeStmt (n : Nat) (x0 x1 x2 : D) : Out := run C n (.call 78 ref09_MakeStmt.sk [x0, x1, x2])
def ref09_MakeConns.sk : Sk := ⟨[(0, .ptr 0 0)], [.var [.d (.leaf (.lst 1)), .d (.leaf (.int .i64))]]⟩
def ref09_MakeConns.osk : Sk := ⟨[(0, .row 1)], [.var [.d (.leaf (.lst 1)), .d (.leaf (.int .i64))], .row 150 2 0]⟩
noncomputable def ref09_MakeConns (n : Nat) (x0 x1 : D) : Out := run C n (.call 79 ref09_MakeConns.sk [x0, x1])
def strings_Builder_Len.sk : Sk := ⟨[(0, .ptr 0 0)], [.var [.bp 90 0 0, .row 1, .d (.leaf .bool)], .row 5 1 0]⟩
def strings_Builder_Len.osk : Sk := ⟨[(0, .d (.leaf (.int .i64)))], [.var [.bp 90 0 0, .row 1, .d (.leaf .bool)], .row 5 1 0]⟩
noncomputable def strings_Builder_Len (n : Nat) (x0 x1 : D) : Out := run C n (.call 81 strings_Builder_Len.sk [x0, x1])
def strings_Builder_WriteString.sk : Sk := ⟨[(0, .ptr 0 0), (1, .d (.leaf .str))], [.var [.bp 90 0 0, .row 1, .d (.leaf .bool)], .row 5 1 0]⟩
def strings_Builder_WriteString.osk : Sk := ⟨[(0, .d (.leaf (.int .i64))), (1, .d (.leaf .any))], [.var [.bp 90 0 0, .row 1, .d (.leaf .bool)], .row 5 1 0]⟩
noncomputable def strings_Builder_WriteString (n : Nat) (x0 x1 x2 : D) : Out := run C n (.call 83 strings_Builder_WriteString.sk [x0, x1, x2])
def ast_printer_list.sk : Sk := ⟨[(0, .ptr 0 0), (1, .d (.leaf (.lst 6)))], [.var [.bp 90 0 0, .row 1, .d (.leaf .bool)], .row 5 1 0]⟩
def ast_printer_list.osk : Sk := ⟨[], [.var [.bp 90 0 0, .row 1, .d (.leaf .bool)], .row 5 1 0]⟩
noncomputable def ast_printer_list (n : Nat) (x0 x1 x2 : D) : Out := run C n (.call 84 ast_printer_list.sk [x0, x1, x2])
def strings_Split.sk : Sk := ⟨[(0, .d (.leaf .str)), (1, .d (.leaf .str))], []⟩
def strings_Split.osk : Sk := ⟨[(0, .row 0)], [.row 9 1 0]⟩
noncomputable def strings_Split (n : Nat) (x0 x1 : D) : Out := run C n (.call 85 strings_Split.sk [x0, x1])
def ast_printer_bounds.sk : Sk := ⟨[(0, .ptr 0 0), (1, .d (.leaf (.lst 6)))], [.var [.bp 90 0 0, .row 1, .d (.leaf .bool)], .row 5 1 0]⟩
def ast_printer_bounds.osk : Sk := ⟨[], [.var [.bp 90 0 0, .row 1, .d (.leaf .bool)], .row 5 1 0]⟩
noncomputable def ast_printer_bounds (n : Nat) (x0 x1 x2 : D) : Out := run C n (.call 86 ast_printer_bounds.sk [x0, x1, x2])
def ast_printer_item.sk : Sk := ⟨[(0, .ptr 0 0), (1, .d ty_iiiissbl6l6l8l14l14l5l5)], [.var [.bp 90 0 0, .row 1, .d (.leaf .bool)], .row 5 1 0]⟩
def ast_printer_item.osk : Sk := ⟨[], [.var [.bp 90 0 0, .row 1, .d (.leaf .bool)], .row 5 1 0]⟩
noncomputable def ast_printer_item (n : Nat) (x0 x1 x2 : D) : Out := run C n (.call 87 ast_printer_item.sk [x0, x1, x2])
def ref09_paren.sk : Sk := ⟨[(0, .d ty_iiiisl6)], []⟩
def ref09_paren.osk : Sk := ⟨[(0, .row 0)], [.row 9 1 0]⟩
noncomputable def ref09_paren (n : Nat) (x0 : D) : Out := run C n (.call 71 ref09_paren.sk [x0])
def ref09_StmtWords.sk : Sk := ⟨[(0, .d ty_isl6l5l6)], []⟩
def ref09_StmtWords.osk : Sk := ⟨[(0, .row 0)], [.row 9 1 0]⟩
noncomputable def ref09_StmtWords (n : Nat) (x0 : D) : Out := run C n (.call 88 ref09_StmtWords.sk [x0])
def ref09_conns.sk : Sk := ⟨[(0, .d (.leaf (.lst 2)))], []⟩
def ref09_conns.osk : Sk := ⟨[(0, .row 0)], [.row 9 1 0]⟩
noncomputable def ref09_conns (n : Nat) (x0 : D) : Out := run C n (.call 89 ref09_conns.sk [x0])
def ref09_loop.sk : Sk := ⟨[(0, .d (.leaf .str)), (1, .d (.leaf (.lst 6)))], []⟩
def ref09_loop.osk : Sk := ⟨[(0, .row 0)], [.row 9 1 0]⟩
noncomputable def ref09_loop (n : Nat) (x0 x1 : D) : Out := run C n (.call 90 ref09_loop.sk [x0, x1])
def ref09_blocks.sk : Sk := ⟨[(0, .d (.leaf (.lst 11)))], []⟩
def ref09_blocks.osk : Sk := ⟨[(0, .row 0)], [.row 9 1 0]⟩
noncomputable def ref09_blocks (n : Nat) (x0 : D) : Out := run C n (.call 91 ref09_blocks.sk [x0])
def internal_stringslite_HasPrefix.sk : Sk := ⟨[(0, .d (.leaf .str)), (1, .d (.leaf .str))], []⟩
def internal_stringslite_HasPrefix.osk : Sk := ⟨[(0, .d (.leaf .bool))], []⟩
noncomputable def internal_stringslite_HasPrefix (n : Nat) (x0 x1 : D) : Out := run C n (.call 74 internal_stringslite_HasPrefix.sk [x0, x1])
def ref09_number.sk : Sk := ⟨[(0, .ptr 0 0)], [.var [.d (.leaf (.lst 1)), .d (.leaf (.int .i64))]]⟩
def ref09_number.osk : Sk := ⟨[(0, .d (.leaf .str))], [.var [.d (.leaf (.lst 1)), .d (.leaf (.int .i64))]]⟩
noncomputable def ref09_number (n : Nat) (x0 x1 : D) : Out := run C n (.call 45 ref09_number.sk [x0, x1])
def ref09_ops.sk : Sk := ⟨[], []⟩
def ref09_ops.osk : Sk := ⟨[(0, .row 0)], [.row 9 1 0]⟩
noncomputable def ref09_ops (n : Nat) : Out := run C n (.call 46 ref09_ops.sk [])
def ref09_open.sk : Sk := ⟨[(0, .d ty_isl6l5l6)], []⟩
def ref09_open.osk : Sk := ⟨[(0, .d (.leaf .bool))], []⟩
noncomputable def ref09_open (n : Nat) (x0 : D) : Out := run C n (.call 123 ref09_open.sk [x0])
def law09_OwnExpr.sk : Sk := ⟨[(0, .d ty_iiiisl6)], []⟩
def law09_OwnExpr.osk : Sk := ⟨[(0, .d ty_iiiisl6)], []⟩
noncomputable def law09_OwnExpr (n : Nat) (x0 : D) : Out := run C n (.call 80 law09_OwnExpr.sk [x0])
def ast_printer_between.sk : Sk := ⟨[(0, .ptr 0 0), (1, .d (.leaf (.lst 6))), (2, .d (.leaf (.lst 1)))], [.var [.bp 90 0 0, .row 1, .d (.leaf .bool)], .row 5 1 0]⟩
def ast_printer_between.osk : Sk := ⟨[], [.var [.bp 90 0 0, .row 1, .d (.leaf .bool)], .row 5 1 0]⟩
noncomputable def ast_printer_between (n : Nat) (x0 x1 x2 x3 : D) : Out := run C n (.call 127 ast_printer_between.sk [x0, x1, x2, x3])
def ast_printer_expr.sk : Sk := ⟨[(0, .ptr 0 0), (1, .d ty_iiiisl6)], [.var [.bp 90 0 0, .row 1, .d (.leaf .bool)], .row 5 1 0]⟩
def ast_printer_expr.osk : Sk := ⟨[], [.var [.bp 90 0 0, .row 1, .d (.leaf .bool)], .row 5 1 0]⟩
noncomputable def ast_printer_expr (n : Nat) (x0 x1 x2 : D) : Out := run C n (.call 125 ast_printer_expr.sk [x0, x1, x2])
def ast_printer_stmt.sk : Sk := ⟨[(0, .ptr 0 0), (1, .d ty_iiiisl6l8l9)], [.var [.bp 90 0 0, .row 1, .d (.leaf .bool)], .row 5 1 0]⟩
def ast_printer_stmt.osk : Sk := ⟨[], [.var [.bp 90 0 0, .row 1, .d (.leaf .bool)], .row 5 1 0]⟩
noncomputable def ast_printer_stmt (n : Nat) (x0 x1 x2 : D) : Out := run C n (.call 128 ast_printer_stmt.sk [x0, x1, x2])
def ast_printer_function.sk : Sk := ⟨[(0, .ptr 0 0), (1, .d ty_iiiissbl6l6l8l14l14l5l5)], [.var [.bp 90 0 0, .row 1, .d (.leaf .bool)], .row 5 1 0]⟩
def ast_printer_function.osk : Sk := ⟨[], [.var [.bp 90 0 0, .row 1, .d (.leaf .bool)], .row 5 1 0]⟩
noncomputable def ast_printer_function (n : Nat) (x0 x1 x2 : D) : Out := run C n (.call 129 ast_printer_function.sk [x0, x1, x2])
def ast_printer_conns.sk : Sk := ⟨[(0, .ptr 0 0), (1, .d (.leaf (.lst 5)))], [.var [.bp 90 0 0, .row 1, .d (.leaf .bool)], .row 5 1 0]⟩
def ast_printer_conns.osk : Sk := ⟨[], [.var [.bp 90 0 0, .row 1, .d (.leaf .bool)], .row 5 1 0]⟩
noncomputable def ast_printer_conns (n : Nat) (x0 x1 x2 : D) : Out := run C n (.call 130 ast_printer_conns.sk [x0, x1, x2])
def ast_printer_loop.sk : Sk := ⟨[(0, .ptr 0 0), (1, .d (.leaf .str)), (2, .d (.leaf (.lst 6)))], [.var [.bp 90 0 0, .row 1, .d (.leaf .bool)], .row 5 1 0]⟩
def ast_printer_loop.osk : Sk := ⟨[], [.var [.bp 90 0 0, .row 1, .d (.leaf .bool)], .row 5 1 0]⟩
noncomputable def ast_printer_loop (n : Nat) (x0 x1 x2 x3 : D) : Out := run C n (.call 131 ast_printer_loop.sk [x0, x1, x2, x3])
def ast_printer_block.sk : Sk := ⟨[(0, .ptr 0 0), (1, .d (.leaf (.lst 14)))], [.var [.bp 90 0 0, .row 1, .d (.leaf .bool)], .row 5 1 0]⟩
def ast_printer_block.osk : Sk := ⟨[], [.var [.bp 90 0 0, .row 1, .d (.leaf .bool)], .row 5 1 0]⟩
noncomputable def ast_printer_block (n : Nat) (x0 x1 x2 : D) : Out := run C n (.call 132 ast_printer_block.sk [x0, x1, x2])
def ast_printer_paren.sk : Sk := ⟨[(0, .ptr 0 0), (1, .d ty_iiiisl6)], [.var [.bp 90 0 0, .row 1, .d (.leaf .bool)], .row 5 1 0]⟩
def ast_printer_paren.osk : Sk := ⟨[], [.var [.bp 90 0 0, .row 1, .d (.leaf .bool)], .row 5 1 0]⟩
noncomputable def ast_printer_paren (n : Nat) (x0 x1 x2 : D) : Out := run C n (.call 133 ast_printer_paren.sk [x0, x1, x2])
def ast_printer_then.sk : Sk := ⟨[(0, .ptr 0 0), (1, .d ty_iiiisl6l8l9)], [.var [.bp 90 0 0, .row 1, .d (.leaf .bool)], .row 5 1 0]⟩
def ast_printer_then.osk : Sk := ⟨[], [.var [.bp 90 0 0, .row 1, .d (.leaf .bool)], .row 5 1 0]⟩
noncomputable def ast_printer_then (n : Nat) (x0 x1 x2 : D) : Out := run C n (.call 159 ast_printer_then.sk [x0, x1, x2])
def ast_printer_arg.sk : Sk := ⟨[(0, .ptr 0 0), (1, .d ty_iiiisl6)], [.var [.bp 90 0 0, .row 1, .d (.leaf .bool)], .row 5 1 0]⟩
def ast_printer_arg.osk : Sk := ⟨[], [.var [.bp 90 0 0, .row 1, .d (.leaf .bool)], .row 5 1 0]⟩
noncomputable def ast_printer_arg (n : Nat) (x0 x1 x2 : D) : Out := run C n (.call 158 ast_printer_arg.sk [x0, x1, x2])
def ast_open.sk : Sk := ⟨[(0, .d ty_iiiisl6l8l9)], []⟩
def ast_open.osk : Sk := ⟨[(0, .d (.leaf .bool))], []⟩
noncomputable def ast_open (n : Nat) (x0 : D) : Out := run C n (.call 188 ast_open.sk [x0])
def ast_printer_arm.sk : Sk := ⟨[(0, .ptr 0 0), (1, .d ty_l6iiiisl6l8l9)], [.var [.bp 90 0 0, .row 1, .d (.leaf .bool)], .row 5 1 0]⟩
def ast_printer_arm.osk : Sk := ⟨[], [.var [.bp 90 0 0, .row 1, .d (.leaf .bool)], .row 5 1 0]⟩
noncomputable def ast_printer_arm (n : Nat) (x0 x1 x2 : D) : Out := run C n (.call 160 ast_printer_arm.sk [x0, x1, x2])
def law09_AstTexts_L0.sk : Sk := ⟨[(4, .row 0), (5, .d (.leaf .str)), (6, .row 1), (7, .row 2), (32, .d (.leaf (.int .i64))), (33, .d (.leaf (.int .i64)))], [.row 43 7 0, .row 9 1 0, .row 9 1 0]⟩
noncomputable def law09_AstTexts_L0.body : Code := bodyAt C 3 0
noncomputable def law09_AstTexts_L0 (n : Nat) (x0 x1 x2 x3 x4 x5 : D) : Out := run C n (.loop 3 law09_AstTexts.osk [] [] false 0 law09_AstTexts_L0.body law09_AstTexts_L0.sk [x0, x1, x2, x3, x4, x5])
def ref09_Make_L0.sk : Sk := ⟨[(0, .d (.leaf (.lst 1))), (3, .ptr 0 0), (4, .row 1), (5, .d (.leaf (.int .i64)))], [.var [.d (.leaf (.lst 1)), .d (.leaf (.int .i64))], .row 75 4 0]⟩
noncomputable def ref09_Make_L0.body : Code := bodyAt C 11 0
noncomputable def ref09_Make_L0 (n : Nat) (x0 x1 x2 x3 x4 : D) : Out := run C n (.loop 11 ref09_Make.osk [] [] false 0 ref09_Make_L0.body ref09_Make_L0.sk [x0, x1, x2, x3, x4])
def law09_Own_L0.sk : Sk := ⟨[(3, .row 0), (6, .d (.leaf (.lst 4))), (7, .d (.leaf (.int .i64))), (8, .d (.leaf (.int .i64)))], [.row 43 7 0]⟩
noncomputable def law09_Own_L0.body : Code := bodyAt C 13 0
noncomputable def law09_Own_L0 (n : Nat) (x0 x1 x2 x3 : D) : Out := run C n (.loop 13 law09_Own.osk [] [] false 0 law09_Own_L0.body law09_Own_L0.sk [x0, x1, x2, x3])
def ast_Text_L0.sk : Sk := ⟨[(3, .ptr 0 0), (8, .d (.leaf (.lst 7))), (9, .d (.leaf (.int .i64))), (10, .d (.leaf (.int .i64)))], [.var [.bp 90 0 0, .row 1, .d (.leaf .bool)], .row 5 1 0]⟩
noncomputable def ast_Text_L0.body : Code := bodyAt C 14 0
noncomputable def ast_Text_L0 (n : Nat) (x0 x1 x2 x3 x4 : D) : Out := run C n (.loop 14 ast_Text.osk [] [] false 0 ast_Text_L0.body ast_Text_L0.sk [x0, x1, x2, x3, x4])
def law09_Words_L0.sk : Sk := ⟨[(0, .d (.leaf .str)), (3, .row 0), (4, .d (.leaf (.int .i64))), (5, .d (.leaf (.int .i64)))], [.row 9 1 0]⟩
noncomputable def law09_Words_L0.body : Code := bodyAt C 15 0
noncomputable def law09_Words_L0 (n : Nat) (x0 x1 x2 x3 : D) : Out := run C n (.loop 15 law09_Words.osk [] [] false 0 law09_Words_L0.body law09_Words_L0.sk [x0, x1, x2, x3])
def ref09_Words_L0.sk : Sk := ⟨[(0, .d (.leaf (.lst 4))), (3, .row 0), (4, .d (.leaf (.int .i64)))], [.row 9 1 0]⟩
noncomputable def ref09_Words_L0.body : Code := bodyAt C 16 0
noncomputable def ref09_Words_L0 (n : Nat) (x0 x1 x2 : D) : Out := run C n (.loop 16 ref09_Words.osk [] [] false 0 ref09_Words_L0.body ref09_Words_L0.sk [x0, x1, x2])
def ast_Depth_L0.sk : Sk := ⟨[(3, .d (.leaf (.int .i64))), (7, .d (.leaf (.lst 6))), (8, .d (.leaf (.int .i64))), (9, .d (.leaf (.int .i64)))], []⟩
noncomputable def ast_Depth_L0.body : Code := bodyAt C 26 0
noncomputable def ast_Depth_L0 (n : Nat) (x0 x1 x2 x3 : D) : Out := run C n (.loop 26 ast_Depth.osk [] [] false 0 ast_Depth_L0.body ast_Depth_L0.sk [x0, x1, x2, x3])
def ref09_Make_L2.sk : Sk := ⟨[(0, .d (.leaf (.lst 1))), (3, .ptr 0 0), (4, .row 1), (5, .d (.leaf (.int .i64))), (6, .ptr 2 0), (7, .d (.leaf (.int .i64)))], [.var [.d (.leaf (.lst 1)), .d (.leaf (.int .i64))], .row 75 4 0, .var [.d (.leaf .str), .row 3, .row 4, .row 5], .row 81 11 0, .row 81 11 0, .row 81 11 0]⟩
noncomputable def ref09_Make_L2.body : Code := bodyAt C 11 2
noncomputable def ref09_Make_L2 (n : Nat) (x0 x1 x2 x3 x4 x5 x6 x7 x8 x9 : D) : Out := run C n (.loop 11 ref09_Make.osk [] [] false 2 ref09_Make_L2.body ref09_Make_L2.sk [x0, x1, x2, x3, x4, x5, x6, x7, x8, x9])
def ref09_Make_L4.sk : Sk := ⟨[(0, .d (.leaf (.lst 1))), (3, .ptr 0 0), (4, .row 1), (5, .d (.leaf (.int .i64))), (6, .ptr 2 0), (8, .d (.leaf (.int .i64)))], [.var [.d (.leaf (.lst 1)), .d (.leaf (.int .i64))], .row 75 4 0, .var [.d (.leaf .str), .row 3, .row 4, .row 5], .row 81 11 0, .row 81 11 0, .row 81 11 0]⟩
noncomputable def ref09_Make_L4.body : Code := bodyAt C 11 4
noncomputable def ref09_Make_L4 (n : Nat) (x0 x1 x2 x3 x4 x5 x6 x7 x8 x9 : D) : Out := run C n (.loop 11 ref09_Make.osk [] [] false 4 ref09_Make_L4.body ref09_Make_L4.sk [x0, x1, x2, x3, x4, x5, x6, x7, x8, x9])
def ref09_Words_L2.sk : Sk := ⟨[(0, .d (.leaf (.lst 4))), (3, .row 0), (4, .d (.leaf (.int .i64))), (5, .ptr 1 0), (6, .d (.leaf (.int .i64)))], [.row 9 1 0, .var [.d (.leaf .str), .d (.leaf (.lst 11)), .d (.leaf (.lst 11)), .d (.leaf (.lst 11))]]⟩
noncomputable def ref09_Words_L2.body : Code := bodyAt C 16 2
noncomputable def ref09_Words_L2 (n : Nat) (x0 x1 x2 x3 x4 x5 x6 x7 : D) : Out := run C n (.loop 16 ref09_Words.osk [] [] false 2 ref09_Words_L2.body ref09_Words_L2.sk [x0, x1, x2, x3, x4, x5, x6, x7])
def ref09_Words_L4.sk : Sk := ⟨[(0, .d (.leaf (.lst 4))), (3, .row 0), (4, .d (.leaf (.int .i64))), (5, .ptr 1 0), (7, .d (.leaf (.int .i64)))], [.row 9 1 0, .var [.d (.leaf .str), .d (.leaf (.lst 11)), .d (.leaf (.lst 11)), .d (.leaf (.lst 11))]]⟩
noncomputable def ref09_Words_L4.body : Code := bodyAt C 16 4
noncomputable def ref09_Words_L4 (n : Nat) (x0 x1 x2 x3 x4 x5 x6 x7 : D) : Out := run C n (.loop 16 ref09_Words.osk [] [] false 4 ref09_Words_L4.body ref09_Words_L4.sk [x0, x1, x2, x3, x4, x5, x6, x7])
def ast_walk_L0.sk : Sk := ⟨[(1, .fn 50 [.ptr 0 0]), (10, .d (.leaf (.lst 6))), (11, .d (.leaf (.int .i64))), (12, .d (.leaf (.int .i64)))], [.var [.row 1], .row 9 1 0]⟩
noncomputable def ast_walk_L0.body : Code := bodyAt C 49 0
noncomputable def ast_walk_L0 (n : Nat) (x0 x1 x2 x3 : D) : Out := run C n (.loop 49 ast_walk.osk [(0, 0)] [] false 0 ast_walk_L0.body ast_walk_L0.sk [x0, x1, x2, x3])
def ref02_Dec_L0.sk : Sk := ⟨[(0, .d (.leaf (.int .i64))), (3, .d (.leaf .str))], []⟩
noncomputable def ref02_Dec_L0.body : Code := bodyAt C 28 0
noncomputable def ref02_Dec_L0 (n : Nat) (x0 x1 : D) : Out := run C n (.loop 28 ref02_Dec.osk [] [] false 0 ref02_Dec_L0.body ref02_Dec_L0.sk [x0, x1])
def ref09_MakeItems_L0.sk : Sk := ⟨[(0, .ptr 0 0), (1, .d (.leaf (.int .i64))), (2, .d (.leaf (.int .i64))), (7, .row 1), (8, .d (.leaf (.int .i64)))], [.var [.d (.leaf (.lst 1)), .d (.leaf (.int .i64))], .row 81 11 0]⟩
noncomputable def ref09_MakeItems_L0.body : Code := bodyAt C 32 0
noncomputable def ref09_MakeItems_L0 (n : Nat) (x0 x1 x2 x3 x4 x5 : D) : Out := run C n (.loop 32 ref09_MakeItems.osk [(0, 0)] [] false 0 ref09_MakeItems_L0.body ref09_MakeItems_L0.sk [x0, x1, x2, x3, x4, x5])
def law09_items_L0.sk : Sk := ⟨[(3, .row 0), (6, .d (.leaf (.lst 11))), (7, .d (.leaf (.int .i64))), (8, .d (.leaf (.int .i64)))], [.row 48 14 0]⟩
noncomputable def law09_items_L0.body : Code := bodyAt C 33 0
noncomputable def law09_items_L0 (n : Nat) (x0 x1 x2 x3 : D) : Out := run C n (.loop 33 law09_items.osk [] [] false 0 law09_items_L0.body law09_items_L0.sk [x0, x1, x2, x3])
def ast_printer_module_L0.sk : Sk := ⟨[(0, .ptr 0 0), (3, .ptr 1 0), (21, .d (.leaf (.lst 14))), (22, .d (.leaf (.int .i64))), (23, .d (.leaf (.int .i64)))], [.var [.bp 90 0 0, .row 2, .d (.leaf .bool)], .var [.d (.leaf .str), .d (.leaf (.int .i64)), .d (.leaf (.int .i64)), .d (.leaf (.int .i64)), .d (.leaf (.lst 14)), .d (.leaf (.lst 14)), .d (.leaf (.lst 14))], .row 5 1 0]⟩
noncomputable def ast_printer_module_L0.body : Code := bodyAt C 34 0
noncomputable def ast_printer_module_L0 (n : Nat) (x0 x1 x2 x3 x4 x5 x6 x7 x8 x9 x10 x11 : D) : Out := run C n (.loop 34 ast_printer_module.osk [(0, 0)] [] false 0 ast_printer_module_L0.body ast_printer_module_L0.sk [x0, x1, x2, x3, x4, x5, x6, x7, x8, x9, x10, x11])
def ast_printer_module_L2.sk : Sk := ⟨[(0, .ptr 0 0), (3, .ptr 1 0), (44, .d (.leaf (.lst 14))), (45, .d (.leaf (.int .i64))), (46, .d (.leaf (.int .i64)))], [.var [.bp 90 0 0, .row 2, .d (.leaf .bool)], .var [.d (.leaf .str), .d (.leaf (.int .i64)), .d (.leaf (.int .i64)), .d (.leaf (.int .i64)), .d (.leaf (.lst 14)), .d (.leaf (.lst 14)), .d (.leaf (.lst 14))], .row 5 1 0]⟩
noncomputable def ast_printer_module_L2.body : Code := bodyAt C 34 2
noncomputable def ast_printer_module_L2 (n : Nat) (x0 x1 x2 x3 x4 x5 x6 x7 x8 x9 x10 x11 : D) : Out := run C n (.loop 34 ast_printer_module.osk [(0, 0)] [] false 2 ast_printer_module_L2.body ast_printer_module_L2.sk [x0, x1, x2, x3, x4, x5, x6, x7, x8, x9, x10, x11])
def ref09_ItemsWords_L0.sk : Sk := ⟨[(0, .d (.leaf (.lst 11))), (3, .row 0), (4, .d (.leaf (.int .i64)))], [.row 9 1 0]⟩
noncomputable def ref09_ItemsWords_L0.body : Code := bodyAt C 37 0
noncomputable def ref09_ItemsWords_L0 (n : Nat) (x0 x1 x2 : D) : Out := run C n (.loop 37 ref09_ItemsWords.osk [] [] false 0 ref09_ItemsWords_L0.body ref09_ItemsWords_L0.sk [x0, x1, x2])
def ast_Names_1_c5.sk : Sk := ⟨[(1, .ptr 0 0), (2, .ptr 1 0), (5, .d (.leaf .bool))], [.var [.row 2], .var [.d (.leaf (.int .i64)), .d (.leaf (.int .i64)), .d (.leaf (.int .i64)), .d (.leaf (.int .i64)), .d (.leaf .str), .d (.leaf (.lst 6))], .row 9 1 0]⟩
noncomputable def ast_Names_1_c5.body : Code := condAt C 50 5
noncomputable def ast_Names_1_c5 (n : Nat) (x0 x1 x2 x3 x4 x5 x6 x7 : D) : Out := run C n (.loop 50 ast_Names_1.osk [(0, 0)] [] true 0 ast_Names_1_c5.body ast_Names_1_c5.sk [x0, x1, x2, x3, x4, x5, x6, x7])
def ref09_MakeExprs_L0.sk : Sk := ⟨[(0, .ptr 0 0), (1, .d (.leaf (.int .i64))), (2, .d (.leaf (.int .i64))), (7, .row 1), (8, .d (.leaf (.int .i64)))], [.var [.d (.leaf (.lst 1)), .d (.leaf (.int .i64))], .row 52 6 0]⟩
noncomputable def ref09_MakeExprs_L0.body : Code := bodyAt C 30 0
noncomputable def ref09_MakeExprs_L0 (n : Nat) (x0 x1 x2 x3 x4 x5 : D) : Out := run C n (.loop 30 ref09_MakeExprs.osk [(0, 0)] [] false 0 ref09_MakeExprs_L0.body ref09_MakeExprs_L0.sk [x0, x1, x2, x3, x4, x5])
def ast_printer_word_L0.sk : Sk := ⟨[(0, .ptr 0 0), (6, .d (.leaf (.lst 1))), (7, .d (.leaf (.int .i64))), (8, .d (.leaf (.int .i64)))], [.var [.bp 90 0 0, .row 1, .d (.leaf .bool)], .row 5 1 0]⟩
noncomputable def ast_printer_word_L0.body : Code := bodyAt C 59 0
noncomputable def ast_printer_word_L0 (n : Nat) (x0 x1 x2 x3 x4 : D) : Out := run C n (.loop 59 ast_printer_word.osk [(0, 0)] [] false 0 ast_printer_word_L0.body ast_printer_word_L0.sk [x0, x1, x2, x3, x4])
def ast_printer_items_L0.sk : Sk := ⟨[(0, .ptr 0 0), (6, .d (.leaf (.lst 14))), (7, .d (.leaf (.int .i64))), (8, .d (.leaf (.int .i64)))], [.var [.bp 90 0 0, .row 1, .d (.leaf .bool)], .row 5 1 0]⟩
noncomputable def ast_printer_items_L0.body : Code := bodyAt C 63 0
noncomputable def ast_printer_items_L0 (n : Nat) (x0 x1 x2 x3 x4 : D) : Out := run C n (.loop 63 ast_printer_items.osk [(0, 0)] [] false 0 ast_printer_items_L0.body ast_printer_items_L0.sk [x0, x1, x2, x3, x4])
def ref09_MakeItem_L1.sk : Sk := ⟨[(0, .ptr 0 0), (4, .ptr 1 0), (6, .ptr 2 0), (7, .d (.leaf (.int .i64)))], [.var [.d (.leaf (.lst 1)), .d (.leaf (.int .i64))], .var [.d (.leaf (.int .i64)), .d (.leaf .str), .d (.leaf .str), .d (.leaf .bool), .row 3, .row 4, .row 5, .row 6, .row 7, .row 8, .row 9], .var [.d (.leaf (.int .i64)), .d (.leaf .str), .d (.leaf .str), .d (.leaf .bool), .row 10, .row 11, .row 12, .row 13, .row 14, .row 15, .row 16], .row 52 6 0, .row 52 6 0, .row 138 5 0, .row 81 11 0, .row 81 11 0, .row 150 2 0, .row 150 2 0, .row 52 6 0, .row 52 6 0, .row 138 5 0, .row 81 11 0, .row 81 11 0, .row 150 2 0, .row 150 2 0]⟩
noncomputable def ref09_MakeItem_L1.body : Code := bodyAt C 55 1
noncomputable def ref09_MakeItem_L1 (n : Nat) (x0 x1 x2 x3 x4 x5 x6 x7 x8 x9 x10 x11 x12 x13 x14 x15 x16 x17 x18 x19 x20 x21 x22 x23 x24 : D) : Out := run C n (.loop 55 ref09_MakeItem.osk [(0, 0)] [] false 1 ref09_MakeItem_L1.body ref09_MakeItem_L1.sk [x0, x1, x2, x3, x4, x5, x6, x7, x8, x9, x10, x11, x12, x13, x14, x15, x16, x17, x18, x19, x20, x21, x22, x23, x24])
def law09_OwnExprs_L0.sk : Sk := ⟨[(3, .row 0), (6, .d (.leaf (.lst 6))), (7, .d (.leaf (.int .i64))), (8, .d (.leaf (.int .i64)))], [.row 55 6 0]⟩
noncomputable def law09_OwnExprs_L0.body : Code := bodyAt C 56 0
noncomputable def law09_OwnExprs_L0 (n : Nat) (x0 x1 x2 x3 : D) : Out := run C n (.loop 56 law09_OwnExprs.osk [] [] false 0 law09_OwnExprs_L0.body law09_OwnExprs_L0.sk [x0, x1, x2, x3])
def law09_stmts_L0.sk : Sk := ⟨[(3, .row 0), (9, .d (.leaf (.lst 5))), (10, .d (.leaf (.int .i64))), (11, .d (.leaf (.int .i64)))], [.row 144 8 0]⟩
noncomputable def law09_stmts_L0.body : Code := bodyAt C 57 0
noncomputable def law09_stmts_L0 (n : Nat) (x0 x1 x2 x3 : D) : Out := run C n (.loop 57 law09_stmts.osk [] [] false 0 law09_stmts_L0.body law09_stmts_L0.sk [x0, x1, x2, x3])
def law09_conns_L0.sk : Sk := ⟨[(3, .row 0), (6, .d (.leaf (.lst 2))), (7, .d (.leaf (.int .i64))), (8, .d (.leaf (.int .i64)))], [.row 152 5 0]⟩
noncomputable def law09_conns_L0.body : Code := bodyAt C 58 0
noncomputable def law09_conns_L0 (n : Nat) (x0 x1 x2 x3 : D) : Out := run C n (.loop 58 law09_conns.osk [] [] false 0 law09_conns_L0.body law09_conns_L0.sk [x0, x1, x2, x3])
def ref09_List_L0.sk : Sk := ⟨[(0, .d (.leaf (.lst 6))), (3, .row 0), (4, .d (.leaf (.int .i64)))], [.row 9 1 0]⟩
noncomputable def ref09_List_L0.body : Code := bodyAt C 41 0
noncomputable def ref09_List_L0 (n : Nat) (x0 x1 x2 : D) : Out := run C n (.loop 41 ref09_List.osk [] [] false 0 ref09_List_L0.body ref09_List_L0.sk [x0, x1, x2])
def ref09_MakeExpr_c10.sk : Sk := ⟨[(0, .ptr 0 0), (1, .d (.leaf (.int .i64))), (4, .ptr 1 0), (5, .d (.leaf (.int .i64))), (10, .d (.leaf .bool))], [.var [.d (.leaf (.lst 1)), .d (.leaf (.int .i64))], .var [.d (.leaf (.int .i64)), .d (.leaf (.int .i64)), .d (.leaf (.int .i64)), .d (.leaf (.int .i64)), .d (.leaf .str), .row 2], .row 52 6 0]⟩
noncomputable def ref09_MakeExpr_c10.body : Code := condAt C 22 10
noncomputable def ref09_MakeExpr_c10 (n : Nat) (x0 x1 x2 x3 x4 x5 x6 x7 x8 x9 x10 : D) : Out := run C n (.loop 22 ref09_MakeExpr.osk [(0, 0)] [] true 0 ref09_MakeExpr_c10.body ref09_MakeExpr_c10.sk [x0, x1, x2, x3, x4, x5, x6, x7, x8, x9, x10])
def ref09_MakeStmt_L1.sk : Sk := ⟨[(0, .ptr 0 0), (1, .d (.leaf (.int .i64))), (4, .ptr 1 0), (6, .ptr 2 0), (7, .d (.leaf (.int .i64)))], [.var [.d (.leaf (.lst 1)), .d (.leaf (.int .i64))], .var [.d (.leaf (.int .i64)), .d (.leaf .str), .row 3, .row 4, .row 5], .var [.d (.leaf (.int .i64)), .d (.leaf .str), .row 6, .row 7, .row 8], .row 52 6 0, .row 138 5 0, .row 146 6 0, .row 52 6 0, .row 138 5 0, .row 146 6 0]⟩
noncomputable def ref09_MakeStmt_L1.body : Code := bodyAt C 78 1
noncomputable def ref09_MakeStmt_L1 (n : Nat) (x0 x1 x2 x3 x4 x5 x6 x7 x8 x9 x10 x11 x12 x13 : D) : Out := run C n (.loop 78 ref09_MakeStmt.osk [(0, 0)] [] false 1 ref09_MakeStmt_L1.body ref09_MakeStmt_L1.sk [x0, x1, x2, x3, x4, x5, x6, x7, x8, x9, x10, x11, x12, x13])
def ref09_MakeStmt_L3.sk : Sk := ⟨[(0, .ptr 0 0), (1, .d (.leaf (.int .i64))), (4, .ptr 1 0), (9, .ptr 2 0), (10, .d (.leaf (.int .i64)))], [.var [.d (.leaf (.lst 1)), .d (.leaf (.int .i64))], .var [.d (.leaf (.int .i64)), .d (.leaf .str), .row 3, .row 4, .row 5], .var [.d (.leaf (.int .i64)), .d (.leaf .str), .row 6, .row 7, .row 8], .row 52 6 0, .row 138 5 0, .row 146 6 0, .row 52 6 0, .row 138 5 0, .row 146 6 0]⟩
noncomputable def ref09_MakeStmt_L3.body : Code := bodyAt C 78 3
noncomputable def ref09_MakeStmt_L3 (n : Nat) (x0 x1 x2 x3 x4 x5 x6 x7 x8 x9 x10 x11 x12 x13 : D) : Out := run C n (.loop 78 ref09_MakeStmt.osk [(0, 0)] [] false 3 ref09_MakeStmt_L3.body ref09_MakeStmt_L3.sk [x0, x1, x2, x3, x4, x5, x6, x7, x8, x9, x10, x11, x12, x13])
def ref09_MakeConns_L0.sk : Sk := ⟨[(0, .ptr 0 0), (3, .row 1), (4, .d (.leaf (.int .i64)))], [.var [.d (.leaf (.lst 1)), .d (.leaf (.int .i64))], .row 150 2 0]⟩
noncomputable def ref09_MakeConns_L0.body : Code := bodyAt C 79 0
noncomputable def ref09_MakeConns_L0 (n : Nat) (x0 x1 x2 x3 : D) : Out := run C n (.loop 79 ref09_MakeConns.osk [(0, 0)] [] false 0 ref09_MakeConns_L0.body ref09_MakeConns_L0.sk [x0, x1, x2, x3])
def law09_stmts_L2.sk : Sk := ⟨[(3, .row 0), (6, .ptr 1 0), (9, .d (.leaf (.lst 5))), (10, .d (.leaf (.int .i64))), (11, .d (.leaf (.int .i64))), (27, .d (.leaf (.lst 6))), (28, .d (.leaf (.int .i64))), (29, .d (.leaf (.int .i64)))], [.row 144 8 0, .var [.d (.leaf (.int .i64)), .d (.leaf (.int .i64)), .d (.leaf (.int .i64)), .d (.leaf (.int .i64)), .d (.leaf .str), .row 2, .row 3, .row 4], .row 55 6 0, .row 144 8 0, .row 148 9 0]⟩
noncomputable def law09_stmts_L2.body : Code := bodyAt C 57 2
noncomputable def law09_stmts_L2 (n : Nat) (x0 x1 x2 x3 x4 x5 x6 x7 x8 x9 x10 x11 x12 x13 x14 : D) : Out := run C n (.loop 57 law09_stmts.osk [] [] false 2 law09_stmts_L2.body law09_stmts_L2.sk [x0, x1, x2, x3, x4, x5, x6, x7, x8, x9, x10, x11, x12, x13, x14])
def ast_printer_list_L0.sk : Sk := ⟨[(0, .ptr 0 0), (6, .d (.leaf (.lst 6))), (7, .d (.leaf (.int .i64))), (8, .d (.leaf (.int .i64)))], [.var [.bp 90 0 0, .row 1, .d (.leaf .bool)], .row 5 1 0]⟩
noncomputable def ast_printer_list_L0.body : Code := bodyAt C 84 0
noncomputable def ast_printer_list_L0 (n : Nat) (x0 x1 x2 x3 x4 : D) : Out := run C n (.loop 84 ast_printer_list.osk [(0, 0)] [] false 0 ast_printer_list_L0.body ast_printer_list_L0.sk [x0, x1, x2, x3, x4])
def ast_printer_bounds_L0.sk : Sk := ⟨[(0, .ptr 0 0), (12, .d (.leaf (.lst 6))), (13, .d (.leaf (.int .i64))), (14, .d (.leaf (.int .i64)))], [.var [.bp 90 0 0, .row 1, .d (.leaf .bool)], .row 5 1 0]⟩
noncomputable def ast_printer_bounds_L0.body : Code := bodyAt C 86 0
noncomputable def ast_printer_bounds_L0 (n : Nat) (x0 x1 x2 x3 x4 : D) : Out := run C n (.loop 86 ast_printer_bounds.osk [(0, 0)] [] false 0 ast_printer_bounds_L0.body ast_printer_bounds_L0.sk [x0, x1, x2, x3, x4])
def ref09_StmtWords_L1.sk : Sk := ⟨[(1, .ptr 0 0), (3, .row 1), (4, .d (.leaf (.int .i64)))], [.var [.d (.leaf (.int .i64)), .d (.leaf .str), .d (.leaf (.lst 6)), .d (.leaf (.lst 5)), .d (.leaf (.lst 6))], .row 9 1 0]⟩
noncomputable def ref09_StmtWords_L1.body : Code := bodyAt C 88 1
noncomputable def ref09_StmtWords_L1 (n : Nat) (x0 x1 x2 x3 x4 x5 x6 : D) : Out := run C n (.loop 88 ref09_StmtWords.osk [] [] false 1 ref09_StmtWords_L1.body ref09_StmtWords_L1.sk [x0, x1, x2, x3, x4, x5, x6])
def ref09_StmtWords_L3.sk : Sk := ⟨[(1, .ptr 0 0), (3, .row 1), (5, .d (.leaf (.int .i64)))], [.var [.d (.leaf (.int .i64)), .d (.leaf .str), .d (.leaf (.lst 6)), .d (.leaf (.lst 5)), .d (.leaf (.lst 6))], .row 9 1 0]⟩
noncomputable def ref09_StmtWords_L3.body : Code := bodyAt C 88 3
noncomputable def ref09_StmtWords_L3 (n : Nat) (x0 x1 x2 x3 x4 x5 x6 : D) : Out := run C n (.loop 88 ref09_StmtWords.osk [] [] false 3 ref09_StmtWords_L3.body ref09_StmtWords_L3.sk [x0, x1, x2, x3, x4, x5, x6])
def ref09_conns_L0.sk : Sk := ⟨[(0, .d (.leaf (.lst 2))), (3, .row 0), (4, .d (.leaf (.int .i64)))], [.row 9 1 0]⟩
noncomputable def ref09_conns_L0.body : Code := bodyAt C 89 0
noncomputable def ref09_conns_L0 (n : Nat) (x0 x1 x2 : D) : Out := run C n (.loop 89 ref09_conns.osk [] [] false 0 ref09_conns_L0.body ref09_conns_L0.sk [x0, x1, x2])
def ref09_blocks_L0.sk : Sk := ⟨[(0, .d (.leaf (.lst 11))), (3, .row 0), (4, .d (.leaf (.int .i64)))], [.row 9 1 0]⟩
noncomputable def ref09_blocks_L0.body : Code := bodyAt C 91 0
noncomputable def ref09_blocks_L0 (n : Nat) (x0 x1 x2 : D) : Out := run C n (.loop 91 ref09_blocks.osk [] [] false 0 ref09_blocks_L0.body ref09_blocks_L0.sk [x0, x1, x2])
def ast_printer_between_L0.sk : Sk := ⟨[(0, .ptr 0 0), (2, .d (.leaf (.lst 1))), (8, .d (.leaf (.lst 6))), (9, .d (.leaf (.int .i64))), (10, .d (.leaf (.int .i64)))], [.var [.bp 90 0 0, .row 1, .d (.leaf .bool)], .row 5 1 0]⟩
noncomputable def ast_printer_between_L0.body : Code := bodyAt C 127 0
noncomputable def ast_printer_between_L0 (n : Nat) (x0 x1 x2 x3 x4 x5 : D) : Out := run C n (.loop 127 ast_printer_between.osk [(0, 0)] [] false 0 ast_printer_between_L0.body ast_printer_between_L0.sk [x0, x1, x2, x3, x4, x5])
def ast_printer_stmt_L1.sk : Sk := ⟨[(0, .ptr 0 0), (19, .d (.leaf (.lst 8))), (20, .d (.leaf (.int .i64))), (21, .d (.leaf (.int .i64)))], [.var [.bp 90 0 0, .row 1, .d (.leaf .bool)], .row 5 1 0]⟩
noncomputable def ast_printer_stmt_L1.body : Code := bodyAt C 128 1
noncomputable def ast_printer_stmt_L1 (n : Nat) (x0 x1 x2 x3 x4 : D) : Out := run C n (.loop 128 ast_printer_stmt.osk [(0, 0)] [] false 1 ast_printer_stmt_L1.body ast_printer_stmt_L1.sk [x0, x1, x2, x3, x4])
def ast_printer_stmt_L3.sk : Sk := ⟨[(0, .ptr 0 0), (111, .d (.leaf (.lst 9))), (112, .d (.leaf (.int .i64))), (113, .d (.leaf (.int .i64)))], [.var [.bp 90 0 0, .row 1, .d (.leaf .bool)], .row 5 1 0]⟩
noncomputable def ast_printer_stmt_L3.body : Code := bodyAt C 128 3
noncomputable def ast_printer_stmt_L3 (n : Nat) (x0 x1 x2 x3 x4 : D) : Out := run C n (.loop 128 ast_printer_stmt.osk [(0, 0)] [] false 3 ast_printer_stmt_L3.body ast_printer_stmt_L3.sk [x0, x1, x2, x3, x4])
def ast_printer_conns_L0.sk : Sk := ⟨[(0, .ptr 0 0), (9, .d (.leaf (.lst 5))), (10, .d (.leaf (.int .i64))), (11, .d (.leaf (.int .i64)))], [.var [.bp 90 0 0, .row 1, .d (.leaf .bool)], .row 5 1 0]⟩
noncomputable def ast_printer_conns_L0.body : Code := bodyAt C 130 0
noncomputable def ast_printer_conns_L0 (n : Nat) (x0 x1 x2 x3 x4 : D) : Out := run C n (.loop 130 ast_printer_conns.osk [(0, 0)] [] false 0 ast_printer_conns_L0.body ast_printer_conns_L0.sk [x0, x1, x2, x3, x4])
def ast_printer_block_L0.sk : Sk := ⟨[(0, .ptr 0 0), (6, .d (.leaf (.lst 14))), (7, .d (.leaf (.int .i64))), (8, .d (.leaf (.int .i64)))], [.var [.bp 90 0 0, .row 1, .d (.leaf .bool)], .row 5 1 0]⟩
noncomputable def ast_printer_block_L0.body : Code := bodyAt C 132 0
noncomputable def ast_printer_block_L0 (n : Nat) (x0 x1 x2 x3 x4 : D) : Out := run C n (.loop 132 ast_printer_block.osk [(0, 0)] [] false 0 ast_printer_block_L0.body ast_printer_block_L0.sk [x0, x1, x2, x3, x4])
def slices_Sort_string.orc : Sk → List D → Option (List D) := orcSort
def slices_Compact_string.orc : Sk → List D → Option (List D) := orcCompact 9
def strings_Split.orc : Sk → List D → Option (List D) := orcSplit 9
theorem strings_Split_orc (n : Nat) (x0 x1 : D) (r : List D) (h : strings_Split.orc strings_Split.sk [x0, x1] = some r) : strings_Split (n + 1) x0 x1 = some (true, r) := by
  show (match C.orc 85 strings_Split.sk [x0, x1] with | some r => some (true, r) | none => _) = _
  rw [show C.orc 85 strings_Split.sk [x0, x1] = some r from h]
end Go.Proofs.YtalibicpmfbieaaGreatDoor
