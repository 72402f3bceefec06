/- By a program (aegen.py): the functions of this seat as tasks of the interpreter. -/
import Derived.Test.YtfadegfceobogaaEng
import Derived.Test.YtfadegfceobogaaProg
import Derived.KernelRfl
namespace Go.Proofs.Ytfadegfceobogaa
open Go.AE
set_option linter.unusedVariables false
def ownTab : List (Nat × Nat × Nat) := [(25, 0, 2), (26, 0, 1)]
def dresTab : List (Nat × Nat × Nat) := [(8, 0, 1)]
def keepTab : List (Nat × Nat × List Nat) := [(3, 0, [5, 6, 7, 8, 37, 38, 39]),
  (3, 2, [5, 6, 7, 8, 11, 48, 49, 50]),
  (4, 0, [0, 7, 8, 9, 10, 11, 12]),
  (10, 0, [3, 7, 8, 9]),
  (11, 0, [0, 3, 4, 5]),
  (11, 2, [0, 3, 4, 5, 6, 7]),
  (11, 4, [0, 3, 4, 5, 6, 8]),
  (12, 0, [3, 6, 7, 8]),
  (13, 0, [0, 3, 4]),
  (13, 2, [0, 3, 4, 5, 6]),
  (13, 4, [0, 3, 4, 5, 7]),
  (16, 0, [3, 6, 7, 8]),
  (20, 0, [0, 1, 2, 7, 8]),
  (22, 0, [1, 10, 11, 12]),
  (26, 0, [0, 3]),
  (26, 2, [0, 3, 4, 5]),
  (27, 0, [0, 3]),
  (29, 0, [0, 1, 2, 7, 8]),
  (30, 0, [3, 6, 7, 8]),
  (33, 0, [0, 3, 4]),
  (34, 0, [1, 2, 15, 16, 17]),
  (40, 1, [0, 4, 6, 7]),
  (41, 0, [3, 9, 10, 11]),
  (41, 2, [3, 6, 9, 10, 11, 27, 28, 29]),
  (42, 0, [3, 6, 7, 8]),
  (44, 0, [0, 3, 4]),
  (47, 0, [1, 2, 15, 16, 17]),
  (61, 1, [0, 1, 4, 6, 7]),
  (61, 3, [0, 1, 4, 9, 10]),
  (62, 0, [0, 3, 4]),
  (64, 1, [1, 3, 4]),
  (64, 3, [1, 3, 5]),
  (65, 0, [0, 3, 4]),
  (67, 0, [0, 3, 4]),
  (68, 0, [1, 2, 15, 16, 17]),
  (70, 0, [1, 2, 15, 16, 17]),
  (72, 0, [1, 2, 15, 16, 17]),
  (81, 0, [1, 2, 15, 16, 17])]
def cutTab : List (Nat × Nat × List Nat) := [(7, 10, [0, 1, 4, 5, 10]),
  (23, 5, [1, 2, 5])]
def extList : List (Nat × (List D → Option (Bool × List D))) := []
def orcList : List (Nat × (Sk → List D → Option (List D))) := [(26, orcCompact 9), (25, orcSort)]
noncomputable def C : Cfg := { P := Try.prog, own := tab2 ownTab, dres := tab2 dresTab, keep := tabL keepTab, cut := tabL cutTab, orc := orcTab orcList, ext := extTab extList, gok := fun _ => True }
def ty_iiiisl6 : Ty := .agg [.int .i64, .int .i64, .int .i64, .int .i64, .str, .lst 6]
def ty_siiil14l14l14 : Ty := .agg [.str, .int .i64, .int .i64, .int .i64, .lst 14, .lst 14, .lst 14]
def ty_sl11l11l11 : Ty := .agg [.str, .lst 11, .lst 11, .lst 11]
def ty_issbl6l6l5l11l11l2l2 : Ty := .agg [.int .i64, .str, .str, .bool, .lst 6, .lst 6, .lst 5, .lst 11, .lst 11, .lst 2, .lst 2]
def ty_isl6l5l6 : Ty := .agg [.int .i64, .str, .lst 6, .lst 5, .lst 6]
def ty_sl6 : Ty := .agg [.str, .lst 6]
def ty_iiiissbl6l6l8l14l14l5l5 : Ty := .agg [.int .i64, .int .i64, .int .i64, .int .i64, .str, .str, .bool, .lst 6, .lst 6, .lst 8, .lst 14, .lst 14, .lst 5, .lst 5]
def ty_l6isl6l5l6 : Ty := .agg [.lst 6, .int .i64, .str, .lst 6, .lst 5, .lst 6]
def ty_iiiisl6l8l9 : Ty := .agg [.int .i64, .int .i64, .int .i64, .int .i64, .str, .lst 6, .lst 8, .lst 9]
def ty_siiil6 : Ty := .agg [.str, .int .i64, .int .i64, .int .i64, .lst 6]
def ty_l6iiiisl6l8l9 : Ty := .agg [.lst 6, .int .i64, .int .i64, .int .i64, .int .i64, .str, .lst 6, .lst 8, .lst 9]
def law09_AstJoins.sk : Sk := ⟨[(0, .d (.leaf (.lst 1))), (1, .d (.leaf (.lst 1)))], []⟩
def law09_AstJoins.osk : Sk := ⟨[(0, .d (.leaf .bool))], []⟩
noncomputable def law09_AstJoins (n : Nat) (x0 x1 : D) : Out := run C n (.call 3 law09_AstJoins.sk [x0, x1])
def law09_AstSame.sk : Sk := ⟨[(0, .d (.leaf (.lst 1))), (1, .d (.leaf (.lst 1)))], []⟩
def law09_AstSame.osk : Sk := ⟨[(0, .d (.leaf .bool))], []⟩
noncomputable def law09_AstSame (n : Nat) (x0 x1 : D) : Out := run C n (.call 4 law09_AstSame.sk [x0, x1])
def law09_awake.sk : Sk := ⟨[], []⟩
def law09_awake.osk : Sk := ⟨[(0, .d (.leaf .bool))], []⟩
noncomputable def law09_awake (n : Nat) : Out := run C n (.call 5 law09_awake.sk [])
def law09_Short.sk : Sk := ⟨[(0, .d (.leaf (.lst 1)))], []⟩
def law09_Short.osk : Sk := ⟨[(0, .d (.leaf (.lst 1)))], []⟩
noncomputable def law09_Short (n : Nat) (x0 : D) : Out := run C n (.call 8 law09_Short.sk [x0])
def ref09_MakeExpr.sk : Sk := ⟨[(0, .ptr 0 0), (1, .d (.leaf (.int .i64)))], [.var [.d (.leaf (.lst 1)), .d (.leaf (.int .i64))]]⟩
def ref09_MakeExpr.osk : Sk := ⟨[(0, .d ty_iiiisl6)], [.var [.d (.leaf (.lst 1)), .d (.leaf (.int .i64))]]⟩
noncomputable def ref09_MakeExpr (n : Nat) (x0 x1 x2 : D) : Out := run C n (.call 7 ref09_MakeExpr.sk [x0, x1, x2])
def law09_OwnExpr.sk : Sk := ⟨[(0, .d ty_iiiisl6)], []⟩
def law09_OwnExpr.osk : Sk := ⟨[(0, .d ty_iiiisl6)], []⟩
noncomputable def law09_OwnExpr (n : Nat) (x0 : D) : Out := run C n (.call 6 law09_OwnExpr.sk [x0])
def ast_Names.sk : Sk := ⟨[(0, .d ty_iiiisl6)], []⟩
def ast_Names.osk : Sk := ⟨[(0, .row 0)], [.row 9 1 0]⟩
noncomputable def ast_Names (n : Nat) (x0 : D) : Out := run C n (.call 9 ast_Names.sk [x0])
def ast_Depth.sk : Sk := ⟨[(0, .d ty_iiiisl6)], []⟩
def ast_Depth.osk : Sk := ⟨[(0, .d (.leaf (.int .i64)))], []⟩
noncomputable def ast_Depth (n : Nat) (x0 : D) : Out := run C n (.call 10 ast_Depth.sk [x0])
def ref09_Make.sk : Sk := ⟨[(0, .d (.leaf (.lst 1)))], []⟩
def ref09_Make.osk : Sk := ⟨[(0, .row 0)], [.row 67 4 0]⟩
noncomputable def ref09_Make (n : Nat) (x0 : D) : Out := run C n (.call 11 ref09_Make.sk [x0])
def law09_Own.sk : Sk := ⟨[(0, .d (.leaf (.lst 4)))], []⟩
def law09_Own.osk : Sk := ⟨[(0, .row 0)], [.row 52 7 0]⟩
noncomputable def law09_Own (n : Nat) (x0 : D) : Out := run C n (.call 12 law09_Own.sk [x0])
def ref09_Words.sk : Sk := ⟨[(0, .d (.leaf (.lst 4)))], []⟩
def ref09_Words.osk : Sk := ⟨[(0, .row 0)], [.row 9 1 0]⟩
noncomputable def ref09_Words (n : Nat) (x0 : D) : Out := run C n (.call 13 ref09_Words.sk [x0])
def ast_Same.sk : Sk := ⟨[(0, .d (.leaf (.lst 7))), (1, .d (.leaf (.lst 7)))], []⟩
def ast_Same.osk : Sk := ⟨[(0, .d (.leaf .bool))], []⟩
noncomputable def ast_Same (n : Nat) (x0 x1 : D) : Out := run C n (.call 14 ast_Same.sk [x0, x1])
def law09_Make.sk : Sk := ⟨[(0, .d (.leaf (.lst 1)))], []⟩
def law09_Make.osk : Sk := ⟨[(0, .row 0)], [.row 52 7 0]⟩
noncomputable def law09_Make (n : Nat) (x0 : D) : Out := run C n (.call 15 law09_Make.sk [x0])
def ref09_Next.sk : Sk := ⟨[(0, .ptr 0 0), (1, .d (.leaf (.int .i64)))], [.var [.d (.leaf (.lst 1)), .d (.leaf (.int .i64))]]⟩
def ref09_Next.osk : Sk := ⟨[(0, .d (.leaf (.int .i64)))], [.var [.d (.leaf (.lst 1)), .d (.leaf (.int .i64))]]⟩
noncomputable def ref09_Next (n : Nat) (x0 x1 x2 : D) : Out := run C n (.call 17 ref09_Next.sk [x0, x1, x2])
def ref09_name.sk : Sk := ⟨[(0, .ptr 0 0)], [.var [.d (.leaf (.lst 1)), .d (.leaf (.int .i64))]]⟩
def ref09_name.osk : Sk := ⟨[(0, .d (.leaf .str))], [.var [.d (.leaf (.lst 1)), .d (.leaf (.int .i64))]]⟩
noncomputable def ref09_name (n : Nat) (x0 x1 : D) : Out := run C n (.call 18 ref09_name.sk [x0, x1])
def ref09_number.sk : Sk := ⟨[(0, .ptr 0 0)], [.var [.d (.leaf (.lst 1)), .d (.leaf (.int .i64))]]⟩
def ref09_number.osk : Sk := ⟨[(0, .d (.leaf .str))], [.var [.d (.leaf (.lst 1)), .d (.leaf (.int .i64))]]⟩
noncomputable def ref09_number (n : Nat) (x0 x1 : D) : Out := run C n (.call 19 ref09_number.sk [x0, x1])
def ref09_MakeExprs.sk : Sk := ⟨[(0, .ptr 0 0), (1, .d (.leaf (.int .i64))), (2, .d (.leaf (.int .i64)))], [.var [.d (.leaf (.lst 1)), .d (.leaf (.int .i64))]]⟩
def ref09_MakeExprs.osk : Sk := ⟨[(0, .row 1)], [.var [.d (.leaf (.lst 1)), .d (.leaf (.int .i64))], .row 32 6 0]⟩
noncomputable def ref09_MakeExprs (n : Nat) (x0 x1 x2 x3 : D) : Out := run C n (.call 20 ref09_MakeExprs.sk [x0, x1, x2, x3])
def ref09_ops.sk : Sk := ⟨[], []⟩
def ref09_ops.osk : Sk := ⟨[(0, .row 0)], [.row 9 1 0]⟩
noncomputable def ref09_ops (n : Nat) : Out := run C n (.call 21 ref09_ops.sk [])
def law09_OwnExprs.sk : Sk := ⟨[(0, .d (.leaf (.lst 6)))], []⟩
def law09_OwnExprs.osk : Sk := ⟨[(0, .row 0)], [.row 28 6 0]⟩
noncomputable def law09_OwnExprs (n : Nat) (x0 : D) : Out := run C n (.call 16 law09_OwnExprs.sk [x0])
def ast_walk.sk : Sk := ⟨[(0, .d ty_iiiisl6), (1, .fn 23 [.ptr 0 0])], [.var [.row 1], .row 9 1 0]⟩
def ast_walk.osk : Sk := ⟨[], [.var [.row 1], .row 9 1 0]⟩
noncomputable def ast_walk (n : Nat) (x0 x1 : D) : Out := run C n (.call 22 ast_walk.sk [x0, x1])
def slices_Sort_string.sk : Sk := ⟨[(0, .row 0)], [.row 9 1 1]⟩
def slices_Sort_string.osk : Sk := ⟨[], [.row 9 1 1]⟩
noncomputable def slices_Sort_string (n : Nat) (x0 : D) : Out := run C n (.call 25 slices_Sort_string.sk [x0])
def slices_Compact_string.sk : Sk := ⟨[(0, .row 0)], [.row 9 1 2]⟩
def slices_Compact_string.osk : Sk := ⟨[(0, .row 1)], [.gone, .row 9 1 0]⟩
noncomputable def slices_Compact_string (n : Nat) (x0 : D) : Out := run C n (.call 26 slices_Compact_string.sk [x0])
def slices_EqualFunc_Module.sk : Sk := ⟨[(0, .d (.leaf (.lst 7))), (1, .d (.leaf (.lst 7))), (2, .fn 35 [])], []⟩
def slices_EqualFunc_Module.osk : Sk := ⟨[(0, .d (.leaf .bool))], []⟩
noncomputable def slices_EqualFunc_Module (n : Nat) (x0 x1 : D) : Out := run C n (.call 34 slices_EqualFunc_Module.sk [x0, x1])
def ast_Names_1.sk : Sk := ⟨[(0, .d ty_iiiisl6), (1, .ptr 0 0)], [.var [.row 1], .row 9 1 0]⟩
def ast_Names_1.osk : Sk := ⟨[], [.var [.row 1], .row 9 1 0]⟩
noncomputable def ast_Names_1 (n : Nat) (x0 x1 : D) : Out := run C n (.call 23 ast_Names_1.sk [x0, x1])
def ref02_Dec.sk : Sk := ⟨[(0, .d (.leaf (.int .i64)))], []⟩
def ref02_Dec.osk : Sk := ⟨[(0, .d (.leaf .str))], []⟩
noncomputable def ref02_Dec (n : Nat) (x0 : D) : Out := run C n (.call 27 ref02_Dec.sk [x0])
def ref09_MakeItems.sk : Sk := ⟨[(0, .ptr 0 0), (1, .d (.leaf (.int .i64))), (2, .d (.leaf (.int .i64)))], [.var [.d (.leaf (.lst 1)), .d (.leaf (.int .i64))]]⟩
def ref09_MakeItems.osk : Sk := ⟨[(0, .row 1)], [.var [.d (.leaf (.lst 1)), .d (.leaf (.int .i64))], .row 71 11 0]⟩
noncomputable def ref09_MakeItems (n : Nat) (x0 x1 x2 x3 : D) : Out := run C n (.call 29 ref09_MakeItems.sk [x0, x1, x2, x3])
def law09_items.sk : Sk := ⟨[(0, .d (.leaf (.lst 11)))], []⟩
def law09_items.osk : Sk := ⟨[(0, .row 0)], [.row 90 14 0]⟩
noncomputable def law09_items (n : Nat) (x0 : D) : Out := run C n (.call 30 law09_items.sk [x0])
def ref09_ItemsWords.sk : Sk := ⟨[(0, .d (.leaf (.lst 11)))], []⟩
def ref09_ItemsWords.osk : Sk := ⟨[(0, .row 0)], [.row 9 1 0]⟩
noncomputable def ref09_ItemsWords (n : Nat) (x0 : D) : Out := run C n (.call 33 ref09_ItemsWords.sk [x0])
def ref09_MakePort.sk : Sk := ⟨[(0, .ptr 0 0)], [.var [.d (.leaf (.lst 1)), .d (.leaf (.int .i64))]]⟩
def ref09_MakePort.osk : Sk := ⟨[(0, .d ty_issbl6l6l5l11l11l2l2)], [.var [.d (.leaf (.lst 1)), .d (.leaf (.int .i64))]]⟩
noncomputable def ref09_MakePort (n : Nat) (x0 x1 : D) : Out := run C n (.call 28 ref09_MakePort.sk [x0, x1])
def ref09_ExprWords.sk : Sk := ⟨[(0, .d ty_iiiisl6)], []⟩
def ref09_ExprWords.osk : Sk := ⟨[(0, .row 0)], [.row 9 1 0]⟩
noncomputable def ref09_ExprWords (n : Nat) (x0 : D) : Out := run C n (.call 31 ref09_ExprWords.sk [x0])
def ref09_net.sk : Sk := ⟨[(0, .d ty_issbl6l6l5l11l11l2l2)], []⟩
def ref09_net.osk : Sk := ⟨[(0, .row 0)], [.row 9 1 0]⟩
noncomputable def ref09_net (n : Nat) (x0 : D) : Out := run C n (.call 32 ref09_net.sk [x0])
def ast_sameModule.sk : Sk := ⟨[(0, .d ty_siiil14l14l14), (1, .d ty_siiil14l14l14)], []⟩
def ast_sameModule.osk : Sk := ⟨[(0, .d (.leaf .bool))], []⟩
noncomputable def ast_sameModule (n : Nat) (x0 x1 : D) : Out := run C n (.call 35 ast_sameModule.sk [x0, x1])
def strings_HasPrefix.sk : Sk := ⟨[(0, .d (.leaf .str)), (1, .d (.leaf .str))], []⟩
def strings_HasPrefix.osk : Sk := ⟨[(0, .d (.leaf .bool))], []⟩
noncomputable def strings_HasPrefix (n : Nat) (x0 x1 : D) : Out := run C n (.call 24 strings_HasPrefix.sk [x0, x1])
def ref09_MakeNet.sk : Sk := ⟨[(0, .ptr 0 0), (1, .d (.leaf .str)), (2, .d (.leaf (.int .i64)))], [.var [.d (.leaf (.lst 1)), .d (.leaf (.int .i64))]]⟩
def ref09_MakeNet.osk : Sk := ⟨[(0, .d ty_issbl6l6l5l11l11l2l2)], [.var [.d (.leaf (.lst 1)), .d (.leaf (.int .i64))]]⟩
noncomputable def ref09_MakeNet (n : Nat) (x0 x1 x2 x3 : D) : Out := run C n (.call 39 ref09_MakeNet.sk [x0, x1, x2, x3])
def ref09_MakeItem.sk : Sk := ⟨[(0, .ptr 0 0), (1, .d (.leaf (.int .i64)))], [.var [.d (.leaf (.lst 1)), .d (.leaf (.int .i64))]]⟩
def ref09_MakeItem.osk : Sk := ⟨[(0, .d ty_issbl6l6l5l11l11l2l2)], [.var [.d (.leaf (.lst 1)), .d (.leaf (.int .i64))]]⟩
noncomputable def ref09_MakeItem (n : Nat) (x0 x1 x2 : D) : Out := run C n (.call 40 ref09_MakeItem.sk [x0, x1, x2])
def law09_stmts.sk : Sk := ⟨[(0, .d (.leaf (.lst 5)))], []⟩
def law09_stmts.osk : Sk := ⟨[(0, .row 0)], [.row 114 8 0]⟩
noncomputable def law09_stmts (n : Nat) (x0 : D) : Out := run C n (.call 41 law09_stmts.sk [x0])
def law09_conns.sk : Sk := ⟨[(0, .d (.leaf (.lst 2)))], []⟩
def law09_conns.osk : Sk := ⟨[(0, .row 0)], [.row 122 5 0]⟩
noncomputable def law09_conns (n : Nat) (x0 : D) : Out := run C n (.call 42 law09_conns.sk [x0])
def ref09_arg.sk : Sk := ⟨[(0, .d ty_iiiisl6)], []⟩
def ref09_arg.osk : Sk := ⟨[(0, .row 0)], [.row 9 1 0]⟩
noncomputable def ref09_arg (n : Nat) (x0 : D) : Out := run C n (.call 43 ref09_arg.sk [x0])
def ref09_List.sk : Sk := ⟨[(0, .d (.leaf (.lst 6)))], []⟩
def ref09_List.osk : Sk := ⟨[(0, .row 0)], [.row 9 1 0]⟩
noncomputable def ref09_List (n : Nat) (x0 : D) : Out := run C n (.call 44 ref09_List.sk [x0])
def ref09_bounds.sk : Sk := ⟨[(0, .d (.leaf (.lst 6)))], []⟩
def ref09_bounds.osk : Sk := ⟨[(0, .row 0)], [.row 9 1 0]⟩
noncomputable def ref09_bounds (n : Nat) (x0 : D) : Out := run C n (.call 45 ref09_bounds.sk [x0])
def ref09_ItemWords.sk : Sk := ⟨[(0, .d ty_issbl6l6l5l11l11l2l2)], []⟩
def ref09_ItemWords.osk : Sk := ⟨[(0, .row 0)], [.row 9 1 0]⟩
noncomputable def ref09_ItemWords (n : Nat) (x0 : D) : Out := run C n (.call 46 ref09_ItemWords.sk [x0])
def slices_EqualFunc_Item.sk : Sk := ⟨[(0, .d (.leaf (.lst 14))), (1, .d (.leaf (.lst 14))), (2, .fn 48 [])], []⟩
def slices_EqualFunc_Item.osk : Sk := ⟨[(0, .d (.leaf .bool))], []⟩
noncomputable def slices_EqualFunc_Item (n : Nat) (x0 x1 : D) : Out := run C n (.call 47 slices_EqualFunc_Item.sk [x0, x1])
def internal_stringslite_HasPrefix.sk : Sk := ⟨[(0, .d (.leaf .str)), (1, .d (.leaf .str))], []⟩
def internal_stringslite_HasPrefix.osk : Sk := ⟨[(0, .d (.leaf .bool))], []⟩
noncomputable def internal_stringslite_HasPrefix (n : Nat) (x0 x1 : D) : Out := run C n (.call 36 internal_stringslite_HasPrefix.sk [x0, x1])
def ref09_left.sk : Sk := ⟨[(0, .ptr 0 0)], [.var [.d (.leaf (.lst 1)), .d (.leaf (.int .i64))]]⟩
def ref09_left.osk : Sk := ⟨[(0, .d ty_iiiisl6)], [.var [.d (.leaf (.lst 1)), .d (.leaf (.int .i64))]]⟩
noncomputable def ref09_left (n : Nat) (x0 x1 : D) : Out := run C n (.call 60 ref09_left.sk [x0, x1])
def ref09_MakeStmt.sk : Sk := ⟨[(0, .ptr 0 0), (1, .d (.leaf (.int .i64)))], [.var [.d (.leaf (.lst 1)), .d (.leaf (.int .i64))]]⟩
def ref09_MakeStmt.osk : Sk := ⟨[(0, .d ty_isl6l5l6)], [.var [.d (.leaf (.lst 1)), .d (.leaf (.int .i64))]]⟩
noncomputable def ref09_MakeStmt (n : Nat) (x0 x1 x2 : D) : Out := run C n (.call 61 ref09_MakeStmt.sk [x0, x1, x2])
def ref09_MakeConns.sk : Sk := ⟨[(0, .ptr 0 0)], [.var [.d (.leaf (.lst 1)), .d (.leaf (.int .i64))]]⟩
def ref09_MakeConns.osk : Sk := ⟨[(0, .row 1)], [.var [.d (.leaf (.lst 1)), .d (.leaf (.int .i64))], .row 120 2 0]⟩
noncomputable def ref09_MakeConns (n : Nat) (x0 x1 : D) : Out := run C n (.call 62 ref09_MakeConns.sk [x0, x1])
def ref09_paren.sk : Sk := ⟨[(0, .d ty_iiiisl6)], []⟩
def ref09_paren.osk : Sk := ⟨[(0, .row 0)], [.row 9 1 0]⟩
noncomputable def ref09_paren (n : Nat) (x0 : D) : Out := run C n (.call 63 ref09_paren.sk [x0])
def ref09_StmtWords.sk : Sk := ⟨[(0, .d ty_isl6l5l6)], []⟩
def ref09_StmtWords.osk : Sk := ⟨[(0, .row 0)], [.row 9 1 0]⟩
noncomputable def ref09_StmtWords (n : Nat) (x0 : D) : Out := run C n (.call 64 ref09_StmtWords.sk [x0])
def ref09_conns.sk : Sk := ⟨[(0, .d (.leaf (.lst 2)))], []⟩
def ref09_conns.osk : Sk := ⟨[(0, .row 0)], [.row 9 1 0]⟩
noncomputable def ref09_conns (n : Nat) (x0 : D) : Out := run C n (.call 65 ref09_conns.sk [x0])
def ref09_loop.sk : Sk := ⟨[(0, .d (.leaf .str)), (1, .d (.leaf (.lst 6)))], []⟩
def ref09_loop.osk : Sk := ⟨[(0, .row 0)], [.row 9 1 0]⟩
noncomputable def ref09_loop (n : Nat) (x0 x1 : D) : Out := run C n (.call 66 ref09_loop.sk [x0, x1])
def ref09_blocks.sk : Sk := ⟨[(0, .d (.leaf (.lst 11)))], []⟩
def ref09_blocks.osk : Sk := ⟨[(0, .row 0)], [.row 9 1 0]⟩
noncomputable def ref09_blocks (n : Nat) (x0 : D) : Out := run C n (.call 67 ref09_blocks.sk [x0])
def ref09_open.sk : Sk := ⟨[(0, .d ty_isl6l5l6)], []⟩
def ref09_open.osk : Sk := ⟨[(0, .d (.leaf .bool))], []⟩
noncomputable def ref09_open (n : Nat) (x0 : D) : Out := run C n (.call 80 ref09_open.sk [x0])
def ast_sameItem.sk : Sk := ⟨[(0, .d ty_iiiissbl6l6l8l14l14l5l5), (1, .d ty_iiiissbl6l6l8l14l14l5l5)], []⟩
def ast_sameItem.osk : Sk := ⟨[(0, .d (.leaf .bool))], []⟩
noncomputable def ast_sameItem (n : Nat) (x0 x1 : D) : Out := run C n (.call 48 ast_sameItem.sk [x0, x1])
def slices_EqualFunc_Expr.sk : Sk := ⟨[(0, .d (.leaf (.lst 6))), (1, .d (.leaf (.lst 6))), (2, .fn 69 [])], []⟩
def slices_EqualFunc_Expr.osk : Sk := ⟨[(0, .d (.leaf .bool))], []⟩
noncomputable def slices_EqualFunc_Expr (n : Nat) (x0 x1 : D) : Out := run C n (.call 68 slices_EqualFunc_Expr.sk [x0, x1])
def slices_EqualFunc_Stmt.sk : Sk := ⟨[(0, .d (.leaf (.lst 8))), (1, .d (.leaf (.lst 8))), (2, .fn 71 [])], []⟩
def slices_EqualFunc_Stmt.osk : Sk := ⟨[(0, .d (.leaf .bool))], []⟩
noncomputable def slices_EqualFunc_Stmt (n : Nat) (x0 x1 : D) : Out := run C n (.call 70 slices_EqualFunc_Stmt.sk [x0, x1])
def slices_EqualFunc_Conn.sk : Sk := ⟨[(0, .d (.leaf (.lst 5))), (1, .d (.leaf (.lst 5))), (2, .fn 73 [])], []⟩
def slices_EqualFunc_Conn.osk : Sk := ⟨[(0, .d (.leaf .bool))], []⟩
noncomputable def slices_EqualFunc_Conn (n : Nat) (x0 x1 : D) : Out := run C n (.call 72 slices_EqualFunc_Conn.sk [x0, x1])
def ast_sameExpr.sk : Sk := ⟨[(0, .d ty_iiiisl6), (1, .d ty_iiiisl6)], []⟩
def ast_sameExpr.osk : Sk := ⟨[(0, .d (.leaf .bool))], []⟩
noncomputable def ast_sameExpr (n : Nat) (x0 x1 : D) : Out := run C n (.call 69 ast_sameExpr.sk [x0, x1])
def ast_sameStmt.sk : Sk := ⟨[(0, .d ty_iiiisl6l8l9), (1, .d ty_iiiisl6l8l9)], []⟩
def ast_sameStmt.osk : Sk := ⟨[(0, .d (.leaf .bool))], []⟩
noncomputable def ast_sameStmt (n : Nat) (x0 x1 : D) : Out := run C n (.call 71 ast_sameStmt.sk [x0, x1])
def ast_sameConn.sk : Sk := ⟨[(0, .d ty_siiil6), (1, .d ty_siiil6)], []⟩
def ast_sameConn.osk : Sk := ⟨[(0, .d (.leaf .bool))], []⟩
noncomputable def ast_sameConn (n : Nat) (x0 x1 : D) : Out := run C n (.call 73 ast_sameConn.sk [x0, x1])
def slices_EqualFunc_Arm.sk : Sk := ⟨[(0, .d (.leaf (.lst 9))), (1, .d (.leaf (.lst 9))), (2, .fn 82 [])], []⟩
def slices_EqualFunc_Arm.osk : Sk := ⟨[(0, .d (.leaf .bool))], []⟩
noncomputable def slices_EqualFunc_Arm (n : Nat) (x0 x1 : D) : Out := run C n (.call 81 slices_EqualFunc_Arm.sk [x0, x1])
def ast_sameArm.sk : Sk := ⟨[(0, .d ty_l6iiiisl6l8l9), (1, .d ty_l6iiiisl6l8l9)], []⟩
def ast_sameArm.osk : Sk := ⟨[(0, .d (.leaf .bool))], []⟩
noncomputable def ast_sameArm (n : Nat) (x0 x1 : D) : Out := run C n (.call 82 ast_sameArm.sk [x0, x1])
def law09_AstJoins_L0.sk : Sk := ⟨[(5, .ptr 0 0), (6, .ptr 1 0), (7, .ptr 2 0), (8, .mp 3), (37, .row 4), (38, .d (.leaf (.int .i64))), (39, .d (.leaf (.int .i64)))], [.var [.d (.leaf (.int .i64)), .d (.leaf (.int .i64)), .d (.leaf (.int .i64)), .d (.leaf (.int .i64)), .d (.leaf .str), .d (.leaf (.lst 6))], .var [.d (.leaf (.int .i64)), .d (.leaf (.int .i64)), .d (.leaf (.int .i64)), .d (.leaf (.int .i64)), .d (.leaf .str), .d (.leaf (.lst 6))], .var [.d (.leaf (.int .i64)), .d (.leaf (.int .i64)), .d (.leaf (.int .i64)), .d (.leaf (.int .i64)), .d (.leaf .str), .row 5], .mp (.str), .row 9 1 0, .row 28 6 0]⟩
noncomputable def law09_AstJoins_L0.body : Code := bodyAt C 3 0
noncomputable def law09_AstJoins_L0 (n : Nat) (x0 x1 x2 x3 x4 x5 x6 x7 x8 x9 x10 x11 x12 x13 x14 x15 x16 x17 x18 x19 x20 x21 : D) : Out := run C n (.loop 3 law09_AstJoins.osk [] [] false 0 law09_AstJoins_L0.body law09_AstJoins_L0.sk [x0, x1, x2, x3, x4, x5, x6, x7, x8, x9, x10, x11, x12, x13, x14, x15, x16, x17, x18, x19, x20, x21])
def law09_AstJoins_L2.sk : Sk := ⟨[(5, .ptr 0 0), (6, .ptr 1 0), (7, .ptr 2 0), (8, .mp 3), (11, .row 4), (48, .row 4), (49, .d (.leaf (.int .i64))), (50, .d (.leaf (.int .i64)))], [.var [.d (.leaf (.int .i64)), .d (.leaf (.int .i64)), .d (.leaf (.int .i64)), .d (.leaf (.int .i64)), .d (.leaf .str), .d (.leaf (.lst 6))], .var [.d (.leaf (.int .i64)), .d (.leaf (.int .i64)), .d (.leaf (.int .i64)), .d (.leaf (.int .i64)), .d (.leaf .str), .d (.leaf (.lst 6))], .var [.d (.leaf (.int .i64)), .d (.leaf (.int .i64)), .d (.leaf (.int .i64)), .d (.leaf (.int .i64)), .d (.leaf .str), .row 5], .mp (.str), .row 9 1 0, .row 28 6 0]⟩
noncomputable def law09_AstJoins_L2.body : Code := bodyAt C 3 2
noncomputable def law09_AstJoins_L2 (n : Nat) (x0 x1 x2 x3 x4 x5 x6 x7 x8 x9 x10 x11 x12 x13 x14 x15 x16 x17 x18 x19 x20 x21 : D) : Out := run C n (.loop 3 law09_AstJoins.osk [] [] false 2 law09_AstJoins_L2.body law09_AstJoins_L2.sk [x0, x1, x2, x3, x4, x5, x6, x7, x8, x9, x10, x11, x12, x13, x14, x15, x16, x17, x18, x19, x20, x21])
def law09_AstSame_L0.sk : Sk := ⟨[(0, .d (.leaf (.lst 1))), (7, .row 0), (8, .row 1), (9, .row 2), (10, .row 3), (11, .d (.leaf .bool)), (12, .d (.leaf (.int .i64)))], [.row 52 7 0, .row 52 7 0, .row 9 1 0, .row 9 1 0]⟩
noncomputable def law09_AstSame_L0.body : Code := bodyAt C 4 0
noncomputable def law09_AstSame_L0 (n : Nat) (x0 x1 x2 x3 x4 x5 x6 : D) : Out := run C n (.loop 4 law09_AstSame.osk [] [] false 0 law09_AstSame_L0.body law09_AstSame_L0.sk [x0, x1, x2, x3, x4, x5, x6])
def ref09_MakeExpr_c10.sk : Sk := ⟨[(0, .ptr 0 0), (1, .d (.leaf (.int .i64))), (4, .ptr 1 0), (5, .d (.leaf (.int .i64))), (10, .d (.leaf .bool))], [.var [.d (.leaf (.lst 1)), .d (.leaf (.int .i64))], .var [.d (.leaf (.int .i64)), .d (.leaf (.int .i64)), .d (.leaf (.int .i64)), .d (.leaf (.int .i64)), .d (.leaf .str), .row 2], .row 32 6 0]⟩
noncomputable def ref09_MakeExpr_c10.body : Code := condAt C 7 10
noncomputable def ref09_MakeExpr_c10 (n : Nat) (x0 x1 x2 x3 x4 x5 x6 x7 x8 x9 x10 : D) : Out := run C n (.loop 7 ref09_MakeExpr.osk [(0, 0)] [] true 0 ref09_MakeExpr_c10.body ref09_MakeExpr_c10.sk [x0, x1, x2, x3, x4, x5, x6, x7, x8, x9, x10])
def ast_Depth_L0.sk : Sk := ⟨[(3, .d (.leaf (.int .i64))), (7, .d (.leaf (.lst 6))), (8, .d (.leaf (.int .i64))), (9, .d (.leaf (.int .i64)))], []⟩
noncomputable def ast_Depth_L0.body : Code := bodyAt C 10 0
noncomputable def ast_Depth_L0 (n : Nat) (x0 x1 x2 x3 : D) : Out := run C n (.loop 10 ast_Depth.osk [] [] false 0 ast_Depth_L0.body ast_Depth_L0.sk [x0, x1, x2, x3])
def ref09_Make_L0.sk : Sk := ⟨[(0, .d (.leaf (.lst 1))), (3, .ptr 0 0), (4, .row 1), (5, .d (.leaf (.int .i64)))], [.var [.d (.leaf (.lst 1)), .d (.leaf (.int .i64))], .row 67 4 0]⟩
noncomputable def ref09_Make_L0.body : Code := bodyAt C 11 0
noncomputable def ref09_Make_L0 (n : Nat) (x0 x1 x2 x3 x4 : D) : Out := run C n (.loop 11 ref09_Make.osk [] [] false 0 ref09_Make_L0.body ref09_Make_L0.sk [x0, x1, x2, x3, x4])
def law09_Own_L0.sk : Sk := ⟨[(3, .row 0), (6, .d (.leaf (.lst 4))), (7, .d (.leaf (.int .i64))), (8, .d (.leaf (.int .i64)))], [.row 52 7 0]⟩
noncomputable def law09_Own_L0.body : Code := bodyAt C 12 0
noncomputable def law09_Own_L0 (n : Nat) (x0 x1 x2 x3 : D) : Out := run C n (.loop 12 law09_Own.osk [] [] false 0 law09_Own_L0.body law09_Own_L0.sk [x0, x1, x2, x3])
def ref09_Words_L0.sk : Sk := ⟨[(0, .d (.leaf (.lst 4))), (3, .row 0), (4, .d (.leaf (.int .i64)))], [.row 9 1 0]⟩
noncomputable def ref09_Words_L0.body : Code := bodyAt C 13 0
noncomputable def ref09_Words_L0 (n : Nat) (x0 x1 x2 : D) : Out := run C n (.loop 13 ref09_Words.osk [] [] false 0 ref09_Words_L0.body ref09_Words_L0.sk [x0, x1, x2])
def ref09_MakeExprs_L0.sk : Sk := ⟨[(0, .ptr 0 0), (1, .d (.leaf (.int .i64))), (2, .d (.leaf (.int .i64))), (7, .row 1), (8, .d (.leaf (.int .i64)))], [.var [.d (.leaf (.lst 1)), .d (.leaf (.int .i64))], .row 32 6 0]⟩
noncomputable def ref09_MakeExprs_L0.body : Code := bodyAt C 20 0
noncomputable def ref09_MakeExprs_L0 (n : Nat) (x0 x1 x2 x3 x4 x5 : D) : Out := run C n (.loop 20 ref09_MakeExprs.osk [(0, 0)] [] false 0 ref09_MakeExprs_L0.body ref09_MakeExprs_L0.sk [x0, x1, x2, x3, x4, x5])
def law09_OwnExprs_L0.sk : Sk := ⟨[(3, .row 0), (6, .d (.leaf (.lst 6))), (7, .d (.leaf (.int .i64))), (8, .d (.leaf (.int .i64)))], [.row 28 6 0]⟩
noncomputable def law09_OwnExprs_L0.body : Code := bodyAt C 16 0
noncomputable def law09_OwnExprs_L0 (n : Nat) (x0 x1 x2 x3 : D) : Out := run C n (.loop 16 law09_OwnExprs.osk [] [] false 0 law09_OwnExprs_L0.body law09_OwnExprs_L0.sk [x0, x1, x2, x3])
def ast_walk_L0.sk : Sk := ⟨[(1, .fn 23 [.ptr 0 0]), (10, .d (.leaf (.lst 6))), (11, .d (.leaf (.int .i64))), (12, .d (.leaf (.int .i64)))], [.var [.row 1], .row 9 1 0]⟩
noncomputable def ast_walk_L0.body : Code := bodyAt C 22 0
noncomputable def ast_walk_L0 (n : Nat) (x0 x1 x2 x3 : D) : Out := run C n (.loop 22 ast_walk.osk [(0, 0)] [] false 0 ast_walk_L0.body ast_walk_L0.sk [x0, x1, x2, x3])
def ref09_Make_L2.sk : Sk := ⟨[(0, .d (.leaf (.lst 1))), (3, .ptr 0 0), (4, .row 1), (5, .d (.leaf (.int .i64))), (6, .ptr 2 0), (7, .d (.leaf (.int .i64)))], [.var [.d (.leaf (.lst 1)), .d (.leaf (.int .i64))], .row 67 4 0, .var [.d (.leaf .str), .row 3, .row 4, .row 5], .row 71 11 0, .row 71 11 0, .row 71 11 0]⟩
noncomputable def ref09_Make_L2.body : Code := bodyAt C 11 2
noncomputable def ref09_Make_L2 (n : Nat) (x0 x1 x2 x3 x4 x5 x6 x7 x8 x9 : D) : Out := run C n (.loop 11 ref09_Make.osk [] [] false 2 ref09_Make_L2.body ref09_Make_L2.sk [x0, x1, x2, x3, x4, x5, x6, x7, x8, x9])
def ref09_Make_L4.sk : Sk := ⟨[(0, .d (.leaf (.lst 1))), (3, .ptr 0 0), (4, .row 1), (5, .d (.leaf (.int .i64))), (6, .ptr 2 0), (8, .d (.leaf (.int .i64)))], [.var [.d (.leaf (.lst 1)), .d (.leaf (.int .i64))], .row 67 4 0, .var [.d (.leaf .str), .row 3, .row 4, .row 5], .row 71 11 0, .row 71 11 0, .row 71 11 0]⟩
noncomputable def ref09_Make_L4.body : Code := bodyAt C 11 4
noncomputable def ref09_Make_L4 (n : Nat) (x0 x1 x2 x3 x4 x5 x6 x7 x8 x9 : D) : Out := run C n (.loop 11 ref09_Make.osk [] [] false 4 ref09_Make_L4.body ref09_Make_L4.sk [x0, x1, x2, x3, x4, x5, x6, x7, x8, x9])
def ref09_Words_L2.sk : Sk := ⟨[(0, .d (.leaf (.lst 4))), (3, .row 0), (4, .d (.leaf (.int .i64))), (5, .ptr 1 0), (6, .d (.leaf (.int .i64)))], [.row 9 1 0, .var [.d (.leaf .str), .d (.leaf (.lst 11)), .d (.leaf (.lst 11)), .d (.leaf (.lst 11))]]⟩
noncomputable def ref09_Words_L2.body : Code := bodyAt C 13 2
noncomputable def ref09_Words_L2 (n : Nat) (x0 x1 x2 x3 x4 x5 x6 x7 : D) : Out := run C n (.loop 13 ref09_Words.osk [] [] false 2 ref09_Words_L2.body ref09_Words_L2.sk [x0, x1, x2, x3, x4, x5, x6, x7])
def ref09_Words_L4.sk : Sk := ⟨[(0, .d (.leaf (.lst 4))), (3, .row 0), (4, .d (.leaf (.int .i64))), (5, .ptr 1 0), (7, .d (.leaf (.int .i64)))], [.row 9 1 0, .var [.d (.leaf .str), .d (.leaf (.lst 11)), .d (.leaf (.lst 11)), .d (.leaf (.lst 11))]]⟩
noncomputable def ref09_Words_L4.body : Code := bodyAt C 13 4
noncomputable def ref09_Words_L4 (n : Nat) (x0 x1 x2 x3 x4 x5 x6 x7 : D) : Out := run C n (.loop 13 ref09_Words.osk [] [] false 4 ref09_Words_L4.body ref09_Words_L4.sk [x0, x1, x2, x3, x4, x5, x6, x7])
def slices_EqualFunc_Module_L0.sk : Sk := ⟨[(1, .d (.leaf (.lst 7))), (2, .fn 35 []), (15, .d (.leaf (.lst 7))), (16, .d (.leaf (.int .i64))), (17, .d (.leaf (.int .i64)))], []⟩
noncomputable def slices_EqualFunc_Module_L0.body : Code := bodyAt C 34 0
noncomputable def slices_EqualFunc_Module_L0 (n : Nat) (x0 x1 x2 x3 : D) : Out := run C n (.loop 34 slices_EqualFunc_Module.osk [] [] false 0 slices_EqualFunc_Module_L0.body slices_EqualFunc_Module_L0.sk [x0, x1, x2, x3])
def ast_Names_1_c5.sk : Sk := ⟨[(1, .ptr 0 0), (2, .ptr 1 0), (5, .d (.leaf .bool))], [.var [.row 2], .var [.d (.leaf (.int .i64)), .d (.leaf (.int .i64)), .d (.leaf (.int .i64)), .d (.leaf (.int .i64)), .d (.leaf .str), .d (.leaf (.lst 6))], .row 9 1 0]⟩
noncomputable def ast_Names_1_c5.body : Code := condAt C 23 5
noncomputable def ast_Names_1_c5 (n : Nat) (x0 x1 x2 x3 x4 x5 x6 x7 : D) : Out := run C n (.loop 23 ast_Names_1.osk [(0, 0)] [] true 0 ast_Names_1_c5.body ast_Names_1_c5.sk [x0, x1, x2, x3, x4, x5, x6, x7])
def ref02_Dec_L0.sk : Sk := ⟨[(0, .d (.leaf (.int .i64))), (3, .d (.leaf .str))], []⟩
noncomputable def ref02_Dec_L0.body : Code := bodyAt C 27 0
noncomputable def ref02_Dec_L0 (n : Nat) (x0 x1 : D) : Out := run C n (.loop 27 ref02_Dec.osk [] [] false 0 ref02_Dec_L0.body ref02_Dec_L0.sk [x0, x1])
def ref09_MakeItems_L0.sk : Sk := ⟨[(0, .ptr 0 0), (1, .d (.leaf (.int .i64))), (2, .d (.leaf (.int .i64))), (7, .row 1), (8, .d (.leaf (.int .i64)))], [.var [.d (.leaf (.lst 1)), .d (.leaf (.int .i64))], .row 71 11 0]⟩
noncomputable def ref09_MakeItems_L0.body : Code := bodyAt C 29 0
noncomputable def ref09_MakeItems_L0 (n : Nat) (x0 x1 x2 x3 x4 x5 : D) : Out := run C n (.loop 29 ref09_MakeItems.osk [(0, 0)] [] false 0 ref09_MakeItems_L0.body ref09_MakeItems_L0.sk [x0, x1, x2, x3, x4, x5])
def law09_items_L0.sk : Sk := ⟨[(3, .row 0), (6, .d (.leaf (.lst 11))), (7, .d (.leaf (.int .i64))), (8, .d (.leaf (.int .i64)))], [.row 90 14 0]⟩
noncomputable def law09_items_L0.body : Code := bodyAt C 30 0
noncomputable def law09_items_L0 (n : Nat) (x0 x1 x2 x3 : D) : Out := run C n (.loop 30 law09_items.osk [] [] false 0 law09_items_L0.body law09_items_L0.sk [x0, x1, x2, x3])
def ref09_ItemsWords_L0.sk : Sk := ⟨[(0, .d (.leaf (.lst 11))), (3, .row 0), (4, .d (.leaf (.int .i64)))], [.row 9 1 0]⟩
noncomputable def ref09_ItemsWords_L0.body : Code := bodyAt C 33 0
noncomputable def ref09_ItemsWords_L0 (n : Nat) (x0 x1 x2 : D) : Out := run C n (.loop 33 ref09_ItemsWords.osk [] [] false 0 ref09_ItemsWords_L0.body ref09_ItemsWords_L0.sk [x0, x1, x2])
def ref09_MakeItem_L1.sk : Sk := ⟨[(0, .ptr 0 0), (4, .ptr 1 0), (6, .ptr 2 0), (7, .d (.leaf (.int .i64)))], [.var [.d (.leaf (.lst 1)), .d (.leaf (.int .i64))], .var [.d (.leaf (.int .i64)), .d (.leaf .str), .d (.leaf .str), .d (.leaf .bool), .row 3, .row 4, .row 5, .row 6, .row 7, .row 8, .row 9], .var [.d (.leaf (.int .i64)), .d (.leaf .str), .d (.leaf .str), .d (.leaf .bool), .row 10, .row 11, .row 12, .row 13, .row 14, .row 15, .row 16], .row 32 6 0, .row 32 6 0, .row 109 5 0, .row 71 11 0, .row 71 11 0, .row 120 2 0, .row 120 2 0, .row 32 6 0, .row 32 6 0, .row 109 5 0, .row 71 11 0, .row 71 11 0, .row 120 2 0, .row 120 2 0]⟩
noncomputable def ref09_MakeItem_L1.body : Code := bodyAt C 40 1
noncomputable def ref09_MakeItem_L1 (n : Nat) (x0 x1 x2 x3 x4 x5 x6 x7 x8 x9 x10 x11 x12 x13 x14 x15 x16 x17 x18 x19 x20 x21 x22 x23 x24 : D) : Out := run C n (.loop 40 ref09_MakeItem.osk [(0, 0)] [] false 1 ref09_MakeItem_L1.body ref09_MakeItem_L1.sk [x0, x1, x2, x3, x4, x5, x6, x7, x8, x9, x10, x11, x12, x13, x14, x15, x16, x17, x18, x19, x20, x21, x22, x23, x24])
def law09_stmts_L0.sk : Sk := ⟨[(3, .row 0), (9, .d (.leaf (.lst 5))), (10, .d (.leaf (.int .i64))), (11, .d (.leaf (.int .i64)))], [.row 114 8 0]⟩
noncomputable def law09_stmts_L0.body : Code := bodyAt C 41 0
noncomputable def law09_stmts_L0 (n : Nat) (x0 x1 x2 x3 : D) : Out := run C n (.loop 41 law09_stmts.osk [] [] false 0 law09_stmts_L0.body law09_stmts_L0.sk [x0, x1, x2, x3])
def law09_conns_L0.sk : Sk := ⟨[(3, .row 0), (6, .d (.leaf (.lst 2))), (7, .d (.leaf (.int .i64))), (8, .d (.leaf (.int .i64)))], [.row 122 5 0]⟩
noncomputable def law09_conns_L0.body : Code := bodyAt C 42 0
noncomputable def law09_conns_L0 (n : Nat) (x0 x1 x2 x3 : D) : Out := run C n (.loop 42 law09_conns.osk [] [] false 0 law09_conns_L0.body law09_conns_L0.sk [x0, x1, x2, x3])
def ref09_List_L0.sk : Sk := ⟨[(0, .d (.leaf (.lst 6))), (3, .row 0), (4, .d (.leaf (.int .i64)))], [.row 9 1 0]⟩
noncomputable def ref09_List_L0.body : Code := bodyAt C 44 0
noncomputable def ref09_List_L0 (n : Nat) (x0 x1 x2 : D) : Out := run C n (.loop 44 ref09_List.osk [] [] false 0 ref09_List_L0.body ref09_List_L0.sk [x0, x1, x2])
def slices_EqualFunc_Item_L0.sk : Sk := ⟨[(1, .d (.leaf (.lst 14))), (2, .fn 48 []), (15, .d (.leaf (.lst 14))), (16, .d (.leaf (.int .i64))), (17, .d (.leaf (.int .i64)))], []⟩
noncomputable def slices_EqualFunc_Item_L0.body : Code := bodyAt C 47 0
noncomputable def slices_EqualFunc_Item_L0 (n : Nat) (x0 x1 x2 x3 : D) : Out := run C n (.loop 47 slices_EqualFunc_Item.osk [] [] false 0 slices_EqualFunc_Item_L0.body slices_EqualFunc_Item_L0.sk [x0, x1, x2, x3])
def ref09_MakeStmt_L1.sk : Sk := ⟨[(0, .ptr 0 0), (1, .d (.leaf (.int .i64))), (4, .ptr 1 0), (6, .ptr 2 0), (7, .d (.leaf (.int .i64)))], [.var [.d (.leaf (.lst 1)), .d (.leaf (.int .i64))], .var [.d (.leaf (.int .i64)), .d (.leaf .str), .row 3, .row 4, .row 5], .var [.d (.leaf (.int .i64)), .d (.leaf .str), .row 6, .row 7, .row 8], .row 32 6 0, .row 109 5 0, .row 116 6 0, .row 32 6 0, .row 109 5 0, .row 116 6 0]⟩
noncomputable def ref09_MakeStmt_L1.body : Code := bodyAt C 61 1
noncomputable def ref09_MakeStmt_L1 (n : Nat) (x0 x1 x2 x3 x4 x5 x6 x7 x8 x9 x10 x11 x12 x13 : D) : Out := run C n (.loop 61 ref09_MakeStmt.osk [(0, 0)] [] false 1 ref09_MakeStmt_L1.body ref09_MakeStmt_L1.sk [x0, x1, x2, x3, x4, x5, x6, x7, x8, x9, x10, x11, x12, x13])
def ref09_MakeStmt_L3.sk : Sk := ⟨[(0, .ptr 0 0), (1, .d (.leaf (.int .i64))), (4, .ptr 1 0), (9, .ptr 2 0), (10, .d (.leaf (.int .i64)))], [.var [.d (.leaf (.lst 1)), .d (.leaf (.int .i64))], .var [.d (.leaf (.int .i64)), .d (.leaf .str), .row 3, .row 4, .row 5], .var [.d (.leaf (.int .i64)), .d (.leaf .str), .row 6, .row 7, .row 8], .row 32 6 0, .row 109 5 0, .row 116 6 0, .row 32 6 0, .row 109 5 0, .row 116 6 0]⟩
noncomputable def ref09_MakeStmt_L3.body : Code := bodyAt C 61 3
noncomputable def ref09_MakeStmt_L3 (n : Nat) (x0 x1 x2 x3 x4 x5 x6 x7 x8 x9 x10 x11 x12 x13 : D) : Out := run C n (.loop 61 ref09_MakeStmt.osk [(0, 0)] [] false 3 ref09_MakeStmt_L3.body ref09_MakeStmt_L3.sk [x0, x1, x2, x3, x4, x5, x6, x7, x8, x9, x10, x11, x12, x13])
def ref09_MakeConns_L0.sk : Sk := ⟨[(0, .ptr 0 0), (3, .row 1), (4, .d (.leaf (.int .i64)))], [.var [.d (.leaf (.lst 1)), .d (.leaf (.int .i64))], .row 120 2 0]⟩
noncomputable def ref09_MakeConns_L0.body : Code := bodyAt C 62 0
noncomputable def ref09_MakeConns_L0 (n : Nat) (x0 x1 x2 x3 : D) : Out := run C n (.loop 62 ref09_MakeConns.osk [(0, 0)] [] false 0 ref09_MakeConns_L0.body ref09_MakeConns_L0.sk [x0, x1, x2, x3])
def law09_stmts_L2.sk : Sk := ⟨[(3, .row 0), (6, .ptr 1 0), (9, .d (.leaf (.lst 5))), (10, .d (.leaf (.int .i64))), (11, .d (.leaf (.int .i64))), (27, .d (.leaf (.lst 6))), (28, .d (.leaf (.int .i64))), (29, .d (.leaf (.int .i64)))], [.row 114 8 0, .var [.d (.leaf (.int .i64)), .d (.leaf (.int .i64)), .d (.leaf (.int .i64)), .d (.leaf (.int .i64)), .d (.leaf .str), .row 2, .row 3, .row 4], .row 28 6 0, .row 114 8 0, .row 118 9 0]⟩
noncomputable def law09_stmts_L2.body : Code := bodyAt C 41 2
noncomputable def law09_stmts_L2 (n : Nat) (x0 x1 x2 x3 x4 x5 x6 x7 x8 x9 x10 x11 x12 x13 x14 : D) : Out := run C n (.loop 41 law09_stmts.osk [] [] false 2 law09_stmts_L2.body law09_stmts_L2.sk [x0, x1, x2, x3, x4, x5, x6, x7, x8, x9, x10, x11, x12, x13, x14])
def ref09_StmtWords_L1.sk : Sk := ⟨[(1, .ptr 0 0), (3, .row 1), (4, .d (.leaf (.int .i64)))], [.var [.d (.leaf (.int .i64)), .d (.leaf .str), .d (.leaf (.lst 6)), .d (.leaf (.lst 5)), .d (.leaf (.lst 6))], .row 9 1 0]⟩
noncomputable def ref09_StmtWords_L1.body : Code := bodyAt C 64 1
noncomputable def ref09_StmtWords_L1 (n : Nat) (x0 x1 x2 x3 x4 x5 x6 : D) : Out := run C n (.loop 64 ref09_StmtWords.osk [] [] false 1 ref09_StmtWords_L1.body ref09_StmtWords_L1.sk [x0, x1, x2, x3, x4, x5, x6])
def ref09_StmtWords_L3.sk : Sk := ⟨[(1, .ptr 0 0), (3, .row 1), (5, .d (.leaf (.int .i64)))], [.var [.d (.leaf (.int .i64)), .d (.leaf .str), .d (.leaf (.lst 6)), .d (.leaf (.lst 5)), .d (.leaf (.lst 6))], .row 9 1 0]⟩
noncomputable def ref09_StmtWords_L3.body : Code := bodyAt C 64 3
noncomputable def ref09_StmtWords_L3 (n : Nat) (x0 x1 x2 x3 x4 x5 x6 : D) : Out := run C n (.loop 64 ref09_StmtWords.osk [] [] false 3 ref09_StmtWords_L3.body ref09_StmtWords_L3.sk [x0, x1, x2, x3, x4, x5, x6])
def ref09_conns_L0.sk : Sk := ⟨[(0, .d (.leaf (.lst 2))), (3, .row 0), (4, .d (.leaf (.int .i64)))], [.row 9 1 0]⟩
noncomputable def ref09_conns_L0.body : Code := bodyAt C 65 0
noncomputable def ref09_conns_L0 (n : Nat) (x0 x1 x2 : D) : Out := run C n (.loop 65 ref09_conns.osk [] [] false 0 ref09_conns_L0.body ref09_conns_L0.sk [x0, x1, x2])
def ref09_blocks_L0.sk : Sk := ⟨[(0, .d (.leaf (.lst 11))), (3, .row 0), (4, .d (.leaf (.int .i64)))], [.row 9 1 0]⟩
noncomputable def ref09_blocks_L0.body : Code := bodyAt C 67 0
noncomputable def ref09_blocks_L0 (n : Nat) (x0 x1 x2 : D) : Out := run C n (.loop 67 ref09_blocks.osk [] [] false 0 ref09_blocks_L0.body ref09_blocks_L0.sk [x0, x1, x2])
def slices_EqualFunc_Expr_L0.sk : Sk := ⟨[(1, .d (.leaf (.lst 6))), (2, .fn 69 []), (15, .d (.leaf (.lst 6))), (16, .d (.leaf (.int .i64))), (17, .d (.leaf (.int .i64)))], []⟩
noncomputable def slices_EqualFunc_Expr_L0.body : Code := bodyAt C 68 0
noncomputable def slices_EqualFunc_Expr_L0 (n : Nat) (x0 x1 x2 x3 : D) : Out := run C n (.loop 68 slices_EqualFunc_Expr.osk [] [] false 0 slices_EqualFunc_Expr_L0.body slices_EqualFunc_Expr_L0.sk [x0, x1, x2, x3])
def slices_EqualFunc_Stmt_L0.sk : Sk := ⟨[(1, .d (.leaf (.lst 8))), (2, .fn 71 []), (15, .d (.leaf (.lst 8))), (16, .d (.leaf (.int .i64))), (17, .d (.leaf (.int .i64)))], []⟩
noncomputable def slices_EqualFunc_Stmt_L0.body : Code := bodyAt C 70 0
noncomputable def slices_EqualFunc_Stmt_L0 (n : Nat) (x0 x1 x2 x3 : D) : Out := run C n (.loop 70 slices_EqualFunc_Stmt.osk [] [] false 0 slices_EqualFunc_Stmt_L0.body slices_EqualFunc_Stmt_L0.sk [x0, x1, x2, x3])
def slices_EqualFunc_Conn_L0.sk : Sk := ⟨[(1, .d (.leaf (.lst 5))), (2, .fn 73 []), (15, .d (.leaf (.lst 5))), (16, .d (.leaf (.int .i64))), (17, .d (.leaf (.int .i64)))], []⟩
noncomputable def slices_EqualFunc_Conn_L0.body : Code := bodyAt C 72 0
noncomputable def slices_EqualFunc_Conn_L0 (n : Nat) (x0 x1 x2 x3 : D) : Out := run C n (.loop 72 slices_EqualFunc_Conn.osk [] [] false 0 slices_EqualFunc_Conn_L0.body slices_EqualFunc_Conn_L0.sk [x0, x1, x2, x3])
def slices_EqualFunc_Arm_L0.sk : Sk := ⟨[(1, .d (.leaf (.lst 9))), (2, .fn 82 []), (15, .d (.leaf (.lst 9))), (16, .d (.leaf (.int .i64))), (17, .d (.leaf (.int .i64)))], []⟩
noncomputable def slices_EqualFunc_Arm_L0.body : Code := bodyAt C 81 0
noncomputable def slices_EqualFunc_Arm_L0 (n : Nat) (x0 x1 x2 x3 : D) : Out := run C n (.loop 81 slices_EqualFunc_Arm.osk [] [] false 0 slices_EqualFunc_Arm_L0.body slices_EqualFunc_Arm_L0.sk [x0, x1, x2, x3])
def slices_Sort_string.orc : Sk → List D → Option (List D) := orcSort
theorem slices_Sort_string_orc (n : Nat) (x0 : D) (r : List D) (h : slices_Sort_string.orc slices_Sort_string.sk [x0] = some r) : slices_Sort_string (n + 1) x0 = some (true, r) := by
  show (match C.orc 25 slices_Sort_string.sk [x0] with | some r => some (true, r) | none => _) = _
  rw [show C.orc 25 slices_Sort_string.sk [x0] = some r from h]
def slices_Compact_string.orc : Sk → List D → Option (List D) := orcCompact 9
theorem slices_Compact_string_orc (n : Nat) (x0 : D) (r : List D) (h : slices_Compact_string.orc slices_Compact_string.sk [x0] = some r) : slices_Compact_string (n + 1) x0 = some (true, r) := by
  show (match C.orc 26 slices_Compact_string.sk [x0] with | some r => some (true, r) | none => _) = _
  rw [show C.orc 26 slices_Compact_string.sk [x0] = some r from h]
end Go.Proofs.Ytfadegfceobogaa
