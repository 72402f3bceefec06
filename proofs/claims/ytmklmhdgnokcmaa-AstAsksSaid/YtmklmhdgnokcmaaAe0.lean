/- By a program (aegen.py): the functions of this seat as tasks of the interpreter. -/
import Derived.Test.YtmklmhdgnokcmaaEng
import Derived.Test.YtmklmhdgnokcmaaProg
import Derived.KernelRfl
namespace Go.Proofs.Ytmklmhdgnokcmaa
open Go.AE
set_option linter.unusedVariables false
def ownTab : List (Nat × Nat × Nat) := [(17, 0, 1), (39, 0, 2), (40, 0, 1), (50, 0, 1), (151, 0, 1), (175, 0, 2)]
def dresTab : List (Nat × Nat × Nat) := [(13, 0, 1), (150, 0, 2), (151, 0, 2), (152, 0, 2), (153, 0, 2), (172, 0, 2)]
def keepTab : List (Nat × Nat × List Nat) := [(3, 0, [6, 7, 36, 37]),
  (17, 0, [0, 3, 5, 31]),
  (17, 2, [0, 3, 7]),
  (18, 0, [3, 7, 8, 9]),
  (19, 0, [1, 3, 4]),
  (33, 0, [0, 1, 2, 7, 8]),
  (35, 0, [3, 6, 7, 8]),
  (36, 0, [1, 10, 11, 12]),
  (40, 0, [0, 3]),
  (40, 2, [0, 3, 4, 5])]
def cutTab : List (Nat × Nat × List Nat) := [(14, 10, [0, 1, 4, 5, 10]),
  (17, 31, [0, 3, 31]),
  (17, 59, [0, 3, 5, 59, 31]),
  (37, 5, [1, 2, 5])]
def extList : List (Nat × (List D → Option (Bool × List D))) := [(167, extAdd64), (126, extIndexByte)]
def orcList : List (Nat × (Sk → List D → Option (List D))) := [(40, orcCompact 9), (39, orcSort)]
noncomputable def C : Cfg := { P := Try.prog, own := tab2 ownTab, dres := tab2 dresTab, keep := tabL keepTab, cut := tabL cutTab, orc := orcTab orcList, ext := extTab extList }
def ty_iiiisl6 : Ty := .agg [.int .i64, .int .i64, .int .i64, .int .i64, .str, .lst 6]
def law09_AstAsks.sk : Sk := ⟨[(0, .d (.leaf (.lst 1)))], []⟩
def law09_AstAsks.osk : Sk := ⟨[(0, .d (.leaf .bool))], []⟩
noncomputable def law09_AstAsks (n : Nat) (x0 : D) : Out := run C n (.call 3 law09_AstAsks.sk [x0])
def law09_awake.sk : Sk := ⟨[], []⟩
def law09_awake.osk : Sk := ⟨[(0, .d (.leaf .bool))], []⟩
noncomputable def law09_awake (n : Nat) : Out := run C n (.call 12 law09_awake.sk [])
def law09_Short.sk : Sk := ⟨[(0, .d (.leaf (.lst 1)))], []⟩
def law09_Short.osk : Sk := ⟨[(0, .d (.leaf (.lst 1)))], []⟩
noncomputable def law09_Short (n : Nat) (x0 : D) : Out := run C n (.call 13 law09_Short.sk [x0])
def ref09_MakeExpr.sk : Sk := ⟨[(0, .ptr 0 0), (1, .d (.leaf (.int .i64)))], [.var [.d (.leaf (.lst 1)), .d (.leaf (.int .i64))]]⟩
def ref09_MakeExpr.osk : Sk := ⟨[(0, .d ty_iiiisl6)], [.var [.d (.leaf (.lst 1)), .d (.leaf (.int .i64))]]⟩
noncomputable def ref09_MakeExpr (n : Nat) (x0 x1 x2 : D) : Out := run C n (.call 14 ref09_MakeExpr.sk [x0, x1, x2])
def law09_OwnExpr.sk : Sk := ⟨[(0, .d ty_iiiisl6)], []⟩
def law09_OwnExpr.osk : Sk := ⟨[(0, .d ty_iiiisl6)], []⟩
noncomputable def law09_OwnExpr (n : Nat) (x0 : D) : Out := run C n (.call 15 law09_OwnExpr.sk [x0])
def ast_Names.sk : Sk := ⟨[(0, .d ty_iiiisl6)], []⟩
def ast_Names.osk : Sk := ⟨[(0, .row 0)], [.row 9 1 0]⟩
noncomputable def ast_Names (n : Nat) (x0 : D) : Out := run C n (.call 16 ast_Names.sk [x0])
def ref09_NamesOf.sk : Sk := ⟨[(0, .row 0), (1, .d ty_iiiisl6)], [.row 9 1 2]⟩
def ref09_NamesOf.osk : Sk := ⟨[(0, .row 1)], [.gone, .row 9 1 0]⟩
noncomputable def ref09_NamesOf (n : Nat) (x0 x1 : D) : Out := run C n (.call 17 ref09_NamesOf.sk [x0, x1])
def ast_Depth.sk : Sk := ⟨[(0, .d ty_iiiisl6)], []⟩
def ast_Depth.osk : Sk := ⟨[(0, .d (.leaf (.int .i64)))], []⟩
noncomputable def ast_Depth (n : Nat) (x0 : D) : Out := run C n (.call 18 ast_Depth.sk [x0])
def ref09_Depth.sk : Sk := ⟨[(0, .d ty_iiiisl6)], []⟩
def ref09_Depth.osk : Sk := ⟨[(0, .d (.leaf (.int .i64)))], []⟩
noncomputable def ref09_Depth (n : Nat) (x0 : D) : Out := run C n (.call 19 ref09_Depth.sk [x0])
def ref09_Next.sk : Sk := ⟨[(0, .ptr 0 0), (1, .d (.leaf (.int .i64)))], [.var [.d (.leaf (.lst 1)), .d (.leaf (.int .i64))]]⟩
def ref09_Next.osk : Sk := ⟨[(0, .d (.leaf (.int .i64)))], [.var [.d (.leaf (.lst 1)), .d (.leaf (.int .i64))]]⟩
noncomputable def ref09_Next (n : Nat) (x0 x1 x2 : D) : Out := run C n (.call 30 ref09_Next.sk [x0, x1, x2])
def ref09_name.sk : Sk := ⟨[(0, .ptr 0 0)], [.var [.d (.leaf (.lst 1)), .d (.leaf (.int .i64))]]⟩
def ref09_name.osk : Sk := ⟨[(0, .d (.leaf .str))], [.var [.d (.leaf (.lst 1)), .d (.leaf (.int .i64))]]⟩
noncomputable def ref09_name (n : Nat) (x0 x1 : D) : Out := run C n (.call 31 ref09_name.sk [x0, x1])
def ref09_number.sk : Sk := ⟨[(0, .ptr 0 0)], [.var [.d (.leaf (.lst 1)), .d (.leaf (.int .i64))]]⟩
def ref09_number.osk : Sk := ⟨[(0, .d (.leaf .str))], [.var [.d (.leaf (.lst 1)), .d (.leaf (.int .i64))]]⟩
noncomputable def ref09_number (n : Nat) (x0 x1 : D) : Out := run C n (.call 32 ref09_number.sk [x0, x1])
def ref09_MakeExprs.sk : Sk := ⟨[(0, .ptr 0 0), (1, .d (.leaf (.int .i64))), (2, .d (.leaf (.int .i64)))], [.var [.d (.leaf (.lst 1)), .d (.leaf (.int .i64))]]⟩
def ref09_MakeExprs.osk : Sk := ⟨[(0, .row 1)], [.var [.d (.leaf (.lst 1)), .d (.leaf (.int .i64))], .row 32 6 0]⟩
noncomputable def ref09_MakeExprs (n : Nat) (x0 x1 x2 x3 : D) : Out := run C n (.call 33 ref09_MakeExprs.sk [x0, x1, x2, x3])
def ref09_ops.sk : Sk := ⟨[], []⟩
def ref09_ops.osk : Sk := ⟨[(0, .row 0)], [.row 9 1 0]⟩
noncomputable def ref09_ops (n : Nat) : Out := run C n (.call 34 ref09_ops.sk [])
def law09_OwnExprs.sk : Sk := ⟨[(0, .d (.leaf (.lst 6)))], []⟩
def law09_OwnExprs.osk : Sk := ⟨[(0, .row 0)], [.row 36 6 0]⟩
noncomputable def law09_OwnExprs (n : Nat) (x0 : D) : Out := run C n (.call 35 law09_OwnExprs.sk [x0])
def ast_walk.sk : Sk := ⟨[(0, .d ty_iiiisl6), (1, .fn 37 [.ptr 0 0])], [.var [.row 1], .row 9 1 0]⟩
def ast_walk.osk : Sk := ⟨[], [.var [.row 1], .row 9 1 0]⟩
noncomputable def ast_walk (n : Nat) (x0 x1 : D) : Out := run C n (.call 36 ast_walk.sk [x0, x1])
def slices_Sort_string.sk : Sk := ⟨[(0, .row 0)], [.row 9 1 1]⟩
def slices_Sort_string.osk : Sk := ⟨[], [.row 9 1 1]⟩
noncomputable def slices_Sort_string (n : Nat) (x0 : D) : Out := run C n (.call 39 slices_Sort_string.sk [x0])
def slices_Compact_string.sk : Sk := ⟨[(0, .row 0)], [.row 9 1 2]⟩
def slices_Compact_string.osk : Sk := ⟨[(0, .row 1)], [.gone, .row 9 1 0]⟩
noncomputable def slices_Compact_string (n : Nat) (x0 : D) : Out := run C n (.call 40 slices_Compact_string.sk [x0])
def ast_Names_1.sk : Sk := ⟨[(0, .d ty_iiiisl6), (1, .ptr 0 0)], [.var [.row 1], .row 9 1 0]⟩
def ast_Names_1.osk : Sk := ⟨[], [.var [.row 1], .row 9 1 0]⟩
noncomputable def ast_Names_1 (n : Nat) (x0 x1 : D) : Out := run C n (.call 37 ast_Names_1.sk [x0, x1])
def strings_HasPrefix.sk : Sk := ⟨[(0, .d (.leaf .str)), (1, .d (.leaf .str))], []⟩
def strings_HasPrefix.osk : Sk := ⟨[(0, .d (.leaf .bool))], []⟩
noncomputable def strings_HasPrefix (n : Nat) (x0 x1 : D) : Out := run C n (.call 38 strings_HasPrefix.sk [x0, x1])
def internal_stringslite_HasPrefix.sk : Sk := ⟨[(0, .d (.leaf .str)), (1, .d (.leaf .str))], []⟩
def internal_stringslite_HasPrefix.osk : Sk := ⟨[(0, .d (.leaf .bool))], []⟩
noncomputable def internal_stringslite_HasPrefix (n : Nat) (x0 x1 : D) : Out := run C n (.call 53 internal_stringslite_HasPrefix.sk [x0, x1])
def law09_AstAsks_L0.sk : Sk := ⟨[(6, .row 0), (7, .row 1), (36, .d (.leaf (.int .i64))), (37, .d (.leaf (.int .i64)))], [.row 9 1 0, .row 9 1 0]⟩
noncomputable def law09_AstAsks_L0.body : Code := bodyAt C 3 0
noncomputable def law09_AstAsks_L0 (n : Nat) (x0 x1 x2 x3 : D) : Out := run C n (.loop 3 law09_AstAsks.osk [] false 0 law09_AstAsks_L0.body law09_AstAsks_L0.sk [x0, x1, x2, x3])
def ref09_MakeExpr_c10.sk : Sk := ⟨[(0, .ptr 0 0), (1, .d (.leaf (.int .i64))), (4, .ptr 1 0), (5, .d (.leaf (.int .i64))), (10, .d (.leaf .bool))], [.var [.d (.leaf (.lst 1)), .d (.leaf (.int .i64))], .var [.d (.leaf (.int .i64)), .d (.leaf (.int .i64)), .d (.leaf (.int .i64)), .d (.leaf (.int .i64)), .d (.leaf .str), .row 2], .row 32 6 0]⟩
noncomputable def ref09_MakeExpr_c10.body : Code := condAt C 14 10
noncomputable def ref09_MakeExpr_c10 (n : Nat) (x0 x1 x2 x3 x4 x5 x6 x7 x8 x9 x10 : D) : Out := run C n (.loop 14 ref09_MakeExpr.osk [(0, 0)] true 0 ref09_MakeExpr_c10.body ref09_MakeExpr_c10.sk [x0, x1, x2, x3, x4, x5, x6, x7, x8, x9, x10])
def ref09_NamesOf_c31.sk : Sk := ⟨[(0, .row 0), (3, .ptr 1 0), (31, .d (.leaf .bool))], [.row 9 1 0, .var [.d (.leaf (.int .i64)), .d (.leaf (.int .i64)), .d (.leaf (.int .i64)), .d (.leaf (.int .i64)), .d (.leaf .str), .d (.leaf (.lst 6))]]⟩
noncomputable def ref09_NamesOf_c31.body : Code := condAt C 17 31
noncomputable def ref09_NamesOf_c31 (n : Nat) (x0 x1 x2 x3 x4 x5 x6 x7 : D) : Out := run C n (.loop 17 ref09_NamesOf.osk [] true 0 ref09_NamesOf_c31.body ref09_NamesOf_c31.sk [x0, x1, x2, x3, x4, x5, x6, x7])
def ref09_NamesOf_L2.sk : Sk := ⟨[(0, .row 0), (3, .ptr 1 0), (7, .d (.leaf (.int .i64)))], [.row 9 1 0, .var [.d (.leaf (.int .i64)), .d (.leaf (.int .i64)), .d (.leaf (.int .i64)), .d (.leaf (.int .i64)), .d (.leaf .str), .d (.leaf (.lst 6))]]⟩
noncomputable def ref09_NamesOf_L2.body : Code := bodyAt C 17 2
noncomputable def ref09_NamesOf_L2 (n : Nat) (x0 x1 x2 x3 x4 x5 x6 x7 : D) : Out := run C n (.loop 17 ref09_NamesOf.osk [] false 2 ref09_NamesOf_L2.body ref09_NamesOf_L2.sk [x0, x1, x2, x3, x4, x5, x6, x7])
def ast_Depth_L0.sk : Sk := ⟨[(3, .d (.leaf (.int .i64))), (7, .d (.leaf (.lst 6))), (8, .d (.leaf (.int .i64))), (9, .d (.leaf (.int .i64)))], []⟩
noncomputable def ast_Depth_L0.body : Code := bodyAt C 18 0
noncomputable def ast_Depth_L0 (n : Nat) (x0 x1 x2 x3 : D) : Out := run C n (.loop 18 ast_Depth.osk [] false 0 ast_Depth_L0.body ast_Depth_L0.sk [x0, x1, x2, x3])
def ref09_Depth_L0.sk : Sk := ⟨[(1, .ptr 0 0), (3, .d (.leaf (.int .i64))), (4, .d (.leaf (.int .i64)))], [.var [.d (.leaf (.int .i64)), .d (.leaf (.int .i64)), .d (.leaf (.int .i64)), .d (.leaf (.int .i64)), .d (.leaf .str), .d (.leaf (.lst 6))]]⟩
noncomputable def ref09_Depth_L0.body : Code := bodyAt C 19 0
noncomputable def ref09_Depth_L0 (n : Nat) (x0 x1 x2 x3 x4 x5 x6 x7 : D) : Out := run C n (.loop 19 ref09_Depth.osk [] false 0 ref09_Depth_L0.body ref09_Depth_L0.sk [x0, x1, x2, x3, x4, x5, x6, x7])
def ref09_MakeExprs_L0.sk : Sk := ⟨[(0, .ptr 0 0), (1, .d (.leaf (.int .i64))), (2, .d (.leaf (.int .i64))), (7, .row 1), (8, .d (.leaf (.int .i64)))], [.var [.d (.leaf (.lst 1)), .d (.leaf (.int .i64))], .row 32 6 0]⟩
noncomputable def ref09_MakeExprs_L0.body : Code := bodyAt C 33 0
noncomputable def ref09_MakeExprs_L0 (n : Nat) (x0 x1 x2 x3 x4 x5 : D) : Out := run C n (.loop 33 ref09_MakeExprs.osk [(0, 0)] false 0 ref09_MakeExprs_L0.body ref09_MakeExprs_L0.sk [x0, x1, x2, x3, x4, x5])
def law09_OwnExprs_L0.sk : Sk := ⟨[(3, .row 0), (6, .d (.leaf (.lst 6))), (7, .d (.leaf (.int .i64))), (8, .d (.leaf (.int .i64)))], [.row 36 6 0]⟩
noncomputable def law09_OwnExprs_L0.body : Code := bodyAt C 35 0
noncomputable def law09_OwnExprs_L0 (n : Nat) (x0 x1 x2 x3 : D) : Out := run C n (.loop 35 law09_OwnExprs.osk [] false 0 law09_OwnExprs_L0.body law09_OwnExprs_L0.sk [x0, x1, x2, x3])
def ast_walk_L0.sk : Sk := ⟨[(1, .fn 37 [.ptr 0 0]), (10, .d (.leaf (.lst 6))), (11, .d (.leaf (.int .i64))), (12, .d (.leaf (.int .i64)))], [.var [.row 1], .row 9 1 0]⟩
noncomputable def ast_walk_L0.body : Code := bodyAt C 36 0
noncomputable def ast_walk_L0 (n : Nat) (x0 x1 x2 x3 : D) : Out := run C n (.loop 36 ast_walk.osk [(0, 0)] false 0 ast_walk_L0.body ast_walk_L0.sk [x0, x1, x2, x3])
def ref09_NamesOf_L0.sk : Sk := ⟨[(0, .row 0), (3, .ptr 1 0), (5, .d (.leaf (.int .i64))), (31, .d (.leaf .bool))], [.row 9 1 0, .var [.d (.leaf (.int .i64)), .d (.leaf (.int .i64)), .d (.leaf (.int .i64)), .d (.leaf (.int .i64)), .d (.leaf .str), .d (.leaf (.lst 6))]]⟩
noncomputable def ref09_NamesOf_L0.body : Code := bodyAt C 17 0
noncomputable def ref09_NamesOf_L0 (n : Nat) (x0 x1 x2 x3 x4 x5 x6 x7 x8 : D) : Out := run C n (.loop 17 ref09_NamesOf.osk [] false 0 ref09_NamesOf_L0.body ref09_NamesOf_L0.sk [x0, x1, x2, x3, x4, x5, x6, x7, x8])
def ref09_NamesOf_c59.sk : Sk := ⟨[(0, .row 0), (3, .ptr 1 0), (5, .d (.leaf (.int .i64))), (59, .d (.leaf .bool)), (31, .d (.leaf .bool))], [.row 9 1 0, .var [.d (.leaf (.int .i64)), .d (.leaf (.int .i64)), .d (.leaf (.int .i64)), .d (.leaf (.int .i64)), .d (.leaf .str), .d (.leaf (.lst 6))]]⟩
noncomputable def ref09_NamesOf_c59.body : Code := condAt C 17 59
noncomputable def ref09_NamesOf_c59 (n : Nat) (x0 x1 x2 x3 x4 x5 x6 x7 x8 x9 : D) : Out := run C n (.loop 17 ref09_NamesOf.osk [] true 0 ref09_NamesOf_c59.body ref09_NamesOf_c59.sk [x0, x1, x2, x3, x4, x5, x6, x7, x8, x9])
def ast_Names_1_c5.sk : Sk := ⟨[(1, .ptr 0 0), (2, .ptr 1 0), (5, .d (.leaf .bool))], [.var [.row 2], .var [.d (.leaf (.int .i64)), .d (.leaf (.int .i64)), .d (.leaf (.int .i64)), .d (.leaf (.int .i64)), .d (.leaf .str), .d (.leaf (.lst 6))], .row 9 1 0]⟩
noncomputable def ast_Names_1_c5.body : Code := condAt C 37 5
noncomputable def ast_Names_1_c5 (n : Nat) (x0 x1 x2 x3 x4 x5 x6 x7 : D) : Out := run C n (.loop 37 ast_Names_1.osk [(0, 0)] true 0 ast_Names_1_c5.body ast_Names_1_c5.sk [x0, x1, x2, x3, x4, x5, x6, x7])
def slices_Sort_string.orc : Sk → List D → Option (List D) := orcSort
theorem slices_Sort_string_orc (n : Nat) (x0 : D) (r : List D) (h : slices_Sort_string.orc slices_Sort_string.sk [x0] = some r) : slices_Sort_string (n + 1) x0 = some (true, r) := by
  show (match C.orc 39 slices_Sort_string.sk [x0] with | some r => some (true, r) | none => _) = _
  rw [show C.orc 39 slices_Sort_string.sk [x0] = some r from h]
def slices_Compact_string.orc : Sk → List D → Option (List D) := orcCompact 9
theorem slices_Compact_string_orc (n : Nat) (x0 : D) (r : List D) (h : slices_Compact_string.orc slices_Compact_string.sk [x0] = some r) : slices_Compact_string (n + 1) x0 = some (true, r) := by
  show (match C.orc 40 slices_Compact_string.sk [x0] with | some r => some (true, r) | none => _) = _
  rw [show C.orc 40 slices_Compact_string.sk [x0] = some r from h]
end Go.Proofs.Ytmklmhdgnokcmaa
