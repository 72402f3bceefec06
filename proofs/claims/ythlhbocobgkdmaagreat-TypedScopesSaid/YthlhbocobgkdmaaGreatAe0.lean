/- By a program (aegen.py): the functions of this seat as tasks of the interpreter. -/
import Derived.Test.YthlhbocobgkdmaaGreatEng
import Derived.Test.YthlhbocobgkdmaaGreatProg
import Derived.KernelRfl
namespace Go.Proofs.YthlhbocobgkdmaaGreat
open Go.AE
set_option linter.unusedVariables false
def globTab : List (Nat × List D) := []
def ownTab : List (Nat × Nat × Nat) := [(75, 0, 1), (96, 0, 2)]
def dresTab : List (Nat × Nat × Nat) := []
def keepTab : List (Nat × Nat × List Nat) := [(3, 0, [0, 1, 5, 6, 7, 8]),
  (3, 3, [5, 6, 7, 11, 102]),
  (41, 0, [1, 2, 4, 30, 31, 32]),
  (46, 0, [2, 3, 7, 8, 9]),
  (57, 0, [1, 2, 10, 11, 12]),
  (60, 0, [0, 1, 12, 13]),
  (62, 2, [4, 6, 50, 51, 52]),
  (75, 0, [0, 1, 5, 6]),
  (88, 0, [1, 10, 11, 12]),
  (96, 0, [0, 1, 7, 8]),
  (98, 0, [0, 1, 7, 8]),
  (104, 0, [2, 3, 10, 11, 12]),
  (109, 0, [2, 3, 4, 6, 7, 14, 15]),
  (110, 0, [2, 3, 4, 5, 17, 18]),
  (110, 2, [2, 3, 4, 5, 6, 7, 8, 17, 18]),
  (112, 0, [2, 3, 4, 6, 7, 14, 15]),
  (135, 0, [0, 5, 8, 9, 10]),
  (137, 0, [0, 3, 4, 5, 10, 11, 12]),
  (144, 0, [2, 3, 4, 5, 6, 7, 8]),
  (146, 0, [1, 2, 4, 5, 6]),
  (147, 0, [1, 2, 3, 6, 7, 13, 14]),
  (148, 0, [2, 3, 5]),
  (154, 1, [0, 4, 13, 15, 117, 118]),
  (168, 0, [0, 1, 6, 12, 13]),
  (169, 0, [1, 5, 8, 9, 10]),
  (171, 0, [2, 6, 7, 9, 28, 29, 30]),
  (176, 0, [0, 1, 7, 8]),
  (183, 0, [0, 2, 3, 12, 13, 14]),
  (184, 0, [0, 5, 8, 9, 10]),
  (185, 0, [0, 3, 4, 5, 6, 28, 29, 30]),
  (198, 0, [2, 5, 12, 13, 14]),
  (200, 1, [0, 1, 5, 6, 7, 8, 9, 10]),
  (210, 0, [0, 1, 5, 6, 7, 8, 9]),
  (210, 2, [0, 1, 5, 6, 7, 8, 10]),
  (215, 0, [0, 4, 5]),
  (215, 2, [4, 6, 7, 8])]
def cutTab : List (Nat × Nat × List Nat) := []
def extList : List (Nat × (List D → Option (Bool × List D))) := []
def orcList : List (Nat × (Sk → List D → Option (List D))) := []
noncomputable def C : Cfg := { P := Tryz.prog, own := tab2 ownTab, dres := tab2 dresTab, keep := tabL keepTab, cut := tabL cutTab, orc := orcTab orcList, ext := extTab extList, gok := fun _ => True, glob := tabG globTab, trn := fun t => [25].any (Nat.beq t), nowid := fun f => [3, 46].any (Nat.beq f) }
def ty_sibi : Ty := .agg [.str, .int .i64, .bool, .int .i64]
def ty_l2 : Ty := .agg [.lst 2]
def ty_l19l2 : Ty := .agg [.lst 19, .lst 2]
def ty_siisibil4ibiiiiibil1l9 : Ty := .agg [.str, .int .i64, .int .i64, .str, .int .i64, .bool, .int .i64, .lst 4, .int .i64, .bool, .int .i64, .int .i64, .int .i64, .int .i64, .int .i64, .bool, .int .i64, .lst 1, .lst 9]
def ty_l4ibiiiiibil1l9 : Ty := .agg [.lst 4, .int .i64, .bool, .int .i64, .int .i64, .int .i64, .int .i64, .int .i64, .bool, .int .i64, .lst 1, .lst 9]
def ty_si : Ty := .agg [.str, .int .i64]
def law12_TypedScopes.sk : Sk := ⟨[(0, .d (.leaf (.lst 1))), (1, .d (.leaf (.lst 1)))], []⟩
def law12_TypedScopes.osk : Sk := ⟨[(0, .d (.leaf .bool))], []⟩
noncomputable def law12_TypedScopes (n : Nat) (x0 x1 : D) : Out := run C n (.call 3 law12_TypedScopes.sk [x0, x1])
def law12_awake.sk : Sk := ⟨[], []⟩
def law12_awake.osk : Sk := ⟨[(0, .d (.leaf .bool))], []⟩
noncomputable def law12_awake (n : Nat) : Out := run C n (.call 6 law12_awake.sk [])
def typed_Scope_Find.sk : Sk := ⟨[(0, .d ty_l19l2), (1, .d (.leaf .str))], []⟩
def typed_Scope_Find.osk : Sk := ⟨[(0, .d (.leaf (.int .i64))), (1, .d (.leaf (.int .i64))), (2, .d ty_sibi)], []⟩
noncomputable def typed_Scope_Find (n : Nat) (x0 x1 : D) : Out := run C n (.call 10 typed_Scope_Find.sk [x0, x1])
def typed_Scope_Env.sk : Sk := ⟨[(0, .d ty_l19l2)], []⟩
def typed_Scope_Env.osk : Sk := ⟨[(0, .d ty_l2)], []⟩
noncomputable def typed_Scope_Env (n : Nat) (x0 : D) : Out := run C n (.call 11 typed_Scope_Env.sk [x0])
def konst_Env_Len.sk : Sk := ⟨[(0, .d ty_l2)], []⟩
def konst_Env_Len.osk : Sk := ⟨[(0, .d (.leaf (.int .i64)))], []⟩
noncomputable def konst_Env_Len (n : Nat) (x0 : D) : Out := run C n (.call 13 konst_Env_Len.sk [x0])
def typed_Scope_Const.sk : Sk := ⟨[(0, .d ty_l19l2), (1, .d (.leaf .str)), (2, .d (.leaf (.int .i64)))], []⟩
def typed_Scope_Const.osk : Sk := ⟨[(0, .d ty_l19l2)], []⟩
noncomputable def typed_Scope_Const (n : Nat) (x0 x1 x2 : D) : Out := run C n (.call 7 typed_Scope_Const.sk [x0, x1, x2])
def typed_Scope_Sig.sk : Sk := ⟨[(0, .d ty_l19l2), (1, .d (.leaf .str)), (2, .d (.leaf (.int .i64))), (3, .d ty_sibi)], []⟩
def typed_Scope_Sig.osk : Sk := ⟨[(0, .d ty_l19l2)], []⟩
noncomputable def typed_Scope_Sig (n : Nat) (x0 x1 x2 x3 : D) : Out := run C n (.call 8 typed_Scope_Sig.sk [x0, x1, x2, x3])
def typed_Scope_Func.sk : Sk := ⟨[(0, .d ty_l19l2), (1, .d (.leaf .str)), (2, .d ty_l4ibiiiiibil1l9)], []⟩
def typed_Scope_Func.osk : Sk := ⟨[(0, .d ty_l19l2)], []⟩
noncomputable def typed_Scope_Func (n : Nat) (x0 x1 x2 : D) : Out := run C n (.call 9 typed_Scope_Func.sk [x0, x1, x2])
def konst_Env_Find.sk : Sk := ⟨[(0, .d ty_l2), (1, .d (.leaf .str))], []⟩
def konst_Env_Find.osk : Sk := ⟨[(0, .d (.leaf (.int .i64))), (1, .d (.leaf .bool))], []⟩
noncomputable def konst_Env_Find (n : Nat) (x0 x1 : D) : Out := run C n (.call 12 konst_Env_Find.sk [x0, x1])
def typed_Scope_find.sk : Sk := ⟨[(0, .d ty_l19l2), (1, .d (.leaf .str))], []⟩
def typed_Scope_find.osk : Sk := ⟨[(0, .d ty_siisibil4ibiiiiibil1l9)], []⟩
noncomputable def typed_Scope_find (n : Nat) (x0 x1 : D) : Out := run C n (.call 47 typed_Scope_find.sk [x0, x1])
def typed_Scope_with.sk : Sk := ⟨[(0, .d ty_l19l2), (1, .d ty_siisibil4ibiiiiibil1l9)], []⟩
def typed_Scope_with.osk : Sk := ⟨[(0, .d ty_l19l2)], []⟩
noncomputable def typed_Scope_with (n : Nat) (x0 x1 : D) : Out := run C n (.call 44 typed_Scope_with.sk [x0, x1])
def konst_Env_With.sk : Sk := ⟨[(0, .d ty_l2), (1, .d (.leaf .str)), (2, .d (.leaf (.int .i64)))], []⟩
def konst_Env_With.osk : Sk := ⟨[(0, .d ty_l2)], []⟩
noncomputable def konst_Env_With (n : Nat) (x0 x1 x2 : D) : Out := run C n (.call 45 konst_Env_With.sk [x0, x1, x2])
def typed_Scope_plain.sk : Sk := ⟨[(0, .d ty_l19l2)], []⟩
def typed_Scope_plain.osk : Sk := ⟨[(0, .d ty_l2)], []⟩
noncomputable def typed_Scope_plain (n : Nat) (x0 : D) : Out := run C n (.call 46 typed_Scope_plain.sk [x0])
def konst_Env_place.sk : Sk := ⟨[(0, .d ty_l2), (1, .d (.leaf .str))], []⟩
def konst_Env_place.osk : Sk := ⟨[(0, .d (.leaf (.int .i64)))], []⟩
noncomputable def konst_Env_place (n : Nat) (x0 x1 : D) : Out := run C n (.call 48 konst_Env_place.sk [x0, x1])
def slices_IndexFunc_thing.sk : Sk := ⟨[(0, .d (.leaf (.lst 19))), (1, .fn 97 [.ptr 0 0])], [.var [.d (.leaf .str)]]⟩
def slices_IndexFunc_thing.osk : Sk := ⟨[(0, .d (.leaf (.int .i64)))], [.var [.d (.leaf .str)]]⟩
noncomputable def slices_IndexFunc_thing (n : Nat) (x0 x1 : D) : Out := run C n (.call 96 slices_IndexFunc_thing.sk [x0, x1])
def slices_Clone_thing.sk : Sk := ⟨[(0, .d (.leaf (.lst 19)))], []⟩
def slices_Clone_thing.osk : Sk := ⟨[(0, .row 0)], [.row 115 19 0]⟩
noncomputable def slices_Clone_thing (n : Nat) (x0 : D) : Out := run C n (.call 76 slices_Clone_thing.sk [x0])
def slices_DeleteFunc_thing.sk : Sk := ⟨[(0, .row 1), (1, .fn 94 [.ptr 0 0])], [.var [.d (.leaf .str), .d (.leaf (.int .i64)), .d (.leaf (.int .i64)), .d (.leaf .str), .d (.leaf (.int .i64)), .d (.leaf .bool), .d (.leaf (.int .i64)), .d (.leaf (.lst 4)), .d (.leaf (.int .i64)), .d (.leaf .bool), .d (.leaf (.int .i64)), .d (.leaf (.int .i64)), .d (.leaf (.int .i64)), .d (.leaf (.int .i64)), .d (.leaf (.int .i64)), .d (.leaf .bool), .d (.leaf (.int .i64)), .d (.leaf (.lst 1)), .d (.leaf (.lst 9))], .row 115 19 2]⟩
def slices_DeleteFunc_thing.osk : Sk := ⟨[(0, .row 2)], [.var [.d (.leaf .str), .d (.leaf (.int .i64)), .d (.leaf (.int .i64)), .d (.leaf .str), .d (.leaf (.int .i64)), .d (.leaf .bool), .d (.leaf (.int .i64)), .d (.leaf (.lst 4)), .d (.leaf (.int .i64)), .d (.leaf .bool), .d (.leaf (.int .i64)), .d (.leaf (.int .i64)), .d (.leaf (.int .i64)), .d (.leaf (.int .i64)), .d (.leaf (.int .i64)), .d (.leaf .bool), .d (.leaf (.int .i64)), .d (.leaf (.lst 1)), .d (.leaf (.lst 9))], .gone, .row 115 19 0]⟩
noncomputable def slices_DeleteFunc_thing (n : Nat) (x0 x1 x2 x3 x4 x5 x6 x7 x8 x9 x10 x11 x12 x13 x14 x15 x16 x17 x18 x19 : D) : Out := run C n (.call 75 slices_DeleteFunc_thing.sk [x0, x1, x2, x3, x4, x5, x6, x7, x8, x9, x10, x11, x12, x13, x14, x15, x16, x17, x18, x19])
def slices_Clone_named.sk : Sk := ⟨[(0, .d (.leaf (.lst 2)))], []⟩
def slices_Clone_named.osk : Sk := ⟨[(0, .row 0)], [.row 120 2 0]⟩
noncomputable def slices_Clone_named (n : Nat) (x0 : D) : Out := run C n (.call 95 slices_Clone_named.sk [x0])
def slices_IndexFunc_named.sk : Sk := ⟨[(0, .d (.leaf (.lst 2))), (1, .fn 99 [.ptr 0 0])], [.var [.d (.leaf .str)]]⟩
def slices_IndexFunc_named.osk : Sk := ⟨[(0, .d (.leaf (.int .i64)))], [.var [.d (.leaf .str)]]⟩
noncomputable def slices_IndexFunc_named (n : Nat) (x0 x1 : D) : Out := run C n (.call 98 slices_IndexFunc_named.sk [x0, x1])
def slices_IndexFunc_thing_2.sk : Sk := ⟨[(0, .row 0), (1, .fn 94 [.ptr 1 0])], [.row 115 19 1, .var [.d (.leaf .str), .d (.leaf (.int .i64)), .d (.leaf (.int .i64)), .d (.leaf .str), .d (.leaf (.int .i64)), .d (.leaf .bool), .d (.leaf (.int .i64)), .d (.leaf (.lst 4)), .d (.leaf (.int .i64)), .d (.leaf .bool), .d (.leaf (.int .i64)), .d (.leaf (.int .i64)), .d (.leaf (.int .i64)), .d (.leaf (.int .i64)), .d (.leaf (.int .i64)), .d (.leaf .bool), .d (.leaf (.int .i64)), .d (.leaf (.lst 1)), .d (.leaf (.lst 9))]]⟩
def slices_IndexFunc_thing_2.osk : Sk := ⟨[(0, .d (.leaf (.int .i64)))], [.row 115 19 1, .var [.d (.leaf .str), .d (.leaf (.int .i64)), .d (.leaf (.int .i64)), .d (.leaf .str), .d (.leaf (.int .i64)), .d (.leaf .bool), .d (.leaf (.int .i64)), .d (.leaf (.lst 4)), .d (.leaf (.int .i64)), .d (.leaf .bool), .d (.leaf (.int .i64)), .d (.leaf (.int .i64)), .d (.leaf (.int .i64)), .d (.leaf (.int .i64)), .d (.leaf (.int .i64)), .d (.leaf .bool), .d (.leaf (.int .i64)), .d (.leaf (.lst 1)), .d (.leaf (.lst 9))]]⟩
noncomputable def slices_IndexFunc_thing_2 (n : Nat) (x0 x1 x2 x3 x4 x5 x6 x7 x8 x9 x10 x11 x12 x13 x14 x15 x16 x17 x18 x19 : D) : Out := run C n (.call 96 slices_IndexFunc_thing_2.sk [x0, x1, x2, x3, x4, x5, x6, x7, x8, x9, x10, x11, x12, x13, x14, x15, x16, x17, x18, x19])
def typed_Scope_find_1.sk : Sk := ⟨[(0, .d ty_siisibil4ibiiiiibil1l9), (1, .ptr 0 0)], [.var [.d (.leaf .str)]]⟩
def typed_Scope_find_1.osk : Sk := ⟨[(0, .d (.leaf .bool))], [.var [.d (.leaf .str)]]⟩
noncomputable def typed_Scope_find_1 (n : Nat) (x0 x1 : D) : Out := run C n (.call 97 typed_Scope_find_1.sk [x0, x1])
def typed_Scope_with_1.sk : Sk := ⟨[(0, .d ty_siisibil4ibiiiiibil1l9), (1, .ptr 0 0)], [.var [.d (.leaf .str), .d (.leaf (.int .i64)), .d (.leaf (.int .i64)), .d (.leaf .str), .d (.leaf (.int .i64)), .d (.leaf .bool), .d (.leaf (.int .i64)), .d (.leaf (.lst 4)), .d (.leaf (.int .i64)), .d (.leaf .bool), .d (.leaf (.int .i64)), .d (.leaf (.int .i64)), .d (.leaf (.int .i64)), .d (.leaf (.int .i64)), .d (.leaf (.int .i64)), .d (.leaf .bool), .d (.leaf (.int .i64)), .d (.leaf (.lst 1)), .d (.leaf (.lst 9))]]⟩
def typed_Scope_with_1.osk : Sk := ⟨[(0, .d (.leaf .bool))], [.var [.d (.leaf .str), .d (.leaf (.int .i64)), .d (.leaf (.int .i64)), .d (.leaf .str), .d (.leaf (.int .i64)), .d (.leaf .bool), .d (.leaf (.int .i64)), .d (.leaf (.lst 4)), .d (.leaf (.int .i64)), .d (.leaf .bool), .d (.leaf (.int .i64)), .d (.leaf (.int .i64)), .d (.leaf (.int .i64)), .d (.leaf (.int .i64)), .d (.leaf (.int .i64)), .d (.leaf .bool), .d (.leaf (.int .i64)), .d (.leaf (.lst 1)), .d (.leaf (.lst 9))]]⟩
noncomputable def typed_Scope_with_1 (n : Nat) (x0 x1 x2 x3 x4 x5 x6 x7 x8 x9 x10 x11 x12 x13 x14 x15 x16 x17 x18 x19 : D) : Out := run C n (.call 94 typed_Scope_with_1.sk [x0, x1, x2, x3, x4, x5, x6, x7, x8, x9, x10, x11, x12, x13, x14, x15, x16, x17, x18, x19])
def konst_Env_place_1.sk : Sk := ⟨[(0, .d ty_si), (1, .ptr 0 0)], [.var [.d (.leaf .str)]]⟩
def konst_Env_place_1.osk : Sk := ⟨[(0, .d (.leaf .bool))], [.var [.d (.leaf .str)]]⟩
noncomputable def konst_Env_place_1 (n : Nat) (x0 x1 : D) : Out := run C n (.call 99 konst_Env_place_1.sk [x0, x1])
def law12_TypedScopes_L0.sk : Sk := ⟨[(0, .d (.leaf (.lst 1))), (1, .d (.leaf (.lst 1))), (5, .ptr 0 0), (6, .mp 1), (7, .mp 2), (8, .d (.leaf (.int .i64)))], [.var [.d (.leaf (.lst 19)), .d (.leaf (.lst 2))], .mp (.str), .mp (.str)]⟩
noncomputable def law12_TypedScopes_L0.body : Code := bodyAt C 3 0
noncomputable def law12_TypedScopes_L0 (n : Nat) (x0 x1 x2 x3 x4 x5 x6 : D) : Out := run C n (.loop 3 law12_TypedScopes.osk [] [] false 0 law12_TypedScopes_L0.body law12_TypedScopes_L0.sk [x0, x1, x2, x3, x4, x5, x6])
def law12_TypedScopes_L3.sk : Sk := ⟨[(5, .ptr 0 0), (6, .mp 1), (7, .mp 2), (11, .d (.leaf (.int .i64))), (102, .ptr 3 0)], [.var [.d (.leaf (.lst 19)), .d (.leaf (.lst 2))], .mp (.str), .mp (.str), .it 31 1]⟩
noncomputable def law12_TypedScopes_L3.body : Code := bodyAt C 3 3
noncomputable def law12_TypedScopes_L3 (n : Nat) (x0 x1 x2 x3 x4 x5 : D) : Out := run C n (.loop 3 law12_TypedScopes.osk [] [] false 3 law12_TypedScopes_L3.body law12_TypedScopes_L3.sk [x0, x1, x2, x3, x4, x5])
def typed_Scope_plain_L0.sk : Sk := ⟨[(2, .ptr 0 0), (3, .ptr 1 0), (7, .d (.leaf (.lst 19))), (8, .d (.leaf (.int .i64))), (9, .d (.leaf (.int .i64)))], [.var [.d (.leaf (.lst 2))], .var [.d (.leaf (.lst 2))]]⟩
noncomputable def typed_Scope_plain_L0.body : Code := bodyAt C 46 0
noncomputable def typed_Scope_plain_L0 (n : Nat) (x0 x1 x2 x3 x4 : D) : Out := run C n (.loop 46 typed_Scope_plain.osk [] [] false 0 typed_Scope_plain_L0.body typed_Scope_plain_L0.sk [x0, x1, x2, x3, x4])
def slices_IndexFunc_thing_L0.sk : Sk := ⟨[(0, .d (.leaf (.lst 19))), (1, .fn 97 [.ptr 0 0]), (7, .d (.leaf (.int .i64))), (8, .d (.leaf (.int .i64)))], [.var [.d (.leaf .str)]]⟩
noncomputable def slices_IndexFunc_thing_L0.body : Code := bodyAt C 96 0
noncomputable def slices_IndexFunc_thing_L0 (n : Nat) (x0 x1 x2 x3 : D) : Out := run C n (.loop 96 slices_IndexFunc_thing.osk [(0, 0)] [] false 0 slices_IndexFunc_thing_L0.body slices_IndexFunc_thing_L0.sk [x0, x1, x2, x3])
def slices_DeleteFunc_thing_L0.sk : Sk := ⟨[(0, .row 1), (1, .fn 94 [.ptr 0 0]), (5, .d (.leaf (.int .i64))), (6, .d (.leaf (.int .i64)))], [.var [.d (.leaf .str), .d (.leaf (.int .i64)), .d (.leaf (.int .i64)), .d (.leaf .str), .d (.leaf (.int .i64)), .d (.leaf .bool), .d (.leaf (.int .i64)), .d (.leaf (.lst 4)), .d (.leaf (.int .i64)), .d (.leaf .bool), .d (.leaf (.int .i64)), .d (.leaf (.int .i64)), .d (.leaf (.int .i64)), .d (.leaf (.int .i64)), .d (.leaf (.int .i64)), .d (.leaf .bool), .d (.leaf (.int .i64)), .d (.leaf (.lst 1)), .d (.leaf (.lst 9))], .row 115 19 0]⟩
noncomputable def slices_DeleteFunc_thing_L0.body : Code := bodyAt C 75 0
noncomputable def slices_DeleteFunc_thing_L0 (n : Nat) (x0 x1 x2 x3 x4 x5 x6 x7 x8 x9 x10 x11 x12 x13 x14 x15 x16 x17 x18 x19 x20 x21 : D) : Out := run C n (.loop 75 slices_DeleteFunc_thing.osk [(0, 0)] [] false 0 slices_DeleteFunc_thing_L0.body slices_DeleteFunc_thing_L0.sk [x0, x1, x2, x3, x4, x5, x6, x7, x8, x9, x10, x11, x12, x13, x14, x15, x16, x17, x18, x19, x20, x21])
def slices_IndexFunc_named_L0.sk : Sk := ⟨[(0, .d (.leaf (.lst 2))), (1, .fn 99 [.ptr 0 0]), (7, .d (.leaf (.int .i64))), (8, .d (.leaf (.int .i64)))], [.var [.d (.leaf .str)]]⟩
noncomputable def slices_IndexFunc_named_L0.body : Code := bodyAt C 98 0
noncomputable def slices_IndexFunc_named_L0 (n : Nat) (x0 x1 x2 x3 : D) : Out := run C n (.loop 98 slices_IndexFunc_named.osk [(0, 0)] [] false 0 slices_IndexFunc_named_L0.body slices_IndexFunc_named_L0.sk [x0, x1, x2, x3])
def slices_IndexFunc_thing_2_L0.sk : Sk := ⟨[(0, .row 0), (1, .fn 94 [.ptr 1 0]), (7, .d (.leaf (.int .i64))), (8, .d (.leaf (.int .i64)))], [.row 115 19 0, .var [.d (.leaf .str), .d (.leaf (.int .i64)), .d (.leaf (.int .i64)), .d (.leaf .str), .d (.leaf (.int .i64)), .d (.leaf .bool), .d (.leaf (.int .i64)), .d (.leaf (.lst 4)), .d (.leaf (.int .i64)), .d (.leaf .bool), .d (.leaf (.int .i64)), .d (.leaf (.int .i64)), .d (.leaf (.int .i64)), .d (.leaf (.int .i64)), .d (.leaf (.int .i64)), .d (.leaf .bool), .d (.leaf (.int .i64)), .d (.leaf (.lst 1)), .d (.leaf (.lst 9))]]⟩
noncomputable def slices_IndexFunc_thing_2_L0.body : Code := bodyAt C 96 0
noncomputable def slices_IndexFunc_thing_2_L0 (n : Nat) (x0 x1 x2 x3 x4 x5 x6 x7 x8 x9 x10 x11 x12 x13 x14 x15 x16 x17 x18 x19 x20 x21 : D) : Out := run C n (.loop 96 slices_IndexFunc_thing_2.osk [(0, 0), (1, 1)] [] false 0 slices_IndexFunc_thing_2_L0.body slices_IndexFunc_thing_2_L0.sk [x0, x1, x2, x3, x4, x5, x6, x7, x8, x9, x10, x11, x12, x13, x14, x15, x16, x17, x18, x19, x20, x21])
end Go.Proofs.YthlhbocobgkdmaaGreat
