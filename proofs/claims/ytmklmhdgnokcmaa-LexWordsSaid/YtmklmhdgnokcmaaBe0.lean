/- By a program (aegen.py): the functions of this seat as tasks of the interpreter. -/
import Derived.Test.YtmklmhdgnokcmaaEng
import Derived.Test.YtmklmhdgnokcmaaProg
import Derived.KernelRfl
namespace Go.Proofs.Ytmklmhdgnokcmaa
open Go.AE
set_option linter.unusedVariables false
def ownTab : List (Nat × Nat × Nat) := [(50, 0, 1), (151, 0, 1), (175, 0, 2)]
def dresTab : List (Nat × Nat × Nat) := [(150, 0, 2), (151, 0, 2), (152, 0, 2), (153, 0, 2), (172, 0, 2)]
def keepTab : List (Nat × Nat × List Nat) := [(6, 0, [5, 8, 47, 48]),
  (26, 0, [0, 4, 5, 6]),
  (27, 0, [3, 5, 11, 12, 13]),
  (28, 0, [0, 3, 5, 6]),
  (28, 2, [0, 3, 5, 6, 7, 8]),
  (28, 4, [0, 3, 5, 6, 7, 8, 9, 13]),
  (29, 0, [3, 9, 10, 11]),
  (50, 0, [0, 4, 5, 6, 7, 8, 9]),
  (51, 0, [0, 5, 6]),
  (51, 2, [0, 6]),
  (51, 4, [0, 6]),
  (51, 6, [0, 6]),
  (51, 8, [0, 6, 9, 10]),
  (52, 1, [0, 1, 5, 39, 40, 41]),
  (52, 3, [1, 8, 63, 64, 65]),
  (67, 0, [1, 2, 4, 7, 8]),
  (68, 0, [0, 1, 5]),
  (74, 0, [0, 2, 4, 5]),
  (110, 0, [0, 3]),
  (111, 0, [0, 1, 5]),
  (112, 0, [0, 1, 5, 6]),
  (113, 0, [0, 1, 6, 7]),
  (114, 0, [0, 1, 2, 7, 8]),
  (114, 2, [0, 1, 2, 7, 8, 9, 10]),
  (114, 4, [0, 1, 2, 8, 9, 11]),
  (131, 0, [0, 1, 6, 12, 13]),
  (132, 0, [1, 5, 8, 9, 10]),
  (134, 0, [2, 6, 7, 9, 28, 29, 30]),
  (137, 0, [0, 1, 2, 7, 8]),
  (152, 0, [2, 3, 4, 6, 7, 14, 15]),
  (153, 0, [2, 3, 10, 11, 12]),
  (154, 0, [2, 3, 4, 5, 17, 18]),
  (154, 2, [2, 3, 4, 5, 6, 7, 8, 17, 18]),
  (156, 0, [2, 3, 4, 6, 7, 14, 15]),
  (169, 0, [2, 3, 4, 5, 6, 7, 8]),
  (171, 0, [1, 2, 10, 11, 12]),
  (172, 0, [1, 2, 4, 5, 6]),
  (173, 0, [1, 2, 3, 6, 7, 13, 14]),
  (177, 0, [2, 3, 5]),
  (184, 0, [0, 1, 12, 13]),
  (187, 0, [0, 1, 7, 8])]
def cutTab : List (Nat × Nat × List Nat) := []
def extList : List (Nat × (List D → Option (Bool × List D))) := [(167, extAdd64), (126, extIndexByte)]
def orcList : List (Nat × (Sk → List D → Option (List D))) := [(135, orcContains), (129, orcCut), (52, orcJoin)]
noncomputable def C : Cfg := { P := Try.prog, own := tab2 ownTab, dres := tab2 dresTab, keep := tabL keepTab, cut := tabL cutTab, orc := orcTab orcList, ext := extTab extList, gok := HasInt 0 }
def ty_iii : Ty := .agg [.int .i64, .int .i64, .int .i64]
def ty_isiii : Ty := .agg [.int .i64, .str, .int .i64, .int .i64, .int .i64]
def ty_siiib : Ty := .agg [.str, .int .i64, .int .i64, .int .i64, .bool]
def ty_l1bb : Ty := .agg [.lst 1, .bool, .bool]
def ty_il1bb : Ty := .agg [.int .i64, .lst 1, .bool, .bool]
def ty_il1 : Ty := .agg [.int .i64, .lst 1]
def law08_LexWords.sk : Sk := ⟨[(0, .d (.leaf (.lst 5)))], []⟩
def law08_LexWords.osk : Sk := ⟨[(0, .d (.leaf .bool))], []⟩
noncomputable def law08_LexWords (n : Nat) (x0 : D) : Out := run C n (.call 6 law08_LexWords.sk [x0])
def law08_awake.sk : Sk := ⟨[], []⟩
def law08_awake.osk : Sk := ⟨[(0, .d (.leaf .bool))], []⟩
noncomputable def law08_awake (n : Nat) : Out := run C n (.call 25 law08_awake.sk [])
def law08_few.sk : Sk := ⟨[(0, .d (.leaf (.lst 5)))], []⟩
def law08_few.osk : Sk := ⟨[(0, .row 0), (1, .row 1)], [.row 104 5 0, .row 73 5 0]⟩
noncomputable def law08_few (n : Nat) (x0 : D) : Out := run C n (.call 26 law08_few.sk [x0])
def lex_Lex.sk : Sk := ⟨[(0, .d (.leaf (.lst 5)))], []⟩
def lex_Lex.osk : Sk := ⟨[(0, .row 0), (1, .d ty_iii), (2, .d (.leaf (.int .i64)))], [.row 68 5 0]⟩
noncomputable def lex_Lex (n : Nat) (x0 : D) : Out := run C n (.call 27 lex_Lex.sk [x0])
def ref08_Lex.sk : Sk := ⟨[(0, .d (.leaf (.lst 5)))], []⟩
def ref08_Lex.osk : Sk := ⟨[(0, .row 0), (1, .d ty_iii), (2, .d (.leaf (.int .i64)))], [.row 69 5 0]⟩
noncomputable def ref08_Lex (n : Nat) (x0 : D) : Out := run C n (.call 28 ref08_Lex.sk [x0])
def lex_Text.sk : Sk := ⟨[(0, .d (.leaf (.lst 5)))], []⟩
def lex_Text.osk : Sk := ⟨[(0, .d (.leaf .str))], []⟩
noncomputable def lex_Text (n : Nat) (x0 : D) : Out := run C n (.call 29 lex_Text.sk [x0])
def strings_Join.sk : Sk := ⟨[(0, .d (.leaf (.lst 1))), (1, .d (.leaf .str))], []⟩
def strings_Join.osk : Sk := ⟨[(0, .d (.leaf .str))], []⟩
noncomputable def strings_Join (n : Nat) (x0 x1 : D) : Out := run C n (.call 52 strings_Join.sk [x0, x1])
def lex_piece.sk : Sk := ⟨[(0, .row 0), (1, .d ty_siiib)], [.row 68 5 2]⟩
def lex_piece.osk : Sk := ⟨[(0, .row 1), (1, .d ty_iii), (2, .d (.leaf (.int .i64)))], [.gone, .row 68 5 0]⟩
noncomputable def lex_piece (n : Nat) (x0 x1 : D) : Out := run C n (.call 50 lex_piece.sk [x0, x1])
def ref08_Word.sk : Sk := ⟨[(0, .d (.leaf .str))], []⟩
def ref08_Word.osk : Sk := ⟨[(0, .d (.leaf (.int .i64))), (1, .d (.leaf (.int .i64))), (2, .d (.leaf (.int .i64)))], []⟩
noncomputable def ref08_Word (n : Nat) (x0 : D) : Out := run C n (.call 51 ref08_Word.sk [x0])
def lex_span.sk : Sk := ⟨[(0, .d (.leaf .str)), (1, .fn 69 [])], []⟩
def lex_span.osk : Sk := ⟨[(0, .d (.leaf (.int .i64)))], []⟩
noncomputable def lex_span (n : Nat) (x0 : D) : Out := run C n (.call 68 lex_span.sk [x0])
def lex_piece_1.sk : Sk := ⟨[(0, .d (.leaf (.int .i64))), (1, .ptr 0 0), (2, .ptr 1 0), (3, .ptr 2 0)], [.var [.d (.leaf .str), .d (.leaf (.int .i64)), .d (.leaf (.int .i64)), .d (.leaf (.int .i64)), .d (.leaf .bool)], .var [.d (.leaf (.int .i64)), .d (.leaf (.int .i64)), .d (.leaf (.int .i64))], .var [.d (.leaf .str)]]⟩
def lex_piece_1.osk : Sk := ⟨[], [.var [.d (.leaf .str), .d (.leaf (.int .i64)), .d (.leaf (.int .i64)), .d (.leaf (.int .i64)), .d (.leaf .bool)], .var [.d (.leaf (.int .i64)), .d (.leaf (.int .i64)), .d (.leaf (.int .i64))], .var [.d (.leaf .str)]]⟩
noncomputable def lex_piece_1 (n : Nat) (x0 x1 x2 x3 x4 x5 x6 x7 x8 x9 : D) : Out := run C n (.call 66 lex_piece_1.sk [x0, x1, x2, x3, x4, x5, x6, x7, x8, x9])
def lex_word.sk : Sk := ⟨[(0, .d (.leaf .str))], []⟩
def lex_word.osk : Sk := ⟨[(0, .d (.leaf (.int .i64))), (1, .d (.leaf (.int .i64))), (2, .d (.leaf (.int .i64)))], []⟩
noncomputable def lex_word (n : Nat) (x0 : D) : Out := run C n (.call 71 lex_word.sk [x0])
def ref08_letter.sk : Sk := ⟨[(0, .d (.leaf (.int .u8)))], []⟩
def ref08_letter.osk : Sk := ⟨[(0, .d (.leaf .bool))], []⟩
noncomputable def ref08_letter (n : Nat) (x0 : D) : Out := run C n (.call 72 ref08_letter.sk [x0])
def ref08_digit.sk : Sk := ⟨[(0, .d (.leaf (.int .u8)))], []⟩
def ref08_digit.osk : Sk := ⟨[(0, .d (.leaf .bool))], []⟩
noncomputable def ref08_digit (n : Nat) (x0 : D) : Out := run C n (.call 73 ref08_digit.sk [x0])
def ref02_Parse.sk : Sk := ⟨[(0, .d (.leaf .str))], []⟩
def ref02_Parse.osk : Sk := ⟨[(0, .d ty_l1bb), (1, .d (.leaf (.int .i64)))], []⟩
noncomputable def ref02_Parse (n : Nat) (x0 : D) : Out := run C n (.call 74 ref02_Parse.sk [x0])
def lex_move.sk : Sk := ⟨[(0, .d ty_iii), (1, .d (.leaf .str))], []⟩
def lex_move.osk : Sk := ⟨[(0, .d ty_iii)], []⟩
noncomputable def lex_move (n : Nat) (x0 x1 : D) : Out := run C n (.call 67 lex_move.sk [x0, x1])
def lex_letter.sk : Sk := ⟨[(0, .d (.leaf (.int .u8)))], []⟩
def lex_letter.osk : Sk := ⟨[(0, .d (.leaf .bool))], []⟩
noncomputable def lex_letter (n : Nat) (x0 : D) : Out := run C n (.call 105 lex_letter.sk [x0])
def lex_span_2.sk : Sk := ⟨[(0, .d (.leaf .str)), (1, .fn 106 [])], []⟩
def lex_span_2.osk : Sk := ⟨[(0, .d (.leaf (.int .i64)))], []⟩
noncomputable def lex_span_2 (n : Nat) (x0 : D) : Out := run C n (.call 68 lex_span_2.sk [x0])
def lex_digit.sk : Sk := ⟨[(0, .d (.leaf (.int .u8)))], []⟩
def lex_digit.osk : Sk := ⟨[(0, .d (.leaf .bool))], []⟩
noncomputable def lex_digit (n : Nat) (x0 : D) : Out := run C n (.call 107 lex_digit.sk [x0])
def lex_number.sk : Sk := ⟨[(0, .d (.leaf .str))], []⟩
def lex_number.osk : Sk := ⟨[(0, .d (.leaf (.int .i64)))], []⟩
noncomputable def lex_number (n : Nat) (x0 : D) : Out := run C n (.call 108 lex_number.sk [x0])
def lit_Parse.sk : Sk := ⟨[(0, .d (.leaf .str))], []⟩
def lit_Parse.osk : Sk := ⟨[(0, .d ty_il1bb), (1, .d (.leaf (.int .i64)))], []⟩
noncomputable def lit_Parse (n : Nat) (x0 : D) : Out := run C n (.call 109 lit_Parse.sk [x0])
def lex_sign.sk : Sk := ⟨[(0, .d (.leaf .str))], []⟩
def lex_sign.osk : Sk := ⟨[(0, .d (.leaf (.int .i64)))], []⟩
noncomputable def lex_sign (n : Nat) (x0 : D) : Out := run C n (.call 110 lex_sign.sk [x0])
def ref02_digits.sk : Sk := ⟨[(0, .d (.leaf .str)), (1, .d (.leaf (.int .i64)))], []⟩
def ref02_digits.osk : Sk := ⟨[(0, .d (.leaf (.int .i64)))], []⟩
noncomputable def ref02_digits (n : Nat) (x0 x1 : D) : Out := run C n (.call 111 ref02_digits.sk [x0, x1])
def ref02_decimal.sk : Sk := ⟨[(0, .d (.leaf .str)), (1, .d (.leaf (.int .i64)))], []⟩
def ref02_decimal.osk : Sk := ⟨[(0, .d (.leaf (.int .i64)))], []⟩
noncomputable def ref02_decimal (n : Nat) (x0 x1 : D) : Out := run C n (.call 112 ref02_decimal.sk [x0, x1])
def ref01_New.sk : Sk := ⟨[(0, .d (.leaf (.int .i64))), (1, .d (.leaf (.lst 1)))], []⟩
def ref01_New.osk : Sk := ⟨[(0, .row 0), (1, .d (.leaf (.int .i64)))], [.row 4 1 0]⟩
noncomputable def ref01_New (n : Nat) (x0 x1 : D) : Out := run C n (.call 113 ref01_New.sk [x0, x1])
def ref02_number.sk : Sk := ⟨[(0, .d (.leaf .str)), (1, .d (.leaf (.int .i64))), (2, .d (.leaf (.int .i64)))], []⟩
def ref02_number.osk : Sk := ⟨[(0, .row 0)], [.row 4 1 0]⟩
noncomputable def ref02_number (n : Nat) (x0 x1 x2 : D) : Out := run C n (.call 114 ref02_number.sk [x0, x1, x2])
def ref08_signs.sk : Sk := ⟨[(0, .d (.leaf (.int .i64)))], []⟩
def ref08_signs.osk : Sk := ⟨[(0, .row 0)], [.row 9 1 0]⟩
noncomputable def ref08_signs (n : Nat) (x0 : D) : Out := run C n (.call 75 ref08_signs.sk [x0])
def lex_piece_2.sk : Sk := ⟨[(0, .d (.leaf (.int .u8)))], []⟩
def lex_piece_2.osk : Sk := ⟨[(0, .d (.leaf .bool))], []⟩
noncomputable def lex_piece_2 (n : Nat) (x0 : D) : Out := run C n (.call 69 lex_piece_2.sk [x0])
def lex_span_3.sk : Sk := ⟨[(0, .d (.leaf .str)), (1, .fn 127 [])], []⟩
def lex_span_3.osk : Sk := ⟨[(0, .d (.leaf (.int .i64)))], []⟩
noncomputable def lex_span_3 (n : Nat) (x0 : D) : Out := run C n (.call 68 lex_span_3.sk [x0])
def lex_span_4.sk : Sk := ⟨[(0, .d (.leaf .str)), (1, .fn 128 [])], []⟩
def lex_span_4.osk : Sk := ⟨[(0, .d (.leaf (.int .i64)))], []⟩
noncomputable def lex_span_4 (n : Nat) (x0 : D) : Out := run C n (.call 68 lex_span_4.sk [x0])
def strings_Cut.sk : Sk := ⟨[(0, .d (.leaf .str)), (1, .d (.leaf .str))], []⟩
def strings_Cut.osk : Sk := ⟨[(0, .d (.leaf .str)), (1, .d (.leaf .str)), (2, .d (.leaf .bool))], []⟩
noncomputable def strings_Cut (n : Nat) (x0 x1 : D) : Out := run C n (.call 129 strings_Cut.sk [x0, x1])
def lit_plain.sk : Sk := ⟨[(0, .d (.leaf .str))], []⟩
def lit_plain.osk : Sk := ⟨[(0, .d ty_il1bb), (1, .d (.leaf (.int .i64)))], []⟩
noncomputable def lit_plain (n : Nat) (x0 : D) : Out := run C n (.call 130 lit_plain.sk [x0])
def lit_digits.sk : Sk := ⟨[(0, .d (.leaf .str)), (1, .d (.leaf (.int .i64)))], []⟩
def lit_digits.osk : Sk := ⟨[(0, .row 0), (1, .d (.leaf (.int .i64)))], [.row 3 1 0]⟩
noncomputable def lit_digits (n : Nat) (x0 x1 : D) : Out := run C n (.call 131 lit_digits.sk [x0, x1])
def lit_small.sk : Sk := ⟨[(0, .d (.leaf (.lst 1))), (1, .d (.leaf (.int .i64)))], []⟩
def lit_small.osk : Sk := ⟨[(0, .d (.leaf (.int .i64)))], []⟩
noncomputable def lit_small (n : Nat) (x0 x1 : D) : Out := run C n (.call 132 lit_small.sk [x0, x1])
def lit_based.sk : Sk := ⟨[(0, .d (.leaf .str))], []⟩
def lit_based.osk : Sk := ⟨[(0, .d (.leaf .str)), (1, .d (.leaf (.int .i64))), (2, .d (.leaf .bool)), (3, .d (.leaf (.int .i64)))], []⟩
noncomputable def lit_based (n : Nat) (x0 : D) : Out := run C n (.call 133 lit_based.sk [x0])
def lit_bits.sk : Sk := ⟨[(0, .d (.leaf (.lst 1))), (1, .d (.leaf (.int .i64))), (2, .d (.leaf (.int .i64)))], []⟩
def lit_bits.osk : Sk := ⟨[(0, .d ty_il1)], []⟩
noncomputable def lit_bits (n : Nat) (x0 x1 x2 : D) : Out := run C n (.call 134 lit_bits.sk [x0, x1, x2])
def strings_IndexByte.sk : Sk := ⟨[(0, .d (.leaf .str)), (1, .d (.leaf (.int .u8)))], []⟩
def strings_IndexByte.osk : Sk := ⟨[(0, .d (.leaf (.int .i64)))], []⟩
noncomputable def strings_IndexByte (n : Nat) (x0 x1 : D) : Out := run C n (.call 70 strings_IndexByte.sk [x0, x1])
def lex_word_1.sk : Sk := ⟨[(0, .d (.leaf (.int .u8)))], []⟩
def lex_word_1.osk : Sk := ⟨[(0, .d (.leaf .bool))], []⟩
noncomputable def lex_word_1 (n : Nat) (x0 : D) : Out := run C n (.call 106 lex_word_1.sk [x0])
def lit_Of.sk : Sk := ⟨[(0, .d (.leaf (.int .i64)))], []⟩
def lit_Of.osk : Sk := ⟨[(0, .d ty_il1bb), (1, .d (.leaf (.int .i64)))], []⟩
noncomputable def lit_Of (n : Nat) (x0 : D) : Out := run C n (.call 142 lit_Of.sk [x0])
def lit_base.sk : Sk := ⟨[(0, .d (.leaf (.int .u8)))], []⟩
def lit_base.osk : Sk := ⟨[(0, .d (.leaf (.int .i64)))], []⟩
noncomputable def lit_base (n : Nat) (x0 : D) : Out := run C n (.call 144 lit_base.sk [x0])
def bv_New.sk : Sk := ⟨[(0, .d (.leaf (.int .i64))), (1, .d (.leaf (.lst 1)))], []⟩
def bv_New.osk : Sk := ⟨[(0, .d ty_il1), (1, .d (.leaf (.int .i64)))], []⟩
noncomputable def bv_New (n : Nat) (x0 x1 : D) : Out := run C n (.call 145 bv_New.sk [x0, x1])
def strings_Contains.sk : Sk := ⟨[(0, .d (.leaf .str)), (1, .d (.leaf .str))], []⟩
def strings_Contains.osk : Sk := ⟨[(0, .d (.leaf .bool))], []⟩
noncomputable def strings_Contains (n : Nat) (x0 x1 : D) : Out := run C n (.call 135 strings_Contains.sk [x0, x1])
def internal_stringslite_IndexByte.sk : Sk := ⟨[(0, .d (.leaf .str)), (1, .d (.leaf (.int .u8)))], []⟩
def internal_stringslite_IndexByte.osk : Sk := ⟨[(0, .d (.leaf (.int .i64)))], []⟩
noncomputable def internal_stringslite_IndexByte (n : Nat) (x0 x1 : D) : Out := run C n (.call 104 internal_stringslite_IndexByte.sk [x0, x1])
def ref02_value.sk : Sk := ⟨[(0, .d (.leaf (.int .u8)))], []⟩
def ref02_value.osk : Sk := ⟨[(0, .d (.leaf (.int .i64)))], []⟩
noncomputable def ref02_value (n : Nat) (x0 : D) : Out := run C n (.call 136 ref02_value.sk [x0])
def lex_number_1.sk : Sk := ⟨[(0, .d (.leaf (.int .u8)))], []⟩
def lex_number_1.osk : Sk := ⟨[(0, .d (.leaf .bool))], []⟩
noncomputable def lex_number_1 (n : Nat) (x0 : D) : Out := run C n (.call 127 lex_number_1.sk [x0])
def lex_number_2.sk : Sk := ⟨[(0, .d (.leaf (.int .u8)))], []⟩
def lex_number_2.osk : Sk := ⟨[(0, .d (.leaf .bool))], []⟩
noncomputable def lex_number_2 (n : Nat) (x0 : D) : Out := run C n (.call 128 lex_number_2.sk [x0])
def lit_value.sk : Sk := ⟨[(0, .d (.leaf (.int .u8)))], []⟩
def lit_value.osk : Sk := ⟨[(0, .d (.leaf (.int .i64)))], []⟩
noncomputable def lit_value (n : Nat) (x0 : D) : Out := run C n (.call 143 lit_value.sk [x0])
def bv_good.sk : Sk := ⟨[(0, .d (.leaf (.int .i64)))], []⟩
def bv_good.osk : Sk := ⟨[(0, .d (.leaf .bool))], []⟩
noncomputable def bv_good (n : Nat) (x0 : D) : Out := run C n (.call 149 bv_good.sk [x0])
def bv_blank.sk : Sk := ⟨[(0, .d (.leaf (.int .i64)))], []⟩
def bv_blank.osk : Sk := ⟨[(0, .agg [.d (.leaf (.int .i64)), .row 0])], [.row 155 1 0]⟩
noncomputable def bv_blank (n : Nat) (x0 : D) : Out := run C n (.call 150 bv_blank.sk [x0])
def bv_Vec_cut.sk : Sk := ⟨[(0, .agg [.d (.leaf (.int .i64)), .row 0])], [.row 155 1 2]⟩
def bv_Vec_cut.osk : Sk := ⟨[(0, .agg [.d (.leaf (.int .i64)), .row 1])], [.gone, .row 155 1 0]⟩
noncomputable def bv_Vec_cut (n : Nat) (x0 x1 : D) : Out := run C n (.call 151 bv_Vec_cut.sk [x0, x1])
def bv_Bin.sk : Sk := ⟨[(0, .d (.leaf (.int .i64))), (1, .d ty_il1), (2, .d ty_il1)], []⟩
def bv_Bin.osk : Sk := ⟨[(0, .d ty_il1), (1, .d (.leaf (.int .i64)))], []⟩
noncomputable def bv_Bin (n : Nat) (x0 x1 x2 : D) : Out := run C n (.call 146 bv_Bin.sk [x0, x1, x2])
def ref01_Plus.sk : Sk := ⟨[(0, .d (.leaf (.lst 1))), (1, .d (.leaf (.lst 1))), (2, .d (.leaf .bool))], []⟩
def ref01_Plus.osk : Sk := ⟨[(0, .row 0)], [.row 4 1 0]⟩
noncomputable def ref01_Plus (n : Nat) (x0 x1 x2 : D) : Out := run C n (.call 137 ref01_Plus.sk [x0, x1, x2])
def bv_count.sk : Sk := ⟨[(0, .d (.leaf (.int .i64)))], []⟩
def bv_count.osk : Sk := ⟨[(0, .d (.leaf (.int .i64)))], []⟩
noncomputable def bv_count (n : Nat) (x0 : D) : Out := run C n (.call 166 bv_count.sk [x0])
def bv_plus.sk : Sk := ⟨[(0, .d ty_il1), (1, .d ty_il1), (2, .d (.leaf (.int .u64)))], []⟩
def bv_plus.osk : Sk := ⟨[(0, .agg [.d (.leaf (.int .i64)), .row 0])], [.row 155 1 0]⟩
noncomputable def bv_plus (n : Nat) (x0 x1 x2 : D) : Out := run C n (.call 152 bv_plus.sk [x0, x1, x2])
def bv_not.sk : Sk := ⟨[(0, .d ty_il1)], []⟩
def bv_not.osk : Sk := ⟨[(0, .agg [.d (.leaf (.int .i64)), .row 0])], [.row 155 1 0]⟩
noncomputable def bv_not (n : Nat) (x0 : D) : Out := run C n (.call 153 bv_not.sk [x0])
def bv_times.sk : Sk := ⟨[(0, .d ty_il1), (1, .d ty_il1)], []⟩
def bv_times.osk : Sk := ⟨[(0, .d ty_il1)], []⟩
noncomputable def bv_times (n : Nat) (x0 x1 : D) : Out := run C n (.call 154 bv_times.sk [x0, x1])
def bv_divide.sk : Sk := ⟨[(0, .d (.leaf (.int .i64))), (1, .d ty_il1), (2, .d ty_il1)], []⟩
def bv_divide.osk : Sk := ⟨[(0, .d ty_il1)], []⟩
noncomputable def bv_divide (n : Nat) (x0 x1 x2 : D) : Out := run C n (.call 155 bv_divide.sk [x0, x1, x2])
def bv_bitwise.sk : Sk := ⟨[(0, .d ty_il1), (1, .d ty_il1), (2, .fn 157 [])], []⟩
def bv_bitwise.osk : Sk := ⟨[(0, .d ty_il1)], []⟩
noncomputable def bv_bitwise (n : Nat) (x0 x1 : D) : Out := run C n (.call 156 bv_bitwise.sk [x0, x1])
def bv_bitwise_2.sk : Sk := ⟨[(0, .d ty_il1), (1, .d ty_il1), (2, .fn 158 [])], []⟩
def bv_bitwise_2.osk : Sk := ⟨[(0, .d ty_il1)], []⟩
noncomputable def bv_bitwise_2 (n : Nat) (x0 x1 : D) : Out := run C n (.call 156 bv_bitwise_2.sk [x0, x1])
def bv_bitwise_3.sk : Sk := ⟨[(0, .d ty_il1), (1, .d ty_il1), (2, .fn 159 [])], []⟩
def bv_bitwise_3.osk : Sk := ⟨[(0, .d ty_il1)], []⟩
noncomputable def bv_bitwise_3 (n : Nat) (x0 x1 : D) : Out := run C n (.call 156 bv_bitwise_3.sk [x0, x1])
def bv_shift.sk : Sk := ⟨[(0, .d (.leaf (.int .i64))), (1, .d ty_il1), (2, .d ty_il1)], []⟩
def bv_shift.osk : Sk := ⟨[(0, .d ty_il1)], []⟩
noncomputable def bv_shift (n : Nat) (x0 x1 x2 : D) : Out := run C n (.call 160 bv_shift.sk [x0, x1, x2])
def bv_compare.sk : Sk := ⟨[(0, .d (.leaf (.int .i64))), (1, .d ty_il1), (2, .d ty_il1)], []⟩
def bv_compare.osk : Sk := ⟨[(0, .d (.leaf .bool))], []⟩
noncomputable def bv_compare (n : Nat) (x0 x1 x2 : D) : Out := run C n (.call 162 bv_compare.sk [x0, x1, x2])
def bv_truth.sk : Sk := ⟨[(0, .d (.leaf .bool))], []⟩
def bv_truth.osk : Sk := ⟨[(0, .d ty_il1)], []⟩
noncomputable def bv_truth (n : Nat) (x0 : D) : Out := run C n (.call 161 bv_truth.sk [x0])
def bv_split.sk : Sk := ⟨[(0, .d ty_il1), (1, .d ty_il1)], []⟩
def bv_split.osk : Sk := ⟨[(0, .d ty_il1), (1, .d ty_il1)], []⟩
noncomputable def bv_split (n : Nat) (x0 x1 : D) : Out := run C n (.call 169 bv_split.sk [x0, x1])
def bv_signed.sk : Sk := ⟨[(0, .d ty_il1), (1, .d ty_il1)], []⟩
def bv_signed.osk : Sk := ⟨[(0, .d ty_il1), (1, .d ty_il1)], []⟩
noncomputable def bv_signed (n : Nat) (x0 x1 : D) : Out := run C n (.call 170 bv_signed.sk [x0, x1])
def bv_Vec_Num.sk : Sk := ⟨[(0, .d ty_il1), (1, .d (.leaf (.int .i64)))], []⟩
def bv_Vec_Num.osk : Sk := ⟨[(0, .d (.leaf (.int .i64)))], []⟩
noncomputable def bv_Vec_Num (n : Nat) (x0 x1 : D) : Out := run C n (.call 171 bv_Vec_Num.sk [x0, x1])
def bv_up.sk : Sk := ⟨[(0, .d ty_il1), (1, .d (.leaf (.int .i64)))], []⟩
def bv_up.osk : Sk := ⟨[(0, .agg [.d (.leaf (.int .i64)), .row 0])], [.row 155 1 0]⟩
noncomputable def bv_up (n : Nat) (x0 x1 : D) : Out := run C n (.call 172 bv_up.sk [x0, x1])
def bv_down.sk : Sk := ⟨[(0, .d ty_il1), (1, .d (.leaf (.int .i64))), (2, .d (.leaf .bool))], []⟩
def bv_down.osk : Sk := ⟨[(0, .d ty_il1)], []⟩
noncomputable def bv_down (n : Nat) (x0 x1 x2 : D) : Out := run C n (.call 173 bv_down.sk [x0, x1, x2])
def bv_negative.sk : Sk := ⟨[(0, .d ty_il1)], []⟩
def bv_negative.osk : Sk := ⟨[(0, .d (.leaf .bool))], []⟩
noncomputable def bv_negative (n : Nat) (x0 : D) : Out := run C n (.call 174 bv_negative.sk [x0])
def bv_Equal.sk : Sk := ⟨[(0, .d ty_il1), (1, .d ty_il1)], []⟩
def bv_Equal.osk : Sk := ⟨[(0, .d (.leaf .bool))], []⟩
noncomputable def bv_Equal (n : Nat) (x0 x1 : D) : Out := run C n (.call 176 bv_Equal.sk [x0, x1])
def bv_less.sk : Sk := ⟨[(0, .d ty_il1), (1, .d ty_il1)], []⟩
def bv_less.osk : Sk := ⟨[(0, .d (.leaf .bool))], []⟩
noncomputable def bv_less (n : Nat) (x0 x1 : D) : Out := run C n (.call 177 bv_less.sk [x0, x1])
def bv_signedLess.sk : Sk := ⟨[(0, .d ty_il1), (1, .d ty_il1)], []⟩
def bv_signedLess.osk : Sk := ⟨[(0, .d (.leaf .bool))], []⟩
noncomputable def bv_signedLess (n : Nat) (x0 x1 : D) : Out := run C n (.call 178 bv_signedLess.sk [x0, x1])
def bv_Vec_set.sk : Sk := ⟨[(0, .agg [.d (.leaf (.int .i64)), .row 0]), (1, .d (.leaf (.int .i64))), (2, .d (.leaf .bool))], [.row 155 1 1]⟩
def bv_Vec_set.osk : Sk := ⟨[], [.row 155 1 1]⟩
noncomputable def bv_Vec_set (n : Nat) (x0 x1 x2 x3 : D) : Out := run C n (.call 175 bv_Vec_set.sk [x0, x1, x2, x3])
def bv_any.sk : Sk := ⟨[(0, .d ty_il1)], []⟩
def bv_any.osk : Sk := ⟨[(0, .d (.leaf .bool))], []⟩
noncomputable def bv_any (n : Nat) (x0 : D) : Out := run C n (.call 180 bv_any.sk [x0])
def bv_magnitude.sk : Sk := ⟨[(0, .d ty_il1)], []⟩
def bv_magnitude.osk : Sk := ⟨[(0, .d ty_il1)], []⟩
noncomputable def bv_magnitude (n : Nat) (x0 : D) : Out := run C n (.call 182 bv_magnitude.sk [x0])
def bv_neg.sk : Sk := ⟨[(0, .d ty_il1)], []⟩
def bv_neg.osk : Sk := ⟨[(0, .d ty_il1)], []⟩
noncomputable def bv_neg (n : Nat) (x0 : D) : Out := run C n (.call 183 bv_neg.sk [x0])
def bv_Bin_1.sk : Sk := ⟨[(0, .d (.leaf (.int .u64))), (1, .d (.leaf (.int .u64)))], []⟩
def bv_Bin_1.osk : Sk := ⟨[(0, .d (.leaf (.int .u64)))], []⟩
noncomputable def bv_Bin_1 (n : Nat) (x0 x1 : D) : Out := run C n (.call 157 bv_Bin_1.sk [x0, x1])
def bv_Bin_2.sk : Sk := ⟨[(0, .d (.leaf (.int .u64))), (1, .d (.leaf (.int .u64)))], []⟩
def bv_Bin_2.osk : Sk := ⟨[(0, .d (.leaf (.int .u64)))], []⟩
noncomputable def bv_Bin_2 (n : Nat) (x0 x1 : D) : Out := run C n (.call 158 bv_Bin_2.sk [x0, x1])
def bv_Bin_3.sk : Sk := ⟨[(0, .d (.leaf (.int .u64))), (1, .d (.leaf (.int .u64)))], []⟩
def bv_Bin_3.osk : Sk := ⟨[(0, .d (.leaf (.int .u64)))], []⟩
noncomputable def bv_Bin_3 (n : Nat) (x0 x1 : D) : Out := run C n (.call 159 bv_Bin_3.sk [x0, x1])
def bv_Vec_Bit.sk : Sk := ⟨[(0, .d ty_il1), (1, .d (.leaf (.int .i64)))], []⟩
def bv_Vec_Bit.osk : Sk := ⟨[(0, .d (.leaf .bool))], []⟩
noncomputable def bv_Vec_Bit (n : Nat) (x0 x1 : D) : Out := run C n (.call 181 bv_Vec_Bit.sk [x0, x1])
def slices_Equal_uint64.sk : Sk := ⟨[(0, .d (.leaf (.lst 1))), (1, .d (.leaf (.lst 1)))], []⟩
def slices_Equal_uint64.osk : Sk := ⟨[(0, .d (.leaf .bool))], []⟩
noncomputable def slices_Equal_uint64 (n : Nat) (x0 x1 : D) : Out := run C n (.call 184 slices_Equal_uint64.sk [x0, x1])
def math_bits_Mul64.sk : Sk := ⟨[(0, .d (.leaf (.int .u64))), (1, .d (.leaf (.int .u64)))], []⟩
def math_bits_Mul64.osk : Sk := ⟨[(0, .d (.leaf (.int .u64))), (1, .d (.leaf (.int .u64)))], []⟩
noncomputable def math_bits_Mul64 (n : Nat) (x0 x1 : D) : Out := run C n (.call 168 math_bits_Mul64.sk [x0, x1])
def slices_ContainsFunc_uint64.sk : Sk := ⟨[(0, .d (.leaf (.lst 1))), (1, .fn 186 [])], []⟩
def slices_ContainsFunc_uint64.osk : Sk := ⟨[(0, .d (.leaf .bool))], []⟩
noncomputable def slices_ContainsFunc_uint64 (n : Nat) (x0 : D) : Out := run C n (.call 185 slices_ContainsFunc_uint64.sk [x0])
def slices_IndexFunc_uint64.sk : Sk := ⟨[(0, .d (.leaf (.lst 1))), (1, .fn 186 [])], []⟩
def slices_IndexFunc_uint64.osk : Sk := ⟨[(0, .d (.leaf (.int .i64)))], []⟩
noncomputable def slices_IndexFunc_uint64 (n : Nat) (x0 : D) : Out := run C n (.call 187 slices_IndexFunc_uint64.sk [x0])
def bv_any_1.sk : Sk := ⟨[(0, .d (.leaf (.int .u64)))], []⟩
def bv_any_1.osk : Sk := ⟨[(0, .d (.leaf .bool))], []⟩
noncomputable def bv_any_1 (n : Nat) (x0 : D) : Out := run C n (.call 186 bv_any_1.sk [x0])
def law08_LexWords_L0.sk : Sk := ⟨[(5, .row 0), (8, .row 1), (47, .d (.leaf (.int .i64))), (48, .d (.leaf (.int .i64)))], [.row 68 5 0, .row 69 5 0]⟩
noncomputable def law08_LexWords_L0.body : Code := bodyAt C 6 0
noncomputable def law08_LexWords_L0 (n : Nat) (x0 x1 x2 x3 : D) : Out := run C n (.loop 6 law08_LexWords.osk [] false 0 law08_LexWords_L0.body law08_LexWords_L0.sk [x0, x1, x2, x3])
def law08_few_L0.sk : Sk := ⟨[(0, .d (.leaf (.lst 5))), (4, .row 0), (5, .row 1), (6, .d (.leaf (.int .i64)))], [.row 104 5 0, .row 73 5 0]⟩
noncomputable def law08_few_L0.body : Code := bodyAt C 26 0
noncomputable def law08_few_L0 (n : Nat) (x0 x1 x2 x3 : D) : Out := run C n (.loop 26 law08_few.osk [] false 0 law08_few_L0.body law08_few_L0.sk [x0, x1, x2, x3])
def lex_Lex_L0.sk : Sk := ⟨[(3, .ptr 0 0), (5, .row 1), (11, .d (.leaf (.lst 5))), (12, .d (.leaf (.int .i64))), (13, .d (.leaf (.int .i64)))], [.var [.d (.leaf (.int .i64)), .d (.leaf (.int .i64)), .d (.leaf (.int .i64))], .row 68 5 0]⟩
noncomputable def lex_Lex_L0.body : Code := bodyAt C 27 0
noncomputable def lex_Lex_L0 (n : Nat) (x0 x1 x2 x3 x4 x5 x6 : D) : Out := run C n (.loop 27 lex_Lex.osk [] false 0 lex_Lex_L0.body lex_Lex_L0.sk [x0, x1, x2, x3, x4, x5, x6])
def ref08_Lex_L0.sk : Sk := ⟨[(0, .d (.leaf (.lst 5))), (3, .ptr 0 0), (5, .row 1), (6, .d (.leaf (.int .i64)))], [.var [.d (.leaf (.int .i64)), .d (.leaf (.int .i64)), .d (.leaf (.int .i64))], .row 69 5 0]⟩
noncomputable def ref08_Lex_L0.body : Code := bodyAt C 28 0
noncomputable def ref08_Lex_L0 (n : Nat) (x0 x1 x2 x3 x4 x5 : D) : Out := run C n (.loop 28 ref08_Lex.osk [] false 0 ref08_Lex_L0.body ref08_Lex_L0.sk [x0, x1, x2, x3, x4, x5])
def lex_Text_L0.sk : Sk := ⟨[(3, .row 0), (9, .d (.leaf (.lst 5))), (10, .d (.leaf (.int .i64))), (11, .d (.leaf (.int .i64)))], [.row 9 1 0]⟩
noncomputable def lex_Text_L0.body : Code := bodyAt C 29 0
noncomputable def lex_Text_L0 (n : Nat) (x0 x1 x2 x3 : D) : Out := run C n (.loop 29 lex_Text.osk [] false 0 lex_Text_L0.body lex_Text_L0.sk [x0, x1, x2, x3])
def ref08_Lex_L2.sk : Sk := ⟨[(0, .d (.leaf (.lst 5))), (3, .ptr 0 0), (5, .row 1), (6, .d (.leaf (.int .i64))), (7, .d (.leaf .str)), (8, .ptr 2 0)], [.var [.d (.leaf (.int .i64)), .d (.leaf (.int .i64)), .d (.leaf (.int .i64))], .row 69 5 0, .var [.d (.leaf (.int .i64)), .d (.leaf (.int .i64)), .d (.leaf (.int .i64))]]⟩
noncomputable def ref08_Lex_L2.body : Code := bodyAt C 28 2
noncomputable def ref08_Lex_L2 (n : Nat) (x0 x1 x2 x3 x4 x5 x6 x7 x8 x9 : D) : Out := run C n (.loop 28 ref08_Lex.osk [] false 2 ref08_Lex_L2.body ref08_Lex_L2.sk [x0, x1, x2, x3, x4, x5, x6, x7, x8, x9])
def lex_piece_L0.sk : Sk := ⟨[(0, .row 0), (4, .row 1), (5, .ptr 2 0), (6, .d (.leaf (.int .i64))), (7, .ptr 3 0), (8, .ptr 4 0), (9, .fn 66 [.ptr 5 0, .ptr 4 0, .ptr 3 0])], [.row 68 5 0, .row 68 5 0, .var [.d (.leaf (.int .i64)), .d (.leaf (.int .i64)), .d (.leaf (.int .i64))], .var [.d (.leaf .str)], .var [.d (.leaf (.int .i64)), .d (.leaf (.int .i64)), .d (.leaf (.int .i64))], .var [.d (.leaf .str), .d (.leaf (.int .i64)), .d (.leaf (.int .i64)), .d (.leaf (.int .i64)), .d (.leaf .bool)]]⟩
noncomputable def lex_piece_L0.body : Code := bodyAt C 50 0
noncomputable def lex_piece_L0 (n : Nat) (x0 x1 x2 x3 x4 x5 x6 x7 x8 x9 x10 x11 x12 x13 x14 : D) : Out := run C n (.loop 50 lex_piece.osk [] false 0 lex_piece_L0.body lex_piece_L0.sk [x0, x1, x2, x3, x4, x5, x6, x7, x8, x9, x10, x11, x12, x13, x14])
def ref08_Lex_L4.sk : Sk := ⟨[(0, .d (.leaf (.lst 5))), (3, .ptr 0 0), (5, .row 1), (6, .d (.leaf (.int .i64))), (7, .d (.leaf .str)), (8, .ptr 2 0), (9, .d (.leaf (.int .i64))), (13, .d (.leaf (.int .i64)))], [.var [.d (.leaf (.int .i64)), .d (.leaf (.int .i64)), .d (.leaf (.int .i64))], .row 69 5 0, .var [.d (.leaf (.int .i64)), .d (.leaf (.int .i64)), .d (.leaf (.int .i64))]]⟩
noncomputable def ref08_Lex_L4.body : Code := bodyAt C 28 4
noncomputable def ref08_Lex_L4 (n : Nat) (x0 x1 x2 x3 x4 x5 x6 x7 x8 x9 x10 x11 : D) : Out := run C n (.loop 28 ref08_Lex.osk [] false 4 ref08_Lex_L4.body ref08_Lex_L4.sk [x0, x1, x2, x3, x4, x5, x6, x7, x8, x9, x10, x11])
def ref08_Word_L0.sk : Sk := ⟨[(0, .d (.leaf .str)), (5, .d (.leaf (.int .u8))), (6, .d (.leaf (.int .i64)))], []⟩
noncomputable def ref08_Word_L0.body : Code := bodyAt C 51 0
noncomputable def ref08_Word_L0 (n : Nat) (x0 x1 x2 : D) : Out := run C n (.loop 51 ref08_Word.osk [] false 0 ref08_Word_L0.body ref08_Word_L0.sk [x0, x1, x2])
def ref08_Word_L2.sk : Sk := ⟨[(0, .d (.leaf .str)), (6, .d (.leaf (.int .i64)))], []⟩
noncomputable def ref08_Word_L2.body : Code := bodyAt C 51 2
noncomputable def ref08_Word_L2 (n : Nat) (x0 x1 : D) : Out := run C n (.loop 51 ref08_Word.osk [] false 2 ref08_Word_L2.body ref08_Word_L2.sk [x0, x1])
def ref08_Word_L4.sk : Sk := ⟨[(0, .d (.leaf .str)), (6, .d (.leaf (.int .i64)))], []⟩
noncomputable def ref08_Word_L4.body : Code := bodyAt C 51 4
noncomputable def ref08_Word_L4 (n : Nat) (x0 x1 : D) : Out := run C n (.loop 51 ref08_Word.osk [] false 4 ref08_Word_L4.body ref08_Word_L4.sk [x0, x1])
def ref08_Word_L6.sk : Sk := ⟨[(0, .d (.leaf .str)), (6, .d (.leaf (.int .i64)))], []⟩
noncomputable def ref08_Word_L6.body : Code := bodyAt C 51 6
noncomputable def ref08_Word_L6 (n : Nat) (x0 x1 : D) : Out := run C n (.loop 51 ref08_Word.osk [] false 6 ref08_Word_L6.body ref08_Word_L6.sk [x0, x1])
def lex_span_L0.sk : Sk := ⟨[(0, .d (.leaf .str)), (1, .fn 69 []), (5, .d (.leaf (.int .i64)))], []⟩
noncomputable def lex_span_L0.body : Code := bodyAt C 68 0
noncomputable def lex_span_L0 (n : Nat) (x0 x1 : D) : Out := run C n (.loop 68 lex_span.osk [] false 0 lex_span_L0.body lex_span_L0.sk [x0, x1])
def ref02_Parse_L0.sk : Sk := ⟨[(0, .d (.leaf .str)), (2, .ptr 0 0), (4, .d (.leaf (.int .i64))), (5, .d (.leaf (.int .i64)))], [.var [.row 1, .d (.leaf .bool), .d (.leaf .bool)], .row 4 1 0]⟩
noncomputable def ref02_Parse_L0.body : Code := bodyAt C 74 0
noncomputable def ref02_Parse_L0 (n : Nat) (x0 x1 x2 x3 x4 x5 : D) : Out := run C n (.loop 74 ref02_Parse.osk [] false 0 ref02_Parse_L0.body ref02_Parse_L0.sk [x0, x1, x2, x3, x4, x5])
def ref08_Word_L8.sk : Sk := ⟨[(0, .d (.leaf .str)), (6, .d (.leaf (.int .i64))), (9, .row 0), (10, .d (.leaf (.int .i64)))], [.row 9 1 0]⟩
noncomputable def ref08_Word_L8.body : Code := bodyAt C 51 8
noncomputable def ref08_Word_L8 (n : Nat) (x0 x1 x2 x3 : D) : Out := run C n (.loop 51 ref08_Word.osk [] false 8 ref08_Word_L8.body ref08_Word_L8.sk [x0, x1, x2, x3])
def lex_move_L0.sk : Sk := ⟨[(1, .d (.leaf .str)), (2, .ptr 0 0), (4, .ptr 1 0), (7, .d (.leaf (.int .i64))), (8, .d (.leaf (.int .i64)))], [.var [.d (.leaf (.int .i64)), .d (.leaf (.int .i64)), .d (.leaf (.int .i64))], .var [.d (.leaf (.int .i64)), .d (.leaf (.int .i64)), .d (.leaf (.int .i64))]]⟩
noncomputable def lex_move_L0.body : Code := bodyAt C 67 0
noncomputable def lex_move_L0 (n : Nat) (x0 x1 x2 x3 x4 x5 x6 x7 x8 : D) : Out := run C n (.loop 67 lex_move.osk [] false 0 lex_move_L0.body lex_move_L0.sk [x0, x1, x2, x3, x4, x5, x6, x7, x8])
def lex_span_2_L0.sk : Sk := ⟨[(0, .d (.leaf .str)), (1, .fn 106 []), (5, .d (.leaf (.int .i64)))], []⟩
noncomputable def lex_span_2_L0.body : Code := bodyAt C 68 0
noncomputable def lex_span_2_L0 (n : Nat) (x0 x1 : D) : Out := run C n (.loop 68 lex_span_2.osk [] false 0 lex_span_2_L0.body lex_span_2_L0.sk [x0, x1])
def lex_sign_L0.sk : Sk := ⟨[(0, .d (.leaf .str)), (3, .d (.leaf (.int .i64)))], []⟩
noncomputable def lex_sign_L0.body : Code := bodyAt C 110 0
noncomputable def lex_sign_L0 (n : Nat) (x0 x1 : D) : Out := run C n (.loop 110 lex_sign.osk [] false 0 lex_sign_L0.body lex_sign_L0.sk [x0, x1])
def ref02_digits_L0.sk : Sk := ⟨[(0, .d (.leaf .str)), (1, .d (.leaf (.int .i64))), (5, .d (.leaf (.int .i64)))], []⟩
noncomputable def ref02_digits_L0.body : Code := bodyAt C 111 0
noncomputable def ref02_digits_L0 (n : Nat) (x0 x1 x2 : D) : Out := run C n (.loop 111 ref02_digits.osk [] false 0 ref02_digits_L0.body ref02_digits_L0.sk [x0, x1, x2])
def ref02_decimal_L0.sk : Sk := ⟨[(0, .d (.leaf .str)), (1, .d (.leaf (.int .i64))), (5, .d (.leaf (.int .i64))), (6, .d (.leaf (.int .i64)))], []⟩
noncomputable def ref02_decimal_L0.body : Code := bodyAt C 112 0
noncomputable def ref02_decimal_L0 (n : Nat) (x0 x1 x2 x3 : D) : Out := run C n (.loop 112 ref02_decimal.osk [] false 0 ref02_decimal_L0.body ref02_decimal_L0.sk [x0, x1, x2, x3])
def ref01_New_L0.sk : Sk := ⟨[(0, .d (.leaf (.int .i64))), (1, .d (.leaf (.lst 1))), (6, .row 0), (7, .d (.leaf (.int .i64)))], [.row 4 1 0]⟩
noncomputable def ref01_New_L0.body : Code := bodyAt C 113 0
noncomputable def ref01_New_L0 (n : Nat) (x0 x1 x2 x3 : D) : Out := run C n (.loop 113 ref01_New.osk [] false 0 ref01_New_L0.body ref01_New_L0.sk [x0, x1, x2, x3])
def ref02_number_L0.sk : Sk := ⟨[(0, .d (.leaf .str)), (1, .d (.leaf (.int .i64))), (2, .d (.leaf (.int .i64))), (7, .row 0), (8, .d (.leaf (.int .i64)))], [.row 4 1 0]⟩
noncomputable def ref02_number_L0.body : Code := bodyAt C 114 0
noncomputable def ref02_number_L0 (n : Nat) (x0 x1 x2 x3 x4 : D) : Out := run C n (.loop 114 ref02_number.osk [] false 0 ref02_number_L0.body ref02_number_L0.sk [x0, x1, x2, x3, x4])
def lex_span_3_L0.sk : Sk := ⟨[(0, .d (.leaf .str)), (1, .fn 127 []), (5, .d (.leaf (.int .i64)))], []⟩
noncomputable def lex_span_3_L0.body : Code := bodyAt C 68 0
noncomputable def lex_span_3_L0 (n : Nat) (x0 x1 : D) : Out := run C n (.loop 68 lex_span_3.osk [] false 0 lex_span_3_L0.body lex_span_3_L0.sk [x0, x1])
def lex_span_4_L0.sk : Sk := ⟨[(0, .d (.leaf .str)), (1, .fn 128 []), (5, .d (.leaf (.int .i64)))], []⟩
noncomputable def lex_span_4_L0.body : Code := bodyAt C 68 0
noncomputable def lex_span_4_L0 (n : Nat) (x0 x1 : D) : Out := run C n (.loop 68 lex_span_4.osk [] false 0 lex_span_4_L0.body lex_span_4_L0.sk [x0, x1])
def lit_digits_L0.sk : Sk := ⟨[(0, .d (.leaf .str)), (1, .d (.leaf (.int .i64))), (6, .row 0), (12, .d (.leaf (.int .i64))), (13, .d (.leaf (.int .i64)))], [.row 3 1 0]⟩
noncomputable def lit_digits_L0.body : Code := bodyAt C 131 0
noncomputable def lit_digits_L0 (n : Nat) (x0 x1 x2 x3 x4 : D) : Out := run C n (.loop 131 lit_digits.osk [] false 0 lit_digits_L0.body lit_digits_L0.sk [x0, x1, x2, x3, x4])
def lit_small_L0.sk : Sk := ⟨[(1, .d (.leaf (.int .i64))), (5, .d (.leaf (.int .i64))), (8, .d (.leaf (.lst 1))), (9, .d (.leaf (.int .i64))), (10, .d (.leaf (.int .i64)))], []⟩
noncomputable def lit_small_L0.body : Code := bodyAt C 132 0
noncomputable def lit_small_L0 (n : Nat) (x0 x1 x2 x3 x4 : D) : Out := run C n (.loop 132 lit_small.osk [] false 0 lit_small_L0.body lit_small_L0.sk [x0, x1, x2, x3, x4])
def lit_bits_L0.sk : Sk := ⟨[(2, .d (.leaf (.int .i64))), (6, .ptr 0 0), (7, .ptr 1 0), (9, .ptr 2 0), (28, .d (.leaf (.lst 1))), (29, .d (.leaf (.int .i64))), (30, .d (.leaf (.int .i64)))], [.var [.d (.leaf (.int .i64)), .row 3], .var [.d (.leaf (.int .i64)), .d (.leaf (.lst 1))], .var [.d (.leaf (.int .i64)), .d (.leaf (.lst 1))], .row 155 1 0]⟩
noncomputable def lit_bits_L0.body : Code := bodyAt C 134 0
noncomputable def lit_bits_L0 (n : Nat) (x0 x1 x2 x3 x4 x5 x6 x7 x8 x9 : D) : Out := run C n (.loop 134 lit_bits.osk [] false 0 lit_bits_L0.body lit_bits_L0.sk [x0, x1, x2, x3, x4, x5, x6, x7, x8, x9])
def ref02_number_L2.sk : Sk := ⟨[(0, .d (.leaf .str)), (1, .d (.leaf (.int .i64))), (2, .d (.leaf (.int .i64))), (7, .row 0), (8, .d (.leaf (.int .i64))), (9, .row 1), (10, .d (.leaf (.int .i64)))], [.row 4 1 0, .row 4 1 0]⟩
noncomputable def ref02_number_L2.body : Code := bodyAt C 114 2
noncomputable def ref02_number_L2 (n : Nat) (x0 x1 x2 x3 x4 x5 x6 : D) : Out := run C n (.loop 114 ref02_number.osk [] false 2 ref02_number_L2.body ref02_number_L2.sk [x0, x1, x2, x3, x4, x5, x6])
def ref02_number_L4.sk : Sk := ⟨[(0, .d (.leaf .str)), (1, .d (.leaf (.int .i64))), (2, .d (.leaf (.int .i64))), (8, .d (.leaf (.int .i64))), (9, .row 0), (11, .d (.leaf (.int .i64)))], [.row 4 1 0]⟩
noncomputable def ref02_number_L4.body : Code := bodyAt C 114 4
noncomputable def ref02_number_L4 (n : Nat) (x0 x1 x2 x3 x4 x5 : D) : Out := run C n (.loop 114 ref02_number.osk [] false 4 ref02_number_L4.body ref02_number_L4.sk [x0, x1, x2, x3, x4, x5])
def ref01_Plus_L0.sk : Sk := ⟨[(0, .d (.leaf (.lst 1))), (1, .d (.leaf (.lst 1))), (2, .d (.leaf .bool)), (7, .row 0), (8, .d (.leaf (.int .i64)))], [.row 4 1 0]⟩
noncomputable def ref01_Plus_L0.body : Code := bodyAt C 137 0
noncomputable def ref01_Plus_L0 (n : Nat) (x0 x1 x2 x3 x4 : D) : Out := run C n (.loop 137 ref01_Plus.osk [] false 0 ref01_Plus_L0.body ref01_Plus_L0.sk [x0, x1, x2, x3, x4])
def bv_plus_L0.sk : Sk := ⟨[(2, .d (.leaf (.int .u64))), (3, .ptr 0 0), (4, .ptr 1 0), (6, .ptr 2 0), (7, .ptr 3 0), (14, .d (.leaf (.int .i64))), (15, .d (.leaf (.int .i64)))], [.var [.d (.leaf (.int .i64)), .d (.leaf (.lst 1))], .var [.d (.leaf (.int .i64)), .d (.leaf (.lst 1))], .var [.d (.leaf (.int .i64)), .row 4], .var [.d (.leaf (.int .i64)), .row 5], .row 155 1 0, .row 155 1 0]⟩
noncomputable def bv_plus_L0.body : Code := bodyAt C 152 0
noncomputable def bv_plus_L0 (n : Nat) (x0 x1 x2 x3 x4 x5 x6 x7 x8 x9 x10 : D) : Out := run C n (.loop 152 bv_plus.osk [] false 0 bv_plus_L0.body bv_plus_L0.sk [x0, x1, x2, x3, x4, x5, x6, x7, x8, x9, x10])
def bv_not_L0.sk : Sk := ⟨[(2, .ptr 0 0), (3, .ptr 1 0), (10, .d (.leaf (.lst 1))), (11, .d (.leaf (.int .i64))), (12, .d (.leaf (.int .i64)))], [.var [.d (.leaf (.int .i64)), .row 2], .var [.d (.leaf (.int .i64)), .row 3], .row 155 1 0, .row 155 1 0]⟩
noncomputable def bv_not_L0.body : Code := bodyAt C 153 0
noncomputable def bv_not_L0 (n : Nat) (x0 x1 x2 x3 x4 x5 x6 : D) : Out := run C n (.loop 153 bv_not.osk [] false 0 bv_not_L0.body bv_not_L0.sk [x0, x1, x2, x3, x4, x5, x6])
def bv_times_L0.sk : Sk := ⟨[(2, .ptr 0 0), (3, .ptr 1 0), (4, .ptr 2 0), (5, .ptr 3 0), (17, .d (.leaf (.int .i64))), (18, .d (.leaf (.int .i64)))], [.var [.d (.leaf (.int .i64)), .d (.leaf (.lst 1))], .var [.d (.leaf (.int .i64)), .d (.leaf (.lst 1))], .var [.d (.leaf (.int .i64)), .row 4], .var [.d (.leaf (.int .i64)), .row 5], .row 155 1 0, .row 155 1 0]⟩
noncomputable def bv_times_L0.body : Code := bodyAt C 154 0
noncomputable def bv_times_L0 (n : Nat) (x0 x1 x2 x3 x4 x5 x6 x7 x8 x9 : D) : Out := run C n (.loop 154 bv_times.osk [] false 0 bv_times_L0.body bv_times_L0.sk [x0, x1, x2, x3, x4, x5, x6, x7, x8, x9])
def bv_bitwise_L0.sk : Sk := ⟨[(2, .fn 157 []), (3, .ptr 0 0), (4, .ptr 1 0), (6, .ptr 2 0), (7, .ptr 3 0), (14, .d (.leaf (.int .i64))), (15, .d (.leaf (.int .i64)))], [.var [.d (.leaf (.int .i64)), .d (.leaf (.lst 1))], .var [.d (.leaf (.int .i64)), .d (.leaf (.lst 1))], .var [.d (.leaf (.int .i64)), .row 4], .var [.d (.leaf (.int .i64)), .row 5], .row 155 1 0, .row 155 1 0]⟩
noncomputable def bv_bitwise_L0.body : Code := bodyAt C 156 0
noncomputable def bv_bitwise_L0 (n : Nat) (x0 x1 x2 x3 x4 x5 x6 x7 x8 x9 : D) : Out := run C n (.loop 156 bv_bitwise.osk [] false 0 bv_bitwise_L0.body bv_bitwise_L0.sk [x0, x1, x2, x3, x4, x5, x6, x7, x8, x9])
def bv_bitwise_2_L0.sk : Sk := ⟨[(2, .fn 158 []), (3, .ptr 0 0), (4, .ptr 1 0), (6, .ptr 2 0), (7, .ptr 3 0), (14, .d (.leaf (.int .i64))), (15, .d (.leaf (.int .i64)))], [.var [.d (.leaf (.int .i64)), .d (.leaf (.lst 1))], .var [.d (.leaf (.int .i64)), .d (.leaf (.lst 1))], .var [.d (.leaf (.int .i64)), .row 4], .var [.d (.leaf (.int .i64)), .row 5], .row 155 1 0, .row 155 1 0]⟩
noncomputable def bv_bitwise_2_L0.body : Code := bodyAt C 156 0
noncomputable def bv_bitwise_2_L0 (n : Nat) (x0 x1 x2 x3 x4 x5 x6 x7 x8 x9 : D) : Out := run C n (.loop 156 bv_bitwise_2.osk [] false 0 bv_bitwise_2_L0.body bv_bitwise_2_L0.sk [x0, x1, x2, x3, x4, x5, x6, x7, x8, x9])
def bv_bitwise_3_L0.sk : Sk := ⟨[(2, .fn 159 []), (3, .ptr 0 0), (4, .ptr 1 0), (6, .ptr 2 0), (7, .ptr 3 0), (14, .d (.leaf (.int .i64))), (15, .d (.leaf (.int .i64)))], [.var [.d (.leaf (.int .i64)), .d (.leaf (.lst 1))], .var [.d (.leaf (.int .i64)), .d (.leaf (.lst 1))], .var [.d (.leaf (.int .i64)), .row 4], .var [.d (.leaf (.int .i64)), .row 5], .row 155 1 0, .row 155 1 0]⟩
noncomputable def bv_bitwise_3_L0.body : Code := bodyAt C 156 0
noncomputable def bv_bitwise_3_L0 (n : Nat) (x0 x1 x2 x3 x4 x5 x6 x7 x8 x9 : D) : Out := run C n (.loop 156 bv_bitwise_3.osk [] false 0 bv_bitwise_3_L0.body bv_bitwise_3_L0.sk [x0, x1, x2, x3, x4, x5, x6, x7, x8, x9])
def bv_times_L2.sk : Sk := ⟨[(2, .ptr 0 0), (3, .ptr 1 0), (4, .ptr 2 0), (5, .ptr 3 0), (6, .d (.leaf (.int .i64))), (7, .d (.leaf (.int .u64))), (8, .d (.leaf (.int .i64))), (17, .d (.leaf (.int .i64))), (18, .d (.leaf (.int .i64)))], [.var [.d (.leaf (.int .i64)), .d (.leaf (.lst 1))], .var [.d (.leaf (.int .i64)), .d (.leaf (.lst 1))], .var [.d (.leaf (.int .i64)), .row 4], .var [.d (.leaf (.int .i64)), .row 5], .row 155 1 0, .row 155 1 0]⟩
noncomputable def bv_times_L2.body : Code := bodyAt C 154 2
noncomputable def bv_times_L2 (n : Nat) (x0 x1 x2 x3 x4 x5 x6 x7 x8 x9 x10 x11 x12 : D) : Out := run C n (.loop 154 bv_times.osk [] false 2 bv_times_L2.body bv_times_L2.sk [x0, x1, x2, x3, x4, x5, x6, x7, x8, x9, x10, x11, x12])
def bv_split_L0.sk : Sk := ⟨[(2, .ptr 0 0), (3, .ptr 1 0), (4, .ptr 2 0), (5, .ptr 3 0), (6, .ptr 4 0), (7, .ptr 5 0), (8, .d (.leaf (.int .i64)))], [.var [.d (.leaf (.int .i64)), .d (.leaf (.lst 1))], .var [.d (.leaf (.int .i64)), .d (.leaf (.lst 1))], .var [.d (.leaf (.int .i64)), .row 6], .var [.d (.leaf (.int .i64)), .row 7], .var [.d (.leaf (.int .i64)), .row 8], .var [.d (.leaf (.int .i64)), .row 9], .row 155 1 0, .row 155 1 0, .row 155 1 0, .row 155 1 0]⟩
noncomputable def bv_split_L0.body : Code := bodyAt C 169 0
noncomputable def bv_split_L0 (n : Nat) (x0 x1 x2 x3 x4 x5 x6 x7 x8 x9 x10 x11 x12 : D) : Out := run C n (.loop 169 bv_split.osk [] false 0 bv_split_L0.body bv_split_L0.sk [x0, x1, x2, x3, x4, x5, x6, x7, x8, x9, x10, x11, x12])
def bv_Vec_Num_L0.sk : Sk := ⟨[(1, .d (.leaf (.int .i64))), (2, .ptr 0 0), (10, .d (.leaf (.lst 1))), (11, .d (.leaf (.int .i64))), (12, .d (.leaf (.int .i64)))], [.var [.d (.leaf (.int .i64)), .d (.leaf (.lst 1))]]⟩
noncomputable def bv_Vec_Num_L0.body : Code := bodyAt C 171 0
noncomputable def bv_Vec_Num_L0 (n : Nat) (x0 x1 x2 x3 x4 x5 : D) : Out := run C n (.loop 171 bv_Vec_Num.osk [] false 0 bv_Vec_Num_L0.body bv_Vec_Num_L0.sk [x0, x1, x2, x3, x4, x5])
def bv_up_L0.sk : Sk := ⟨[(1, .d (.leaf (.int .i64))), (2, .ptr 0 0), (4, .ptr 1 0), (5, .ptr 2 0), (6, .d (.leaf (.int .i64)))], [.var [.d (.leaf (.int .i64)), .d (.leaf (.lst 1))], .var [.d (.leaf (.int .i64)), .row 3], .var [.d (.leaf (.int .i64)), .row 4], .row 155 1 0, .row 155 1 0]⟩
noncomputable def bv_up_L0.body : Code := bodyAt C 172 0
noncomputable def bv_up_L0 (n : Nat) (x0 x1 x2 x3 x4 x5 x6 x7 : D) : Out := run C n (.loop 172 bv_up.osk [] false 0 bv_up_L0.body bv_up_L0.sk [x0, x1, x2, x3, x4, x5, x6, x7])
def bv_down_L0.sk : Sk := ⟨[(1, .d (.leaf (.int .i64))), (2, .d (.leaf .bool)), (3, .ptr 0 0), (6, .ptr 1 0), (7, .ptr 2 0), (13, .d (.leaf (.int .i64))), (14, .d (.leaf (.int .i64)))], [.var [.d (.leaf (.int .i64)), .d (.leaf (.lst 1))], .var [.d (.leaf (.int .i64)), .row 3], .var [.d (.leaf (.int .i64)), .row 4], .row 155 1 0, .row 155 1 0]⟩
noncomputable def bv_down_L0.body : Code := bodyAt C 173 0
noncomputable def bv_down_L0 (n : Nat) (x0 x1 x2 x3 x4 x5 x6 x7 x8 x9 : D) : Out := run C n (.loop 173 bv_down.osk [] false 0 bv_down_L0.body bv_down_L0.sk [x0, x1, x2, x3, x4, x5, x6, x7, x8, x9])
def bv_less_L0.sk : Sk := ⟨[(2, .ptr 0 0), (3, .ptr 1 0), (5, .d (.leaf (.int .i64)))], [.var [.d (.leaf (.int .i64)), .d (.leaf (.lst 1))], .var [.d (.leaf (.int .i64)), .d (.leaf (.lst 1))]]⟩
noncomputable def bv_less_L0.body : Code := bodyAt C 177 0
noncomputable def bv_less_L0 (n : Nat) (x0 x1 x2 x3 x4 : D) : Out := run C n (.loop 177 bv_less.osk [] false 0 bv_less_L0.body bv_less_L0.sk [x0, x1, x2, x3, x4])
def slices_Equal_uint64_L0.sk : Sk := ⟨[(0, .d (.leaf (.lst 1))), (1, .d (.leaf (.lst 1))), (12, .d (.leaf (.int .i64))), (13, .d (.leaf (.int .i64)))], []⟩
noncomputable def slices_Equal_uint64_L0.body : Code := bodyAt C 184 0
noncomputable def slices_Equal_uint64_L0 (n : Nat) (x0 x1 x2 x3 : D) : Out := run C n (.loop 184 slices_Equal_uint64.osk [] false 0 slices_Equal_uint64_L0.body slices_Equal_uint64_L0.sk [x0, x1, x2, x3])
def slices_IndexFunc_uint64_L0.sk : Sk := ⟨[(0, .d (.leaf (.lst 1))), (1, .fn 186 []), (7, .d (.leaf (.int .i64))), (8, .d (.leaf (.int .i64)))], []⟩
noncomputable def slices_IndexFunc_uint64_L0.body : Code := bodyAt C 187 0
noncomputable def slices_IndexFunc_uint64_L0 (n : Nat) (x0 x1 x2 : D) : Out := run C n (.loop 187 slices_IndexFunc_uint64.osk [] false 0 slices_IndexFunc_uint64_L0.body slices_IndexFunc_uint64_L0.sk [x0, x1, x2])
def strings_Join.orc : Sk → List D → Option (List D) := orcJoin
theorem strings_Join_orc (n : Nat) (x0 x1 : D) (r : List D) (h : strings_Join.orc strings_Join.sk [x0, x1] = some r) : strings_Join (n + 1) x0 x1 = some (true, r) := by
  show (match C.orc 52 strings_Join.sk [x0, x1] with | some r => some (true, r) | none => _) = _
  rw [show C.orc 52 strings_Join.sk [x0, x1] = some r from h]
def strings_Cut.orc : Sk → List D → Option (List D) := orcCut
theorem strings_Cut_orc (n : Nat) (x0 x1 : D) (r : List D) (h : strings_Cut.orc strings_Cut.sk [x0, x1] = some r) : strings_Cut (n + 1) x0 x1 = some (true, r) := by
  show (match C.orc 129 strings_Cut.sk [x0, x1] with | some r => some (true, r) | none => _) = _
  rw [show C.orc 129 strings_Cut.sk [x0, x1] = some r from h]
def strings_Contains.orc : Sk → List D → Option (List D) := orcContains
theorem strings_Contains_orc (n : Nat) (x0 x1 : D) (r : List D) (h : strings_Contains.orc strings_Contains.sk [x0, x1] = some r) : strings_Contains (n + 1) x0 x1 = some (true, r) := by
  show (match C.orc 135 strings_Contains.sk [x0, x1] with | some r => some (true, r) | none => _) = _
  rw [show C.orc 135 strings_Contains.sk [x0, x1] = some r from h]
end Go.Proofs.Ytmklmhdgnokcmaa
