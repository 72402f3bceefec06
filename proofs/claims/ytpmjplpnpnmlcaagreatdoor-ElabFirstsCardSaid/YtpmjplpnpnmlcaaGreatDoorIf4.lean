import Derived.Test.YtpmjplpnpnmlcaaGreatDoorIf0
import Derived.KernelRfl
set_option linter.all false
namespace Go.Proofs.YtpmjplpnpnmlcaaGreatDoor
open Go.AE
def p154 : T := .i (i_lss 2 1) (.g (.q (i_leq (Z 0) 2) (i_lss 2 (.l 0))) (.t ty_iiiiiiil9iiiiibil1l9l20l20i (.g 0 2) (cn 206 [22, .r 3 19] (cn 94 [.e (.a 22 17), .r 23 19] (cn 94 [.e (.a 22 18), .r 42 19] (.l (i_add 2 (Z 1)) (.tl 154 [.r 0 2, 80, .r 61 19]))))))) (.ret false [.r 0 22])
set_option maxRecDepth 100000 in
theorem q154 : Eqn C sg 154 p154 := by
  intro n ds
  kernel_rfl
def p155 : T := cn 207 [.r 0 2] (rt [.e (i_geq 2 (Z 0))])
set_option maxRecDepth 100000 in
theorem q155 : Eqn C sg 155 p155 := by
  intro n ds
  kernel_rfl
def p156 : T := .i (i_lss 10 9) (.g (.q (i_leq (Z 0) 10) (i_lss 10 (.l 24))) (.i (.nl (.g 24 10)) .no (.t (tL 1) (.g 24 10) (.g (.q (i_leq (Z 0) 1) (i_lss 1 (.l 30))) (.i (.nl (.g 30 1)) (.i (i_eql 25 (Z 1)) (.g (.q (i_leq (Z 0) 10) (i_lss 10 (.l 15))) (.g (.ag (.g 15 10)) (.t tI (.a (.g 15 10) 0) (cn 99 [.e ff, .e (Ac [26, 27, 28] e0), .e (Z 14), .r 11 14] (.l (i_add 10 (Z 1)) (.tl 156 [.r 0 10, 46, .r 32 14, .r 25 5])))))) (cn 99 [.e ff, .e (Ac [26, 27, 28] e0), .e (Z 14), .r 11 14] (.l (i_add 10 (Z 1)) (.tl 156 [.r 0 10, 45, .r 31 14, .r 25 5])))) (.t (tL 1) (.g 30 1) (.j (.i (.em 31) .no (.i (.n 32) (cn 99 [.e tt, .e (Ac [26, 27, 28] e0), .e (Z 14), .r 11 14] (.l (i_add 10 (Z 1)) (.tl 156 [.r 0 10, 47, .r 33 14, .r 25 5]))) (cn 208 [2, 31] (cn 99 [33, .e (Ac [26, 27, 28] e0), .e (Z 14), .r 11 14] (.l (i_add 10 (Z 1)) (.tl 156 [.r 0 10, 48, .r 34 14, .r 25 5])))))) (.i (i_eql 25 (Z 1)) (.g (.q (i_leq (Z 0) 10) (i_lss 10 (.l 15))) (.g (.ag (.g 15 10)) (.t tI (.a (.g 15 10) 0) (.jp 0 [.e (i_eql 32 (Z 1))])))) (.jp 0 [.e ff]))))))))) (.ret false [.r 0 30])
set_option maxRecDepth 100000 in
theorem q156 : Eqn C sg 156 p156 := by
  intro n ds
  kernel_rfl
def p157 : T := .i (i_lss 9 8) (.g (.q (i_leq (Z 0) 9) (i_lss 9 (.l 7))) (.t tB (.g 7 9) (.g (.q (i_leq (Z 0) 9) (i_lss 9 (.l 24))) (.t tB (.g 24 9) (.i 26 (.g (.q (i_leq (Z 0) 9) (i_lss 9 (.l 24))) (.l (.st 1 24 9 tt) (.l (i_add 9 (Z 1)) (.tl 157 [.r 0 9, 28, .r 10 14, 27])))) (.g (.q (i_leq (Z 0) 9) (i_lss 9 (.l 24))) (.l (.st 1 24 9 25) (.l (i_add 9 (Z 1)) (.tl 157 [.r 0 9, 28, .r 10 14, 27]))))))))) (.ret false [.r 0 25])
set_option maxRecDepth 100000 in
theorem q157 : Eqn C sg 157 p157 := by
  intro n ds
  kernel_rfl
def p158 : T := .o 209 [.r 0 2, .e (.l 0), .e (Z 0)] (rt [.e (Z (-1))])
set_option maxRecDepth 100000 in
theorem q158 : Eqn C sg 158 p158 := by
  intro n ds
  kernel_rfl
def p159 : T := .i (i_lss 2 1) (.g (.q (i_leq (Z 0) 2) (i_lss 2 (.l 0))) (.t ty_iiiiiiil9iiiiibil1l9l20l20i (.g 0 2) (.g (.q (.q (i_leq (Z 0) (.l 3)) (i_leq (.l 3) (.l 3))) (i_leq (.l 3) (Z 68719476736))) (.l (.rp 1 (.l 3) (.k (.nils 4 1))) (cn 210 [3, .e (Ac [.a 23 8, .a 23 9, .a 23 10, .a 23 11, .a 23 12, .a 23 13, .a 23 14, .a 23 15, .a 23 16] e0), 24] (.o 211 [.r 0 3, .e (.a 23 7), .e (.l (.a 23 7)), .e (Z 0), .r 3 20, .e (.a 23 0), .e (.a 23 1), .e (.a 23 2), .e (.a 23 3), .e (.a 23 4), .e (.a 23 5), .e (.a 23 6), .e (.a 23 7), .e (.a 23 8), .e (.a 23 9), .e (.a 23 10), .e (.a 23 11), .e (.a 23 12), .e (.a 23 13), .e (.a 23 14), .e (.a 23 15), .e (.a 23 16), .e (.a 23 17), .e (.a 23 18), .e (.a 23 19), 25] (.o 212 [.r 26 3, .e (.l 72), .e (Z 0), .r 32 41] (.i (i_eql 98 (Z 3)) (cn 213 [92] (cn 103 [.e (Ac [93, 94, 95, 96, 97] e0), 115, .r 78 14, 120] (cn 213 [119] (cn 103 [.e (Ac [93, 94, 95, 96, 97] e0), 116, .r 121 14, 137] (.o 214 [.r 73 3, .e (.l 136), .e (Z 0), .r 138 14, 136, .r 93 5, 135, 152] (.l (i_add 155 (Z 1)) (.tl 159 [.r 153 2, 180, .r 158 20]))))))) (.j (.i 119 (.l (.mx .i64 103 (Z 0)) (.o 215 [120, .r 73 3, .r 78 40] (.l (i_add 124 (Z 1)) (.tl 159 [.r 122 2, 165, .r 125 20])))) (.l (i_add 75 (Z 1)) (.tl 159 [.r 73 2, 120, .r 78 20]))) (.i (i_eql 98 (Z 1)) (.jp 0 [.e (i_eql (.l 105) (Z 0))]) (.jp 0 [.e ff]))))))))))) (.ret false [.r 0 23])
set_option maxRecDepth 100000 in
theorem q159 : Eqn C sg 159 p159 := by
  intro n ds
  kernel_rfl
def p160 : T := .i (i_lss 3 2) (.g (.q (i_leq (Z 0) 3) (i_lss 3 (.l 15))) (.t tB (.g 15 3) (.i 19 (.l (i_add 3 (Z 1)) (.tl 160 [.r 0 3, 20, .r 4 15])) (cn 216 [0, .r 3 12, .r 16 3] (.i (.n 20) (.l (i_add 3 (Z 1)) (.tl 160 [.r 0 3, 35, .r 21 11, 15, .r 32 3])) (.i (i_eql 3 1) (rt [.e tt, .r 21 11, 15, .r 32 3]) (.g (.q (i_leq (Z 0) 3) (i_lss 3 (.l 15))) (.l (.st 1 15 3 tt) (cn 106 [3, 1, .r 21 11, 35, .r 32 3] (.i 36 (rt [.e tt, .r 37 15]) (.l (i_add 3 (Z 1)) (.tl 160 [.r 0 3, 52, .r 37 15])))))))))))) (.ret false [.r 0 19])
set_option maxRecDepth 100000 in
theorem q160 : Eqn C sg 160 p160 := by
  intro n ds
  kernel_rfl
def p161 : T := .i (i_lss 7 6) (.i 2 (.g (.q (i_leq (Z 0) 7) (i_lss 7 (.l 23))) (.t tB (.g 23 7) (.i 24 (.l (i_add 7 (Z 1)) (.tl 161 [.r 0 2, .e tt, .r 3 4, 25, .r 8 16])) (cn 216 [7, 1, .r 8 14] (.l (i_add 7 (Z 1)) (.tl 161 [.r 0 2, .e (.n 25), .r 3 4, 40, .r 26 14, .r 22 2])))))) (.l (i_add 7 (Z 1)) (.tl 161 [.r 0 2, .e ff, .r 3 4, 24, .r 8 16]))) (.ret false [.r 0 24])
set_option maxRecDepth 100000 in
theorem q161 : Eqn C sg 161 p161 := by
  intro n ds
  kernel_rfl
def p162 : T := .o 217 [0, .e (.l 0), .e (Z 0), .r 1 3] (rt [.e (Z (-1)), .r 7 3])
set_option maxRecDepth 100000 in
theorem q162 : Eqn C sg 162 p162 := by
  intro n ds
  kernel_rfl
def p163 : T := .i (i_lss 1 (.sl 0)) (.g (.q (i_leq (Z 0) 1) (i_lss 1 (.sl 0))) (.l (.sb 0 1) (cn 218 [2] (.i 3 (.l (i_add 1 (Z 1)) (.tl 163 [0, 4])) (.ret false [.r 0 2]))))) (.ret false [.r 0 2])
set_option maxRecDepth 100000 in
theorem q163 : Eqn C sg 163 p163 := by
  intro n ds
  kernel_rfl
def p164 : T := .o 219 [1, .e (.sl 1), .e (Z 0), .e (.a 0 0), .e (.a 0 1), .e (.a 0 2), .e (Z 0), .e (Z 0), .e (Z 0)] (rt [.e (Ac [5, 6, 7] e0)])
set_option maxRecDepth 100000 in
theorem q164 : Eqn C sg 164 p164 := by
  intro n ds
  kernel_rfl
def p165 : T := .i (.i .geq .u8 0 (.k (.int .u8 97))) (.i (.i .leq .u8 0 (.k (.int .u8 122))) (rt [.e tt]) (.i (.i .geq .u8 0 (.k (.int .u8 65))) (.i (.i .leq .u8 0 (.k (.int .u8 90))) (rt [.e tt]) (rt [.e (.i .eql .u8 0 (.k (.int .u8 95)))])) (rt [.e (.i .eql .u8 0 (.k (.int .u8 95)))]))) (.i (.i .geq .u8 0 (.k (.int .u8 65))) (.i (.i .leq .u8 0 (.k (.int .u8 90))) (rt [.e tt]) (rt [.e (.i .eql .u8 0 (.k (.int .u8 95)))])) (rt [.e (.i .eql .u8 0 (.k (.int .u8 95)))]))
set_option maxRecDepth 100000 in
theorem q165 : Eqn C sg 165 p165 := by
  intro n ds
  kernel_rfl
def p166 : T := .o 220 [0, .e (Z 0)] (rt [2])
set_option maxRecDepth 100000 in
theorem q166 : Eqn C sg 166 p166 := by
  intro n ds
  kernel_rfl
def p167 : T := .i (.i .geq .u8 0 (.k (.int .u8 48))) (rt [.e (.i .leq .u8 0 (.k (.int .u8 57)))]) (rt [.e ff])
set_option maxRecDepth 100000 in
theorem q167 : Eqn C sg 167 p167 := by
  intro n ds
  kernel_rfl
def p168 : T := cn 221 [0] (.i (i_lss 1 (.sl 0)) (.g (.q (i_leq (Z 0) 1) (i_lss 1 (.sl 0))) (.l (.sb 0 1) (.i (.i .eql .u8 2 (.k (.int .u8 39))) (.l (i_add 1 (Z 1)) (.g (.q (.q (i_leq (Z 0) 3) (i_leq 3 (.sl 0))) (i_leq (.sl 0) (.sl 0))) (.l (.ds 0 3 (.sl 0)) (cn 222 [4] (.l (i_add (Z 1) 5) (.l (i_add 1 6) (rt [7]))))))) (rt [1])))) (rt [1]))
set_option maxRecDepth 100000 in
theorem q168 : Eqn C sg 168 p168 := by
  intro n ds
  kernel_rfl
def p169 : T := cn 223 [0, .e (.k (.str [39]))] (.i (.n 3) (cn 224 [0] (rt [.r 4 2])) (.i (.s .neq 1 (.k (.str []))) (cn 225 [1, .e (Z 10)] (.i (i_neq 4 (Z 0)) (rt [.e (.k (.agg [.int .i64 0, .lst 1 [], .bool false, .bool false])), 4]) (cp 226 [5, .e (Z 129)] (cn 227 [2] (.i (i_neq 10 (Z 0)) (rt [.e (.k (.agg [.int .i64 0, .lst 1 [], .bool false, .bool false])), 10]) (cn 225 [.r 7 2] (.i (i_neq 11 (Z 0)) (rt [.e (.k (.agg [.int .i64 0, .lst 1 [], .bool false, .bool false])), 11]) (.i (i_lss 6 (Z 1)) (rt [.e (.k (.agg [.int .i64 0, .lst 1 [], .bool false, .bool false])), .e (Z 2)]) (.i (i_gtr 6 (Z 128)) (rt [.e (.k (.agg [.int .i64 0, .lst 1 [], .bool false, .bool false])), .e (Z 2)]) (cn 228 [12, 8, 6] (rt [.e (.aa 13 (Ac [9, .s .neq 1 (.k (.str []))] e0)), .e (Z 0)]))))))))))) (cn 227 [2] (.i (i_neq 7 (Z 0)) (rt [.e (.k (.agg [.int .i64 0, .lst 1 [], .bool false, .bool false])), 7]) (cn 225 [.r 4 2] (.i (i_neq 8 (Z 0)) (rt [.e (.k (.agg [.int .i64 0, .lst 1 [], .bool false, .bool false])), 8]) (cn 228 [9, 5, .e (Z 32)] (rt [.e (.aa 10 (Ac [6, .s .neq 1 (.k (.str []))] e0)), .e (Z 0)]))))))))
set_option maxRecDepth 100000 in
theorem q169 : Eqn C sg 169 p169 := by
  intro n ds
  kernel_rfl
def p170 : T := .l (.mn .i64 (Z 3) (.sl 0)) (.o 229 [.r 0 2] (.g (.q tt (i_lss (Z 0) (.sl 2))) (.l (.sb 2 (Z 0)) (cn 230 [.e (.k (.str [43, 45, 42, 47, 37, 38, 124, 94, 126, 33, 60, 62, 63, 58, 61, 40, 41, 91, 93, 123, 125, 59, 44, 46, 35, 64])), 4] (.i (i_geq 5 (Z 0)) (rt [.e (Z 1)]) (rt [.e (Z 0)]))))))
set_option maxRecDepth 100000 in
theorem q170 : Eqn C sg 170 p170 := by
  intro n ds
  kernel_rfl
def p172 : T := cn 33 [.r 0 8] (cn 231 [.r 9 8] (.i (.n 17) (cn 232 [.r 18 8] (rt [.e (.k (.agg [.int .i64 0, .int .i64 0, .int .i64 0, .int .i64 0, .str [], .lst 6 []])), .r 26 8])) (cn 233 [.e (Z 0), .r 18 8] (cn 63 [.e (.k (.str [63])), .r 27 8] (.i (.n 35) (cn 232 [.r 36 8] (rt [26, .r 44 8])) (cn 172 [.r 36 8] (cn 61 [.e (.k (.lst 1 [.str [58]])), .r 45 8] (cn 172 [.r 53 8] (cn 232 [.r 62 8] (rt [.e (Ac [Z 5, .a 8 2, .a 8 3, .a 8 4, .k (.str []), Ls 6 [26, 44, 61]] e0), .r 70 8]))))))))))
set_option maxRecDepth 100000 in
theorem q172 : Eqn C sg 172 p172 := by
  intro n ds
  kernel_rfl
def p173 : T := .j (cn 62 [.r 10 8] (.j (.j (.i (sE_ 1 (.k (.str [114, 101, 103]))) (.i (i_lss (.l 38) (Z 4)) (cn 63 [.e (.k (.str [61])), .r 30 8] (.i 39 (cn 172 [.r 40 8] (rt [.e (Ac [Z 1] (.aa 0 (Ac [20, 1, 18, 38, Ls 6 [48], .k (.lst 8 []), .k (.lst 14 []), .k (.lst 14 []), .k (.lst 5 []), .k (.lst 5 [])] e0))), .r 49 8])) (rt [.e (Ac [Z 1] (.aa 0 (Ac [20, 1, 18, 38, .k (.lst 6 []), .k (.lst 8 []), .k (.lst 14 []), .k (.lst 14 []), .k (.lst 5 []), .k (.lst 5 [])] e0))), .r 40 8]))) (rt [.e (Ac [Z 1] (.aa 0 (Ac [20, 1, 18, 38, .k (.lst 6 []), .k (.lst 8 []), .k (.lst 14 []), .k (.lst 14 []), .k (.lst 5 []), .k (.lst 5 [])] e0))), .r 30 8])) (.i (sE_ 1 (.k (.str [111, 117, 116, 112, 117, 116, 32, 114, 101, 103]))) (.i (i_lss (.l 38) (Z 4)) (cn 63 [.e (.k (.str [61])), .r 30 8] (.i 39 (cn 172 [.r 40 8] (rt [.e (Ac [Z 1] (.aa 0 (Ac [20, 1, 18, 38, Ls 6 [48], .k (.lst 8 []), .k (.lst 14 []), .k (.lst 14 []), .k (.lst 5 []), .k (.lst 5 [])] e0))), .r 49 8])) (rt [.e (Ac [Z 1] (.aa 0 (Ac [20, 1, 18, 38, .k (.lst 6 []), .k (.lst 8 []), .k (.lst 14 []), .k (.lst 14 []), .k (.lst 5 []), .k (.lst 5 [])] e0))), .r 40 8]))) (rt [.e (Ac [Z 1] (.aa 0 (Ac [20, 1, 18, 38, .k (.lst 6 []), .k (.lst 8 []), .k (.lst 14 []), .k (.lst 14 []), .k (.lst 5 []), .k (.lst 5 [])] e0))), .r 30 8])) (rt [.e (Ac [Z 1] (.aa 0 (Ac [20, 1, 18, 38, .k (.lst 6 []), .k (.lst 8 []), .k (.lst 14 []), .k (.lst 14 []), .k (.lst 5 []), .k (.lst 5 [])] e0))), .r 30 8]))) (.i 29 (cn 234 [.r 21 8] (.g (.rm 19 38) (.l (.ap 6 19 38) (.jp 0 [.r 30 8, 39])))) (.jp 0 [.r 21 8, 19]))) (.i (sE_ 1 (.k (.str [114, 101, 103]))) (.jp 0 [.e (i_gtr (.l 19) (Z 0))]) (.jp 0 [.e ff])))) (.i (.s .neq 1 (.k (.str [105, 110, 116, 101, 103, 101, 114]))) (cn 63 [.e (.k (.str [115, 105, 103, 110, 101, 100])), .r 2 8] (cn 234 [.r 11 8] (.jp 0 [.r 19 8, 10, 27]))) (.jp 0 [.r 2 8, .e (sE_ 1 (.k (.str [105, 110, 116, 101, 103, 101, 114]))), .e (.k (.lst 6 []))]))
set_option maxRecDepth 100000 in
theorem q173 : Eqn C sg 173 p173 := by
  intro n ds
  kernel_rfl
def p174 : T := cn 231 [.r 0 8] (.i (.n 8) (cn 232 [.r 9 8] (rt [.r 17 8, .e (.k (.lst 14 []))])) (cn 235 [.r 9 8] (cn 33 [.r 17 8] (cn 63 [.e (.k (.str [119, 105, 114, 101])), .r 26 8] (.j (.i 43 (cn 173 [.e (Ac [.a 25 2, .a 25 3, .a 25 4] e0), .e (.a 25 1), .r 44 8] (cn 61 [.e (.k (.lst 1 [.str [59]])), .r 53 8] (cn 232 [.r 61 8] (rt [.r 69 8, .e (Ls 14 [52])])))) (cn 63 [.e (.k (.str [108, 111, 99, 97, 108, 112, 97, 114, 97, 109])), .r 44 8] (.i 52 (cn 117 [.e (Ac [.a 25 2, .a 25 3, .a 25 4] e0), .e (.a 25 1), .r 53 8] (cn 61 [.e (.k (.lst 1 [.str [59]])), .r 62 8] (cn 232 [.r 70 8] (rt [.r 78 8, .e (Ls 14 [61])])))) (cn 63 [.e (.k (.str [103, 101, 110, 118, 97, 114])), .r 53 8] (.i 61 (cn 62 [.r 62 8] (cn 61 [.e (.k (.lst 1 [.str [59]])), .r 71 8] (cn 232 [.r 79 8] (rt [.r 87 8, .e (Ls 14 [Ac [Z 3, .a 25 2, .a 25 3, .a 25 4, 70, .k (.str []), ff, .k (.lst 6 []), .k (.lst 6 []), .k (.lst 8 []), .k (.lst 14 []), .k (.lst 14 []), .k (.lst 5 []), .k (.lst 5 [])] e0])])))) (cn 63 [.e (.k (.str [97, 115, 115, 105, 103, 110])), .r 62 8] (.i 70 (cn 236 [.r 71 8] (cn 61 [.e (.k (.lst 1 [.str [61]])), .r 80 8] (cn 172 [.r 88 8] (cn 61 [.e (.k (.lst 1 [.str [59]])), .r 97 8] (cn 232 [.r 105 8] (rt [.r 113 8, .e (Ls 14 [Ac [Z 4, .a 25 2, .a 25 3, .a 25 4, .k (.str []), .k (.str []), ff, Ls 6 [79, 96], .k (.lst 6 []), .k (.lst 8 []), .k (.lst 14 []), .k (.lst 14 []), .k (.lst 5 []), .k (.lst 5 [])] e0])])))))) (cn 63 [.e (.k (.str [97, 108, 119, 97, 121, 115])), .r 71 8] (.i 79 (cn 237 [.e (Ac [.a 25 2, .a 25 3, .a 25 4] e0), .r 80 8] (cn 232 [.r 89 8] (rt [.r 97 8, .e (Ls 14 [88])]))) (cn 63 [.e (.k (.str [102, 117, 110, 99, 116, 105, 111, 110])), .r 80 8] (.i 88 (cn 238 [.e (Ac [.a 25 2, .a 25 3, .a 25 4] e0), .r 89 8] (cn 232 [.r 98 8] (rt [.r 106 8, .e (Ls 14 [97])]))) (cn 63 [.e (.k (.str [103, 101, 110, 101, 114, 97, 116, 101])), .r 89 8] (.i 97 (cn 66 [.e (.k (.str [101, 110, 100, 103, 101, 110, 101, 114, 97, 116, 101])), .r 98 8] (cn 232 [.r 106 8] (rt [.r 115 8, 114]))) (cn 63 [.e (.k (.str [102, 111, 114])), .r 98 8] (.i 106 (cn 239 [.r 107 8] (cn 240 [.r 116 8] (cn 232 [.r 125 8] (rt [.r 134 8, .e (Ls 14 [Ac [Z 9, .a 25 2, .a 25 3, .a 25 4, 115, .k (.str []), ff, 124, .k (.lst 6 []), .k (.lst 8 []), 133, .k (.lst 14 []), .k (.lst 5 []), .k (.lst 5 [])] e0])])))) (cn 63 [.e (.k (.str [105, 102])), .r 107 8] (.i 115 (cn 241 [.r 116 8] (cn 240 [.r 125 8] (cn 63 [.e (.k (.str [101, 108, 115, 101])), .r 133 8] (.i 142 (cn 240 [.r 143 8] (cn 232 [.r 151 8] (rt [.r 160 8, .e (Ls 14 [Ac [Z 10, .a 25 2, .a 25 3, .a 25 4, .k (.str []), .k (.str []), ff, Ls 6 [124], .k (.lst 6 []), .k (.lst 8 []), 141, 159, .k (.lst 5 []), .k (.lst 5 [])] e0])]))) (cn 232 [.r 143 8] (rt [.r 151 8, .e (Ls 14 [Ac [Z 10, .a 25 2, .a 25 3, .a 25 4, .k (.str []), .k (.str []), ff, Ls 6 [124], .k (.lst 6 []), .k (.lst 8 []), 141, .k (.lst 14 []), .k (.lst 5 []), .k (.lst 5 [])] e0])])))))) (cn 242 [.e (Ac [.a 25 2, .a 25 3, .a 25 4] e0), .r 116 8] (cn 232 [.r 125 8] (rt [.r 133 8, .e (Ls 14 [124])])))))))))))))))))))) (.i 34 (.jp 0 [.e tt, .r 35 8]) (cn 63 [.e (.k (.str [114, 101, 103])), .r 35 8] (.i 43 (.jp 0 [.e tt, .r 44 8]) (cn 63 [.e (.k (.str [105, 110, 116, 101, 103, 101, 114])), .r 44 8] (.jp 0 [.r 52 9]))))))))))
set_option maxRecDepth 100000 in
theorem q174 : Eqn C sg 174 p174 := by
  intro n ds
  kernel_rfl
def p175 : T := rt [.e (sE_ (.a 0 0) 1), .r 1 7]
set_option maxRecDepth 100000 in
theorem q175 : Eqn C sg 175 p175 := by
  intro n ds
  kernel_rfl
def p176 : T := .i (i_lss 2 1) (.g (.q (i_leq (Z 0) 2) (i_lss 2 (.l 0))) (.t ty_si (.g 0 2) (cn 243 [4, 3] (.i 5 (rt [2, 6]) (.l (i_add 2 (Z 1)) (.tl 176 [.r 0 2, 7, 6])))))) (.ret false [.r 0 4])
set_option maxRecDepth 100000 in
theorem q176 : Eqn C sg 176 p176 := by
  intro n ds
  kernel_rfl
def p177 : T := cn 169 [.e (.a 0 4)] (.j (.i 8 (cn 178 [.e (Ac [.a 0 1, .a 0 2, .a 0 3] e0), .e (Z 5), .r 1 5] (rt [.r 9 6])) (cn 244 [6] (.i (i_neq 7 (Z 0)) (cn 178 [.e (Ac [.a 0 1, .a 0 2, .a 0 3] e0), .e (Z 3), .r 1 5] (rt [.r 11 6])) (.i (i_neq 10 (Z 0)) (cn 178 [.e (Ac [.a 0 1, .a 0 2, .a 0 3] e0), .e (Z 3), .r 1 5] (rt [.r 11 6])) (rt [9, .r 1 5]))))) (.i (i_neq 7 (Z 0)) (.jp 0 [.e (i_neq 7 (Z 3))]) (.jp 0 [.e ff])))
set_option maxRecDepth 100000 in
theorem q177 : Eqn C sg 177 p177 := by
  intro n ds
  kernel_rfl
def p178 : T := .i (i_eql 6 (Z 0)) (rt [.e (Z 0), 2, .e (.a 0 0), .e (.a 0 1), .e (.a 0 2), 1]) (rt [.e (Z 0), .r 2 5])
set_option maxRecDepth 100000 in
theorem q178 : Eqn C sg 178 p178 := by
  intro n ds
  kernel_rfl
def p179 : T := .i (sE_ (.a 0 4) (.k (.str [45]))) (.g (.q tt (i_lss (Z 0) (.l (.a 0 5)))) (.t ty_iiiisl6 (.g (.a 0 5) (Z 0)) (cn 122 [6, .r 1 5] (.l (i_sub (.k (.int .i64 0)) 7) (rt [13, .r 8 5]))))) (.i (sE_ (.a 0 4) (.k (.str [126]))) (.g (.q tt (i_lss (Z 0) (.l (.a 0 5)))) (.t ty_iiiisl6 (.g (.a 0 5) (Z 0)) (cn 122 [6, .r 1 5] (.l (.cm .i64 7) (rt [13, .r 8 5]))))) (.i (sE_ (.a 0 4) (.k (.str [33]))) (.g (.q tt (i_lss (Z 0) (.l (.a 0 5)))) (.t ty_iiiisl6 (.g (.a 0 5) (Z 0)) (cn 122 [6, .r 1 5] (cn 245 [.e (i_eql 7 (Z 0))] (rt [13, .r 8 5]))))) (cn 178 [.e (Ac [.a 0 1, .a 0 2, .a 0 3] e0), .e (Z 12), .r 1 5] (rt [.r 6 6]))))
set_option maxRecDepth 100000 in
theorem q179 : Eqn C sg 179 p179 := by
  intro n ds
  kernel_rfl
def p180 : T := .g (.q tt (i_lss (Z 0) (.l (.a 0 5)))) (.t ty_iiiisl6 (.g (.a 0 5) (Z 0)) (cn 122 [6, .r 1 5] (.i (i_neq 12 (Z 0)) (rt [.e (Z 0), .r 8 5]) (.j (.g (.q tt (i_lss (Z 1) (.l (.a 0 5)))) (.t ty_iiiisl6 (.g (.a 0 5) (Z 1)) (cn 122 [13, .r 8 5] (.i (i_neq 19 (Z 0)) (rt [.e (Z 0), .r 15 5]) (.j (.i 20 (.i (i_eql 14 (Z 0)) (cn 178 [.e (Ac [.a 0 1, .a 0 2, .a 0 3] e0), .e (Z 3), .r 15 5] (rt [.r 21 6])) (cn 246 [0, 7, .r 14 6] (rt [.r 21 6]))) (.j (.i 21 (.i (i_lss 14 (Z 0)) (cn 178 [.e (Ac [.a 0 1, .a 0 2, .a 0 3] e0), .e (Z 3), .r 15 5] (rt [.r 22 6])) (.i (i_gtr 14 (Z 31)) (cn 178 [.e (Ac [.a 0 1, .a 0 2, .a 0 3] e0), .e (Z 3), .r 15 5] (rt [.r 22 6])) (cn 246 [0, 7, .r 14 6] (rt [.r 22 6])))) (cn 246 [0, 7, .r 14 6] (rt [.r 22 6]))) (.i (sE_ (.a 0 4) (.k (.str [60, 60]))) (.jp 0 [.e tt]) (.i (sE_ (.a 0 4) (.k (.str [60, 60, 60]))) (.jp 0 [.e tt]) (.i (sE_ (.a 0 4) (.k (.str [62, 62]))) (.jp 0 [.e tt]) (.jp 0 [.e (sE_ (.a 0 4) (.k (.str [62, 62, 62])))])))))) (.i (sE_ (.a 0 4) (.k (.str [47]))) (.jp 0 [.e tt]) (.jp 0 [.e (sE_ (.a 0 4) (.k (.str [37])))]))))))) (.i (sE_ (.a 0 4) (.k (.str [38, 38]))) (.i (i_eql 7 (Z 0)) (rt [.e (Z 0), .r 8 5]) (.i (sE_ (.a 0 4) (.k (.str [124, 124]))) (.i (i_neq 7 (Z 0)) (rt [.e (Z 1), .r 8 5]) (.jp 0 [])) (.jp 0 []))) (.i (sE_ (.a 0 4) (.k (.str [124, 124]))) (.i (i_neq 7 (Z 0)) (rt [.e (Z 1), .r 8 5]) (.jp 0 [])) (.jp 0 [])))))))
set_option maxRecDepth 100000 in
theorem q180 : Eqn C sg 180 p180 := by
  intro n ds
  kernel_rfl
def p181 : T := .o 247 [.e (.l 0), .e (Z 0), .r 0 20] (rt [.e (Z (-1)), .r 22 20])
set_option maxRecDepth 100000 in
theorem q181 : Eqn C sg 181 p181 := by
  intro n ds
  kernel_rfl
def p182 : T := .i (i_lss 1 (.l 21)) (.g (.q (i_leq (Z 0) 1) (i_lss 1 (.l 21))) (.t ty_siisibil4ibiiiiibil1l9 (.g 21 1) (cn 248 [22, .r 2 19] (.i (.n 23) (.g (.q (i_leq (Z 0) 0) (i_lss 0 (.l 21))) (.l (.st 19 21 0 22) (.l (i_add 0 (Z 1)) (.l (i_add 1 (Z 1)) (.tl 182 [.r 44 2, .r 24 20]))))) (.l (i_add 1 (Z 1)) (.tl 182 [0, 43, .r 24 19, 21])))))) (.ret false [.r 0 22])
set_option maxRecDepth 100000 in
theorem q182 : Eqn C sg 182 p182 := by
  intro n ds
  kernel_rfl
def p183 : T := .i (i_geq 0 (Z 1)) (rt [.e (i_leq 0 (Z 128))]) (rt [.e ff])
set_option maxRecDepth 100000 in
theorem q183 : Eqn C sg 183 p183 := by
  intro n ds
  kernel_rfl
def p184 : T := cn 249 [0] (.g (.q (.q (i_leq (Z 0) 1) (i_leq 1 1)) (i_leq 1 (Z 68719476736))) (.l (.rp 1 1 (.k (.int .u64 0))) (rt [0, 2])))
set_option maxRecDepth 100000 in
theorem q184 : Eqn C sg 184 p184 := by
  intro n ds
  kernel_rfl
def p185 : T := .l (i_rem 0 (Z 64)) (.i (i_neq 2 (Z 0)) (.l (i_sub (.l 1) (Z 1)) (.g (.q (i_leq (Z 0) 3) (i_lss 3 (.l 1))) (.t (.leaf (.int .u64)) (.g 1 3) (.i (i_lss 2 (Z 0)) .no (.l (.i .shl .u64 (.k (.int .u64 1)) 2) (.l (.i .sub .u64 5 (.k (.int .u64 1))) (.l (.i .and .u64 4 6) (.g (.q (i_leq (Z 0) 3) (i_lss 3 (.l 1))) (.l (.st 1 1 3 7) (rt [0, 8])))))))))) (rt [.r 0 2]))
set_option maxRecDepth 100000 in
theorem q185 : Eqn C sg 185 p185 := by
  intro n ds
  kernel_rfl
def p186 : T := .i (i_lss 2 1) (.g (.q (i_leq (Z 0) 2) (i_lss 2 (.l 0))) (.t ty_siisibil4ibiiiiibil1l9 (.g 0 2) (.i (i_eql (.a 5 1) (Z 1)) (cn 73 [.e (Ac [4] e0), .e (.a 5 0), .e (.a 5 2)] (.l (i_add 2 (Z 1)) (.tl 186 [.r 0 2, 7, 3, 6]))) (.l (i_add 2 (Z 1)) (.tl 186 [.r 0 2, 6, .r 3 2]))))) (.ret false [.r 0 5])
set_option maxRecDepth 100000 in
theorem q186 : Eqn C sg 186 p186 := by
  intro n ds
  kernel_rfl
def p187 : T := .g (.rs 4 (.a 0 4)) (.l (.s .add 4 (.a 0 4)) (.i (i_geq (.l (.a 0 7)) (Z 2)) (.g (.q tt (i_lss (Z 0) (.l (.a 0 7)))) (.t ty_iiiisl6 (.g (.a 0 7) (Z 0)) (cn 83 [24, .r 1 22] (.g (.q tt (i_lss (Z 1) (.l (.a 0 7)))) (.t ty_iiiisl6 (.g (.a 0 7) (Z 1)) (cn 83 [48, .r 26 22] (cn 138 [.e (Ac [.a 0 1, .a 0 2, .a 0 3] e0), 25, 49, .e (Z 128), .r 50 22] (.i (i_geq (.l (.a 0 7)) (Z 4)) (.g (.q tt (i_lss (Z 2) (.l (.a 0 7)))) (.t ty_iiiisl6 (.g (.a 0 7) (Z 2)) (cn 83 [95, .r 73 22] (.g (.q tt (i_lss (Z 3) (.l (.a 0 7)))) (.t ty_iiiisl6 (.g (.a 0 7) (Z 3)) (cn 83 [119, .r 97 22] (cn 138 [.e (Ac [.a 0 1, .a 0 2, .a 0 3] e0), 120, 96, .e (Z 64), .r 121 22] (rt [.e (Ac [23, 72, .a 0 6, 143] e0), .r 144 22])))))))) (rt [.e (Ac [23, 72, .a 0 6, Z 0] e0), .r 73 22]))))))))) (.i (i_geq (.l (.a 0 7)) (Z 4)) (.g (.q tt (i_lss (Z 2) (.l (.a 0 7)))) (.t ty_iiiisl6 (.g (.a 0 7) (Z 2)) (cn 83 [24, .r 1 22] (.g (.q tt (i_lss (Z 3) (.l (.a 0 7)))) (.t ty_iiiisl6 (.g (.a 0 7) (Z 3)) (cn 83 [48, .r 26 22] (cn 138 [.e (Ac [.a 0 1, .a 0 2, .a 0 3] e0), 49, 25, .e (Z 64), .r 50 22] (rt [.e (Ac [23, Z 1, .a 0 6, 72] e0), .r 73 22])))))))) (rt [.e (Ac [23, Z 1, .a 0 6, Z 0] e0), .r 1 22]))))
set_option maxRecDepth 100000 in
theorem q187 : Eqn C sg 187 p187 := by
  intro n ds
  kernel_rfl
def p188 : T := .i (i_eql (.l 19) (Z 300)) (cn 42 [2, .e (Z 19), .r 8 7, .r 17 8] (rt [.e (Z 0), .r 3 5, .r 25 7, .r 15 2, .r 32 8])) (.g (.rm 19 (.k (dm 1))) (.l (.ap 4 19 (Ls 4 [0])) (.g (.rm 20 (.k (dm 1))) (.l (.ap 3 20 (Ls 3 [2])) (.g (.rm 24 (.k (dm 1))) (.l (.ap 1 24 (Ls 1 [1])) (.l (i_sub (.l 25) (Z 1)) (rt [28, .r 3 16, .r 25 2, .r 21 3, 27]))))))))
set_option maxRecDepth 100000 in
theorem q188 : Eqn C sg 188 p188 := by
  intro n ds
  kernel_rfl
def p189 : T := .i (i_lss 3 2) (.g (.q (i_leq (Z 0) 3) (i_lss 3 (.l 1))) (.t ty_iiiisl6 (.g 1 3) (cn 83 [44, .r 4 16, .r 38 6] (.l (.cv .u64 45) (.l (i_shr 45 (.k (.int .u64 63))) (.l (.cv .u64 69) (cn 130 [35, .e (Ls 1 [68, 70])] (.g (.rm 66 (.k (dm 1))) (.l (.ap 3 66 (Ls 3 [Ac [0] (.aa 71 e0)])) (.l (i_add 3 (Z 1)) (.tl 189 [.r 0 3, 74, .r 46 16, .r 20 18, .r 62 4, 73, 67]))))))))))) (.ret false [.r 0 44])
set_option maxRecDepth 100000 in
theorem q189 : Eqn C sg 189 p189 := by
  intro n ds
  kernel_rfl
def p190 : T := cn 250 [.r 0 2] (rt [.e (.a 2 1), .e (.a 2 2), .e (Ac [.a 2 3, .a 2 4, .a 2 5, .a 2 6] e0)])
set_option maxRecDepth 100000 in
theorem q190 : Eqn C sg 190 p190 := by
  intro n ds
  kernel_rfl
def p191 : T := .i (i_eql (.a 0 0) (Z 8)) (.g (.q tt (i_lss (Z 0) (.l (.a 0 5)))) (.t ty_iiiisl6 (.g (.a 0 5) (Z 0)) (cn 70 [.e (Ac [3, 4] e0)] (cn 71 [.r 25 2] (.j (.j (.i 32 (cn 42 [.e (Ac [.a 0 1, .a 0 2, .a 0 3] e0), .e (Z 3), .r 8 7, .r 17 8] (.i (i_eql 29 (Z 0)) (.i (i_eql (.a 2 3) (Z 0)) (rt [.e (Ac [1, 27, Z 1, .k (.lst 9 [])] e0), .e (Z 1), .r 3 5, .r 33 7, .r 15 2, .r 40 8]) (.g (.q tt (i_lss (Z 0) (.l (.a 0 5)))) (.t ty_iiiisl6 (.g (.a 0 5) (Z 0)) (cn 134 [48, .e (Z 0), .r 3 5, .r 33 7, .r 15 2, .r 40 8] (rt [.e (Ac [1, Z 0, Z 0, Ls 9 [49]] e0), 31, .r 50 22]))))) (.g (.q tt (i_lss (Z 0) (.l (.a 0 5)))) (.t ty_iiiisl6 (.g (.a 0 5) (Z 0)) (cn 134 [48, .e (Z 0), .r 3 5, .r 33 7, .r 15 2, .r 40 8] (rt [.e (Ac [1, Z 0, Z 0, Ls 9 [49]] e0), 31, .r 50 22])))))) (.i (i_eql 29 (Z 0)) (.i (i_eql (.a 2 3) (Z 0)) (rt [.e (Ac [1, 27, Z 1, .k (.lst 9 [])] e0), .e (Z 1), .r 3 22]) (.g (.q tt (i_lss (Z 0) (.l (.a 0 5)))) (.t ty_iiiisl6 (.g (.a 0 5) (Z 0)) (cn 134 [33, .e (Z 0), .r 3 22] (rt [.e (Ac [1, Z 0, Z 0, Ls 9 [34]] e0), 31, .r 35 22]))))) (.g (.q tt (i_lss (Z 0) (.l (.a 0 5)))) (.t ty_iiiisl6 (.g (.a 0 5) (Z 0)) (cn 134 [33, .e (Z 0), .r 3 22] (rt [.e (Ac [1, Z 0, Z 0, Ls 9 [34]] e0), 31, .r 35 22])))))) (.i (i_eql 29 (Z 0)) (.i (i_lss 27 (Z 0)) (.jp 0 [.e tt]) (.jp 0 [.e (i_geq 27 30)])) (.jp 0 [.e ff]))) (.i (i_gtr (.a 2 3) (Z 0)) (.jp 0 [.e (.a 2 3), .e (.a 2 1)]) (.jp 0 [.e (.a 2 1), .e (Z 1)]))))))) (.i (i_eql (.a 0 0) (Z 9)) (.g (.q tt (i_lss (Z 0) (.l (.a 0 5)))) (.t ty_iiiisl6 (.g (.a 0 5) (Z 0)) (cn 83 [25, .r 3 22] (.g (.q tt (i_lss (Z 1) (.l (.a 0 5)))) (.t ty_iiiisl6 (.g (.a 0 5) (Z 1)) (cn 83 [49, .r 27 22] (.j (.i 73 (cn 42 [.e (Ac [.a 0 1, .a 0 2, .a 0 3] e0), .e (Z 3), .r 56 7, .r 65 8] (.l (i_sub 26 50) (.l (i_add 89 (Z 1)) (.l (i_sub 26 50) (.l (i_add 91 (Z 1)) (.l (.mn .i64 92 (.a 2 1)) (.l (.mx .i64 (Z 1) 93) (rt [.e (Ac [1, 50, 90, .k (.lst 9 [])] e0), 94, .r 51 5, .r 74 7, .r 63 2, .r 81 8])))))))) (.l (i_sub 26 50) (.l (i_add 74 (Z 1)) (.l (i_sub 26 50) (.l (i_add 76 (Z 1)) (.l (.mn .i64 77 (.a 2 1)) (.l (.mx .i64 (Z 1) 78) (rt [.e (Ac [1, 50, 75, .k (.lst 9 [])] e0), 79, .r 51 22])))))))) (.i (i_lss 50 (Z 0)) (.jp 0 [.e tt]) (.i (i_lss 26 50) (.jp 0 [.e tt]) (.jp 0 [.e (i_geq 26 (.a 2 1))])))))))))) (rt [.e (Ac [1, Z 0, .a 2 1, .k (.lst 9 [])] e0), .e (.a 2 1), .r 3 22]))
set_option maxRecDepth 100000 in
theorem q191 : Eqn C sg 191 p191 := by
  intro n ds
  kernel_rfl
def p192 : T := .l (.mn .i64 2 (Z 128)) (.l (.mx .i64 (Z 0) 3) (cn 251 [1, 4, .e (.a 0 0), .e (.a 0 1), .e (Z 0), .e (Z 0), .e (Z 0), .e (Z 0), .e (Z 0)] (.i (i_eql 11 (Z 0)) (cn 252 [5] (.i (i_gtr 13 (Z 20000)) (cn 253 [.e (Ac [.a 1 1, .a 1 2, .a 1 3] e0), .e (Z 19), .r 6 7] (.i (i_neq 19 (Z 0)) (rt [.e (.k (.agg [.int .i64 0, .int .i64 0, .int .i64 0, .int .i64 0, .int .i64 0, .bool false, .int .i64 0, .lst 1 [], .lst 9 []])), .e (Ac [16, 17, 18] e0), 19]) (rt [5, .e (.k (.agg [.int .i64 0, .int .i64 0, .int .i64 0])), .e (Z 0)]))) (.i (i_neq 11 (Z 0)) (rt [.e (.k (.agg [.int .i64 0, .int .i64 0, .int .i64 0, .int .i64 0, .int .i64 0, .bool false, .int .i64 0, .lst 1 [], .lst 9 []])), .e (Ac [8, 9, 10] e0), 11]) (rt [5, .e (.k (.agg [.int .i64 0, .int .i64 0, .int .i64 0])), .e (Z 0)])))) (.i (i_neq 11 (Z 0)) (rt [.e (.k (.agg [.int .i64 0, .int .i64 0, .int .i64 0, .int .i64 0, .int .i64 0, .bool false, .int .i64 0, .lst 1 [], .lst 9 []])), .e (Ac [8, 9, 10] e0), 11]) (rt [5, .e (.k (.agg [.int .i64 0, .int .i64 0, .int .i64 0])), .e (Z 0)])))))
set_option maxRecDepth 100000 in
theorem q192 : Eqn C sg 192 p192 := by
  intro n ds
  kernel_rfl
def p193 : T := .i (i_eql (.a 0 0) (Z 1)) (cn 86 [.e (.a 0 6), .r 1 22] (rt [.r 23 23])) (.j (.i 23 (.g (.q tt (i_lss (Z 0) (.l (.a 0 5)))) (.t ty_iiiisl6 (.g (.a 0 5) (Z 0)) (cn 133 [24, .e (Z 2), .r 1 22] (.g (.q tt (i_lss (Z 1) (.l (.a 0 5)))) (.t ty_iiiisl6 (.g (.a 0 5) (Z 1)) (cn 134 [49, .r 26 23] (.i (i_eql (.a 0 0) (Z 3)) (cn 135 [.e (Ac [.a 0 1, .a 0 2, .a 0 3] e0), .r 51 22] (rt [.r 73 22, .e (Ls 20 [Ac [Z 2, .a 0 1, .a 0 2, .a 0 3] (.aa 25 (.aa 50 (Ac [.k (.lst 20 []), .k (.lst 20 []), Z 0] e0)))])])) (cn 135 [.e (Ac [.a 0 1, .a 0 2, .a 0 3] e0), .r 51 22] (rt [.r 73 22, .e (Ls 20 [Ac [Z 1, .a 0 1, .a 0 2, .a 0 3] (.aa 25 (.aa 50 (Ac [.k (.lst 20 []), .k (.lst 20 []), Z 0] e0)))])]))))))))) (.i (i_eql (.a 0 0) (Z 4)) (.g (.q tt (i_lss (Z 0) (.l (.a 0 5)))) (.t ty_iiiisl6 (.g (.a 0 5) (Z 0)) (cn 134 [24, .e (Z 0), .r 1 22] (cn 135 [.e (Ac [.a 0 1, .a 0 2, .a 0 3] e0), .r 26 22] (.g (.q (.q tt tt) (i_leq (Z 1) (.l (.a 0 6)))) (.l (.dt 8 (.a 0 6) (Z 0) (Z 1)) (cn 86 [70, .r 48 22] (.g (.q (.q tt (i_leq (Z 1) (.l (.a 0 6)))) (i_leq (.l (.a 0 6)) (.l (.a 0 6)))) (.l (.dt 8 (.a 0 6) (Z 1) (.l (.a 0 6))) (cn 86 [94, .r 71 22] (rt [.r 95 22, .e (Ls 20 [Ac [Z 3, .a 0 1, .a 0 2, .a 0 3, Z 0, Z 0, Z 0, .k (.lst 9 [])] (.aa 25 (Ac [93, 117, Z 0] e0))])]))))))))))) (.i (i_eql (.a 0 0) (Z 5)) (cn 254 [.r 0 23] (rt [.r 24 23])) (.i (i_eql (.a 0 0) (Z 6)) (cn 255 [.e (Ac [.a 0 1, .a 0 2, .a 0 3] e0), .e (.a 0 4), .e (.a 0 5), .r 1 5, .e (.a 0 0), .e (.a 0 1), .e (.a 0 2), .e (.a 0 3), .e (.a 0 4), .e (.a 0 5), .e (.a 0 6), .e (.a 0 7), .r 6 11, .e (.k (.lst 20 [])), .r 17 6] (rt [.r 24 5, .r 37 11, .r 49 6, 48])) (.i (i_eql (.a 0 0) (Z 7)) (.g (.q tt (i_lss (Z 0) (.l (.a 0 5)))) (.t ty_iiiisl6 (.g (.a 0 5) (Z 0)) (cn 134 [24, .e (Z 0), .r 1 22] (cn 135 [.e (Ac [.a 0 1, .a 0 2, .a 0 3] e0), .r 26 22] (cn 256 [.e (.a 0 4), .r 48 22] (rt [.r 71 22, .e (Ls 20 [Ac [Z 4, .a 0 1, .a 0 2, .a 0 3, Z 0, Z 0, Z 0, .k (.lst 9 [])] (.aa 25 (Ac [.k (.lst 20 []), .k (.lst 20 []), 70] e0))])])))))) (rt [.r 1 22, .e (.k (.lst 20 []))])))))) (.i (i_eql (.a 0 0) (Z 2)) (.jp 0 [.e tt]) (.jp 0 [.e (i_eql (.a 0 0) (Z 3))])))
set_option maxRecDepth 100000 in
theorem q193 : Eqn C sg 193 p193 := by
  intro n ds
  kernel_rfl
def p194 : T := cn 123 [.e (.a 0 0)] (cn 257 [.r 1 2] (cn 131 [.e (Ac [4, .k (.lst 2 [])] e0)] (rt [.e (Ac [4, .a 5 0] e0)])))
set_option maxRecDepth 100000 in
theorem q194 : Eqn C sg 194 p194 := by
  intro n ds
  kernel_rfl
def p195 : T := cn 20 [.e (.a 0 4), .e (Ac [.a 0 1, .a 0 2, .a 0 3] e0), .r 1 22] (cn 77 [0, .r 23 11, .r 36 3, .r 34 2, .r 39 6] (rt [.r 45 12, .r 60 2, .r 57 3, .r 62 6]))
set_option maxRecDepth 100000 in
theorem q195 : Eqn C sg 195 p195 := by
  intro n ds
  kernel_rfl
def p196 : T := rt [.e (Ac [Z 2, Z 0, .a 1 1, 0, Z 0, ff, Z 0, .k (.lst 1 []), .k (.lst 9 [])] e0)]
set_option maxRecDepth 100000 in
theorem q196 : Eqn C sg 196 p196 := by
  intro n ds
  kernel_rfl
end Go.Proofs.YtpmjplpnpnmlcaaGreatDoor
