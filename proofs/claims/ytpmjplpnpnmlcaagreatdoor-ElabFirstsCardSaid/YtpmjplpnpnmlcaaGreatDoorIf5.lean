import Derived.Test.YtpmjplpnpnmlcaaGreatDoorIf0
import Derived.KernelRfl
set_option linter.all false
namespace Go.Proofs.YtpmjplpnpnmlcaaGreatDoor
open Go.AE
def p197 : T := cn 109 [0] (rt [.e (Ac [Z 1, Z 0, 1, Z 0, Z 0, ff] (.aa 0 (Ac [.k (.lst 9 [])] e0)))])
set_option maxRecDepth 100000 in
theorem q197 : Eqn C sg 197 p197 := by
  intro n ds
  kernel_rfl
def p198 : T := .i (i_lss 2 1) (.g (.q (i_leq (Z 0) 2) (i_lss 2 (.l 0))) (.t ty_iiiisl6l8l9 (.g 0 2) (.i (i_eql 13 (Z 0)) (cn 258 [26, .r 3 23] (.l (i_add 2 (Z 1)) (.tl 198 [.r 0 2, 50, .r 27 23]))) (.l (i_add 2 (Z 1)) (.tl 198 [.r 0 2, 27, .r 3 23]))))) (.ret false [.r 0 26])
set_option maxRecDepth 100000 in
theorem q198 : Eqn C sg 198 p198 := by
  intro n ds
  kernel_rfl
def p199 : T := .i (i_lss 2 1) (.g (.q (i_leq (Z 0) 2) (i_lss 2 (.l 0))) (.t ty_iiiissbl6l6l8l14l14l5l5 (.g 0 2) (.g (.rm 3 (.k (dm 1))) (.l (.ap 1 3 (Ls 1 [.a 4 4])) (.l (i_add 2 (Z 1)) (.tl 199 [.r 0 2, 6, 5])))))) (.ret false [.r 0 4])
set_option maxRecDepth 100000 in
theorem q199 : Eqn C sg 199 p199 := by
  intro n ds
  kernel_rfl
def p200 : T := .i (i_lss 4 3) (.g (.q (i_leq (Z 0) 4) (i_lss 4 (.l 2))) (.t ty_siiil6 (.g 2 4) (.g (.q (.q tt (i_leq (Z 0) 4)) (i_leq 4 (.l 0))) (.l (.dt 5 0 (Z 0) 4) (cn 259 [28, .e (.a 27 0), .e (.a 27 1), .e (.a 27 2), .e (.a 27 3), .e (.a 27 4)] (.i 29 (cn 42 [.e (Ac [31, 32, 33] e0), .e (Z 13), .r 10 7, .r 19 8] (.l (i_add 4 (Z 1)) (.tl 200 [.r 0 4, 50, .r 5 5, .r 35 7, .r 17 2, .r 42 8]))) (cn 41 [1, 30] (.i (.n 35) (cn 42 [.e (Ac [31, 32, 33] e0), .e (Z 13), .r 10 7, .r 19 8] (.l (i_add 4 (Z 1)) (.tl 200 [.r 0 4, 51, .r 5 5, .r 36 7, .r 17 2, .r 43 8]))) (.l (i_add 4 (Z 1)) (.tl 200 [.r 0 4, 36, .r 5 22])))))))))) (.ret false [.r 0 27])
set_option maxRecDepth 100000 in
theorem q200 : Eqn C sg 200 p200 := by
  intro n ds
  kernel_rfl
def p201 : T := .o 260 [0, .e (.l 0), .e (Z 0), .r 1 14] (rt [.e (Z (-1)), .r 18 14])
set_option maxRecDepth 100000 in
theorem q201 : Eqn C sg 201 p201 := by
  intro n ds
  kernel_rfl
def p202 : T := cn 19 [0] (.i 31 (cn 20 [.e (.a 0 4), .e (Ac [.a 0 1, .a 0 2, .a 0 3] e0), .r 7 13, .r 22 9] (.i (.n 6) (cn 42 [.e (Ac [.a 1 1, .a 1 2, .a 1 3] e0), .e (Z 13), .r 36 9, .r 48 6] (rt [.r 2 5, .r 32 3, .e tt, .r 54 9, .r 20 2, .r 45 3, .r 63 6, .e (.k (.lst 5 []))])) (.i (i_neq (.l (.a 1 4)) (Z 1)) (cn 42 [.e (Ac [.a 1 1, .a 1 2, .a 1 3] e0), .e (Z 13), .r 36 9, .r 48 6] (rt [.r 2 5, .r 32 3, .e tt, .r 54 9, .r 20 2, .r 45 3, .r 63 6, .e (.k (.lst 5 []))])) (.g (.q tt (i_lss (Z 0) (.l (.a 1 4)))) (.g (.ag (.g (.a 1 4) (Z 0))) (.t tI (.a (.g (.a 1 4) (Z 0)) 0) (.i (i_neq 54 (Z 2)) (cn 42 [.e (Ac [.a 1 1, .a 1 2, .a 1 3] e0), .e (Z 13), .r 36 9, .r 48 6] (rt [.r 2 5, .r 32 3, .e tt, .r 55 9, .r 20 2, .r 45 3, .r 64 6, .e (.k (.lst 5 []))])) (.g (.q tt (i_lss (Z 0) (.l (.a 1 4)))) (.g (.ag (.g (.a 1 4) (Z 0))) (.t tS (.a (.g (.a 1 4) (Z 0)) 4) (.i (.s .neq 55 (.k (.str [99, 108, 107]))) (cn 42 [.e (Ac [.a 1 1, .a 1 2, .a 1 3] e0), .e (Z 13), .r 36 9, .r 48 6] (rt [.r 2 5, .r 32 3, .e tt, .r 56 9, .r 20 2, .r 45 3, .r 65 6, .e (.k (.lst 5 []))])) (rt [.r 2 5, .r 32 3, .e tt, .r 36 9, .r 20 2, .r 45 9, .e (.k (.lst 5 []))])))))))))))) (.i (i_eql (.l (.a 1 4)) (Z 0)) (.i (sE_ (.a 0 5) (.k (.str [105, 110, 112, 117, 116]))) (cn 42 [.e (Ac [.a 1 1, .a 1 2, .a 1 3] e0), .e (Z 13), .r 11 9, .r 25 6] (rt [.r 2 9, .r 32 9, .r 20 5, .r 41 6, .e (.k (.lst 5 []))])) (cn 21 [0, .r 7 13, .r 22 9] (rt [.r 2 5, .r 33 13, .r 20 2, .r 46 9, .e (.k (.lst 5 []))]))) (.g (.q tt (i_lss (Z 0) (.l (.a 1 4)))) (.t ty_iiiisl6 (.g (.a 1 4) (Z 0)) (.i (.s .neq (.a 0 5) (.k (.str [105, 110, 112, 117, 116]))) (cn 261 [0, .e (Ac [.a 1 1, .a 1 2, .a 1 3] e0), 32, .r 2 29] (rt [.r 33 30])) (cn 190 [.e (Ac [2, 3] e0), .e (.a 32 4)] (.j (.i 36 (cn 77 [0, .r 7 11, .r 22 3, .r 18 2, .r 25 6] (.i (i_neq 48 (Z 0)) (rt [.r 2 5, .r 38 11, .r 52 2, .r 20 2, .r 49 3, .r 54 6, .e (.k (.lst 5 []))]) (.i (i_eql (.a 37 1) (.a 35 1)) (cn 20 [.e (.a 0 4), .e (Ac [.a 0 1, .a 0 2, .a 0 3] e0), .r 38 11, .r 52 2, .r 49 3, .r 54 6] (cn 81 [.e (Ac [60, 61] e0), .e (.a 0 4), 34, 37] (.g (.rm 75 (.k (dm 1))) (.l (.ap 1 75 (Ls 1 [.a 0 4])) (rt [.r 2 5, .e (.a 82 0), .e (.a 82 1), .r 62 11, .r 20 2, .r 73 2, 83, .r 76 6, .e (.k (.lst 5 []))]))))) (cn 21 [0, .r 38 11, .r 52 2, .r 49 3, .r 54 6] (.i (i_neq 71 (Z 0)) (rt [.r 2 5, .r 61 13, .r 20 2, .r 74 9, .e (.k (.lst 5 []))]) (.g (.rm 76 (.k (dm 1))) (.l (.ap 1 76 (Ls 1 [.a 0 4])) (.g (.q (i_leq (Z 0) 60) (i_lss 60 (.l 82))) (.l (.st 1 82 60 (Z 1)) (.g (.q (i_leq (Z 0) 60) (i_lss 60 (.l 77))) (.g (.ag (.g 77 60)) (.t tI (.a (.g 77 60) 1) (cn 135 [.e (Ac [.a 1 1, .a 1 2, .a 1 3] e0), .r 2 5, .r 65 7, .r 20 2, .r 72 2, .r 77 5, 84] (cn 134 [32, .r 85 23] (rt [.r 109 5, .r 61 4, .r 114 7, .r 123 2, .r 121 2, .r 74 2, 83, .r 125 6, .e (Ls 5 [Ac [Z 1, .a 1 1, .a 1 2, .a 1 3, Ls 20 [Ac [Z 1, .a 1 1, .a 1 2, .a 1 3, 60, Z 0, 85, .k (.lst 9 [])] (.aa 108 (Ac [.k (.lst 20 []), .k (.lst 20 []), Z 0] e0))]] e0])]))))))))))))))) (cn 21 [0, .r 7 13, .r 22 9] (.i (i_neq 48 (Z 0)) (rt [.r 2 5, .r 38 13, .r 20 2, .r 51 9, .e (.k (.lst 5 []))]) (.g (.rm 53 (.k (dm 1))) (.l (.ap 1 53 (Ls 1 [.a 0 4])) (.g (.q (i_leq (Z 0) 37) (i_lss 37 (.l 59))) (.l (.st 1 59 37 (Z 1)) (.g (.q (i_leq (Z 0) 37) (i_lss 37 (.l 54))) (.g (.ag (.g 54 37)) (.t tI (.a (.g 54 37) 1) (cn 135 [.e (Ac [.a 1 1, .a 1 2, .a 1 3] e0), .r 2 5, .r 42 7, .r 20 2, .r 49 2, .r 54 5, 61] (cn 134 [32, .r 62 23] (rt [.r 86 5, .r 38 4, .r 91 7, .r 100 2, .r 98 2, .r 51 2, 60, .r 102 6, .e (Ls 5 [Ac [Z 1, .a 1 1, .a 1 2, .a 1 3, Ls 20 [Ac [Z 1, .a 1 1, .a 1 2, .a 1 3, 37, Z 0, 62, .k (.lst 9 [])] (.aa 85 (Ac [.k (.lst 20 []), .k (.lst 20 []), Z 0] e0))]] e0])]))))))))))))) (.i (i_eql (.a 32 0) (Z 2)) (.i (i_eql 33 (Z 2)) (.jp 0 [.e (i_eql (.a 35 3) (Z 0))]) (.jp 0 [.e ff])) (.jp 0 [.e ff])))))))))
set_option maxRecDepth 100000 in
theorem q202 : Eqn C sg 202 p202 := by
  intro n ds
  kernel_rfl
def p203 : T := .o 262 [0, 16, .e (.l 16), .e (Z 0), .r 1 36] (rt [.r 41 36])
set_option maxRecDepth 100000 in
theorem q203 : Eqn C sg 203 p203 := by
  intro n ds
  kernel_rfl
def p204 : T := cn 210 [1, .e (Ac [.a 0 8, .a 0 9, .a 0 10, .a 0 11, .a 0 12, .a 0 13, .a 0 14, .a 0 15, .a 0 16] e0), 8] (.o 263 [.e (.a 0 7), .e (.l (.a 0 7)), .e (Z 0), .r 1 7, 9] (rt [.r 13 8]))
set_option maxRecDepth 100000 in
theorem q204 : Eqn C sg 204 p204 := by
  intro n ds
  kernel_rfl
def p205 : T := cn 155 [1, .e (.a 0 0)] (.i 10 (cn 264 [2, .e (Ac [.a 0 4, .a 0 5, .a 0 6, .a 0 7] e0), 9] (rt [.r 1 8, 11])) (rt [.r 1 9]))
set_option maxRecDepth 100000 in
theorem q205 : Eqn C sg 205 p205 := by
  intro n ds
  kernel_rfl
def p206 : T := .j (.j (.i 34 (.i (i_eql (.a 0 0) (Z 1)) (.g (.q (i_leq (Z 0) (.a 0 4)) (i_lss (.a 0 4) (.l 20))) (.g (.ag (.g 20 (.a 0 4))) (.t tI (.a (.g 20 (.a 0 4)) 3) (.i (i_gtr 35 (Z 0)) (cn 99 [.e tt, .e (Ac [2, 3, 4] e0), .e (Z 11), .r 20 14] (rt [.r 1 5, .r 36 14])) (.i (i_eql 1 (Z 1)) (cn 99 [.e (i_gtr (.l (.a 0 7)) (Z 0)), .e (Ac [2, 3, 4] e0), .e (Z 11), .r 20 14] (rt [.r 1 5, .r 36 14])) (cn 99 [.e ff, .e (Ac [2, 3, 4] e0), .e (Z 11), .r 20 14] (rt [.r 1 5, .r 36 14]))))))) (.i (i_eql 1 (Z 1)) (cn 99 [.e (i_gtr (.l (.a 0 7)) (Z 0)), .e (Ac [2, 3, 4] e0), .e (Z 11), .r 20 14] (rt [.r 1 5, .r 35 14])) (cn 99 [.e ff, .e (Ac [2, 3, 4] e0), .e (Z 11), .r 20 14] (rt [.r 1 5, .r 35 14])))) (rt [.r 1 5, .r 20 14])) (.i (i_eql (.a 0 0) (Z 1)) (.jp 0 [.e tt]) (.jp 0 [.e (i_eql (.a 0 0) (Z 2))]))) (cn 105 [.e (Ac [1, 2, 3, 4, 5] e0)] (.i (.n 20) (.i (i_eql (.a 0 0) (Z 2)) (cn 99 [.e tt, .e (Ac [2, 3, 4] e0), .e (Z 11), .r 6 14] (.jp 0 [.r 21 14])) (cn 99 [.e (i_eql (.a 0 0) (Z 4)), .e (Ac [2, 3, 4] e0), .e (Z 11), .r 6 14] (.jp 0 [.r 21 14]))) (cn 99 [.e ff, .e (Ac [2, 3, 4] e0), .e (Z 11), .r 6 14] (.jp 0 [.r 21 14]))))
set_option maxRecDepth 100000 in
theorem q206 : Eqn C sg 206 p206 := by
  intro n ds
  kernel_rfl
def p207 : T := .o 265 [.r 0 2, .e (.l 0), .e (Z 0)] (rt [.e (Z (-1))])
set_option maxRecDepth 100000 in
theorem q207 : Eqn C sg 207 p207 := by
  intro n ds
  kernel_rfl
def p208 : T := .l (.mn .i64 (.l 0) (.l 1)) (.o 266 [.r 0 3, .e (Z 0)] (rt [.e ff]))
set_option maxRecDepth 100000 in
theorem q208 : Eqn C sg 208 p208 := by
  intro n ds
  kernel_rfl
def p209 : T := .i (i_lss 3 2) (.g (.q (i_leq (Z 0) 3) (i_lss 3 (.l 0))) (.t tB (.g 0 3) (.i (.b .eql 1 4) (rt [3]) (.l (i_add 3 (Z 1)) (.tl 209 [.r 0 3, 5]))))) (.ret false [.r 0 4])
set_option maxRecDepth 100000 in
theorem q209 : Eqn C sg 209 p209 := by
  intro n ds
  kernel_rfl
def p210 : T := .j (.i 3 (.g (.q tt (i_lss (Z 0) (.l (.a 1 8)))) (.g (.ag (.g (.a 1 8) (Z 0))) (.t tI (.a (.g (.a 1 8) (Z 0)) 3) (cn 267 [0, 4, .e (.a 1 4), .e (.a 1 2), 2] (rt [5]))))) (.i (i_eql (.a 1 0) (Z 2)) (.g (.q (i_leq (Z 0) (.a 1 3)) (i_lss (.a 1 3) (.l 0))) (.t ty_sibi (.g 0 (.a 1 3)) (cn 268 [4] (cn 267 [0, .e (.a 1 3), .e (Z 0), 5, 2] (.o 269 [0, .e (.a 1 8), .e (.l (.a 1 8)), .e (Z 0), 6] (rt [11])))))) (.i (i_eql (.a 1 0) (Z 3)) (.g (.q (i_leq (Z 0) (.a 1 3)) (i_lss (.a 1 3) (.l 0))) (.t ty_sibi (.g 0 (.a 1 3)) (cn 268 [4] (cn 267 [0, .e (.a 1 3), .e (Z 0), 5, 2] (.o 269 [0, .e (.a 1 8), .e (.l (.a 1 8)), .e (Z 0), 6] (rt [11])))))) (.o 269 [0, .e (.a 1 8), .e (.l (.a 1 8)), .e (Z 0), 2] (rt [8]))))) (.i (i_eql (.a 1 0) (Z 5)) (.g (.q tt (i_lss (Z 0) (.l (.a 1 8)))) (.g (.ag (.g (.a 1 8) (Z 0))) (.t tI (.a (.g (.a 1 8) (Z 0)) 0) (.jp 0 [.e (i_eql 3 (Z 2))])))) (.jp 0 [.e ff]))
set_option maxRecDepth 100000 in
theorem q210 : Eqn C sg 210 p210 := by
  intro n ds
  kernel_rfl
def p211 : T := .i (i_lss 5 4) (.g (.q (i_leq (Z 0) 5) (i_lss 5 (.l 3))) (.t ty_iiiiibil1l9 (.g 3 5) (cn 210 [6, 47, 46] (.l (i_add 5 (Z 1)) (.tl 211 [.r 0 5, 49, .r 6 40, 48]))))) (.ret false [.r 0 47])
set_option maxRecDepth 100000 in
theorem q211 : Eqn C sg 211 p211 := by
  intro n ds
  kernel_rfl
def p212 : T := .i (i_lss 4 3) (.g (.q (i_leq (Z 0) 4) (i_lss 4 (.l 45))) (.i (.nl (.g 45 4)) (cn 99 [.e ff, .e (Ac [21, 22, 23] e0), .e (Z 16), .r 5 14] (.l (i_add 4 (Z 1)) (.tl 212 [.r 0 4, 60, .r 46 14, .r 19 27]))) (.g (.q (i_leq (Z 0) 4) (i_lss 4 (.l 19))) (.i (.nl (.g 19 4)) (cn 99 [.e ff, .e (Ac [21, 22, 23] e0), .e (Z 16), .r 5 14] (.l (i_add 4 (Z 1)) (.tl 212 [.r 0 4, 60, .r 46 14, .r 19 27]))) (.g (.q (i_leq (Z 0) 4) (i_lss 4 (.l 19))) (.i (.nl (.g 19 4)) (cn 101 [.e (.k (.lst 1 [])), .e ff] (cn 99 [46, .e (Ac [21, 22, 23] e0), .e (Z 16), .r 5 14] (.l (i_add 4 (Z 1)) (.tl 212 [.r 0 4, 61, .r 47 14, .r 19 27])))) (cp 101 [.e (.ls 1 (.g 19 4)), .e ff] (cn 99 [46, .e (Ac [21, 22, 23] e0), .e (Z 16), .r 5 14] (.l (i_add 4 (Z 1)) (.tl 212 [.r 0 4, 61, .r 47 14, .r 19 27])))))))))) (.ret false [.r 0 46])
set_option maxRecDepth 100000 in
theorem q212 : Eqn C sg 212 p212 := by
  intro n ds
  kernel_rfl
def p213 : T := .g (.q (.q (i_leq (Z 0) (.l 0)) (i_leq (.l 0) (.l 0))) (i_leq (.l 0) (Z 68719476736))) (.l (.rp 1 (.l 0) (.k (.nils 4 1))) (.o 270 [.e (.l 0), .e (Z 0), .r 0 2] (rt [.r 4 2])))
set_option maxRecDepth 100000 in
theorem q213 : Eqn C sg 213 p213 := by
  intro n ds
  kernel_rfl
def p214 : T := .i (i_lss 4 3) (.g (.q (i_leq (Z 0) 4) (i_lss 4 (.l 19))) (.i (.nl (.g 19 4)) (.o 271 [4, .r 0 5, .e (Z 0), .e (Z 0), .r 5 22] (.l (i_add 32 (Z 1)) (.tl 214 [.r 28 4, 57, .r 35 22]))) (.o 271 [4, .r 0 5, .e (.l (.ls 1 (.g 19 4))), .e (Z 0), .r 5 22] (.l (i_add 32 (Z 1)) (.tl 214 [.r 28 4, 57, .r 35 22]))))) (.ret false [.r 0 27])
set_option maxRecDepth 100000 in
theorem q214 : Eqn C sg 214 p214 := by
  intro n ds
  kernel_rfl
def p215 : T := .l (i_add 29 30) (.g (.q (i_leq (Z 0) 28) (i_lss 28 (.l 18))) (.i (.nl (.g 18 28)) (.l (.mn .i64 44 (Z 0)) (.i (i_lss 0 45) (.g (.q (i_leq (Z 0) 28) (i_lss 28 (.l 18))) (.i (.nl (.g 18 28)) .no (.g (.q (i_leq (Z 0) 0) (i_lss 0 (.l (.ls 1 (.g 18 28))))) (.g (.nt 0 (.ls 1 (.g 18 28))) (.l (.st 1 18 28 (.st 1 (.ls 1 (.g 18 28)) 0 tt)) (.l (i_add 0 (Z 1)) (.tl 215 [47, .r 1 17, 46, .r 19 25]))))))) (.ret false [.r 0 44]))) (.l (.mn .i64 44 (.l (.ls 1 (.g 18 28)))) (.i (i_lss 0 45) (.g (.q (i_leq (Z 0) 28) (i_lss 28 (.l 18))) (.i (.nl (.g 18 28)) .no (.g (.q (i_leq (Z 0) 0) (i_lss 0 (.l (.ls 1 (.g 18 28))))) (.g (.nt 0 (.ls 1 (.g 18 28))) (.l (.st 1 18 28 (.st 1 (.ls 1 (.g 18 28)) 0 tt)) (.l (i_add 0 (Z 1)) (.tl 215 [47, .r 1 17, 46, .r 19 25]))))))) (.ret false [.r 0 44])))))
set_option maxRecDepth 100000 in
theorem q215 : Eqn C sg 215 p215 := by
  intro n ds
  kernel_rfl
def p216 : T := .j (.i 16 (rt [.e ff, .r 2 14]) (.o 272 [.r 0 2, .e (.l 2), .e (Z 0), .r 2 14] (rt [.e ff, .r 21 14]))) (.g (.q (i_leq (Z 0) 0) (i_lss 0 (.l 6))) (.t ty_iiiil20 (.g 6 0) (cn 105 [16] (.i 17 (.jp 0 [.e tt]) (.g (.q (i_leq (Z 0) 1) (i_lss 1 (.l 6))) (.t ty_iiiil20 (.g 6 1) (cn 105 [18] (.i 19 (.jp 0 [.e tt]) (.i (i_eql 0 1) (.g (.q (i_leq (Z 0) 1) (i_lss 1 (.l 6))) (.g (.ag (.g 6 1)) (.t tI (.a (.g 6 1) 0) (.jp 0 [.e (i_eql 20 (Z 2))])))) (.jp 0 [.e ff]))))))))))
set_option maxRecDepth 100000 in
theorem q216 : Eqn C sg 216 p216 := by
  intro n ds
  kernel_rfl
def p217 : T := .i (i_lss 2 1) (.g (.q (i_leq (Z 0) 2) (i_lss 2 (.l 0))) (.t ty_iil1 (.g 0 2) (cn 273 [6, .r 3 3] (.i 7 (rt [2, .r 8 3]) (.l (i_add 2 (Z 1)) (.tl 217 [.r 0 2, 11, .r 8 3])))))) (.ret false [.r 0 6])
set_option maxRecDepth 100000 in
theorem q217 : Eqn C sg 217 p217 := by
  intro n ds
  kernel_rfl
def p218 : T := cn 230 [.e (.k (.str [32, 9, 13, 10])), 0] (rt [.e (i_geq 1 (Z 0))])
set_option maxRecDepth 100000 in
theorem q218 : Eqn C sg 218 p218 := by
  intro n ds
  kernel_rfl
def p219 : T := .i (i_lss 2 1) (.l (i_add 5 (Z 1)) (.g (.q (i_leq (Z 0) 2) (i_lss 2 (.sl 0))) (.l (.sb 0 2) (.i (.i .eql .u8 10 (.k (.int .u8 10))) (.l (i_add 4 (Z 1)) (.l (i_add 2 (Z 1)) (.tl 219 [.r 0 2, 12, 3, 11, .e (Z 1), .r 6 3]))) (.l (i_add 2 (Z 1)) (.tl 219 [.r 0 2, 11, .r 3 2, 9, .r 6 3])))))) (.ret false [.r 0 9])
set_option maxRecDepth 100000 in
theorem q219 : Eqn C sg 219 p219 := by
  intro n ds
  kernel_rfl
def p220 : T := .i (i_lss 1 (.sl 0)) (.g (.q (i_leq (Z 0) 1) (i_lss 1 (.sl 0))) (.l (.sb 0 1) (cn 274 [2] (.i 3 (.l (i_add 1 (Z 1)) (.tl 220 [0, 4])) (.ret false [.r 0 2]))))) (.ret false [.r 0 2])
set_option maxRecDepth 100000 in
theorem q220 : Eqn C sg 220 p220 := by
  intro n ds
  kernel_rfl
def p221 : T := .o 275 [0, .e (Z 0)] (rt [2])
set_option maxRecDepth 100000 in
theorem q221 : Eqn C sg 221 p221 := by
  intro n ds
  kernel_rfl
def p222 : T := .o 276 [0, .e (Z 0)] (rt [2])
set_option maxRecDepth 100000 in
theorem q222 : Eqn C sg 222 p222 := by
  intro n ds
  kernel_rfl
def p224 : T := cn 225 [0, .e (Z 10)] (.i (i_neq 1 (Z 0)) (rt [.e (.k (.agg [.int .i64 0, .lst 1 [], .bool false, .bool false])), 1]) (cp 226 [2, .e (Z 2147483648)] (cn 277 [3] (rt [.r 4 2]))))
set_option maxRecDepth 100000 in
theorem q224 : Eqn C sg 224 p224 := by
  intro n ds
  kernel_rfl
def p225 : T := .i (sE_ 0 (.k (.str []))) (rt [.e (Z 6), .e (.k (.lst 1 []))]) (.o 278 [.r 0 2, .e (.sl 0), .e (Z 0), .e (.k (.lst 1 []))] (rt [.e (Z 0), 6]))
set_option maxRecDepth 100000 in
theorem q225 : Eqn C sg 225 p225 := by
  intro n ds
  kernel_rfl
def p226 : T := .o 279 [1, .e (Z 0), 0, .e (.l 0), .e (Z 0)] (rt [3])
set_option maxRecDepth 100000 in
theorem q226 : Eqn C sg 226 p226 := by
  intro n ds
  kernel_rfl
def p227 : T := .j (.i 1 (.g (.q (.q tt (i_leq (Z 1) (.sl 0))) (i_leq (.sl 0) (.sl 0))) (.l (.ds 0 (Z 1) (.sl 0)) (.i (sE_ 2 (.k (.str []))) (rt [.e (.k (.str [])), .e (Z 0), .e ff, .e (Z 6)]) (.g (.q tt (i_lss (Z 0) (.sl 2))) (.l (.sb 2 (Z 0)) (cn 280 [3] (.i (i_eql 4 (Z 0)) (rt [.e (.k (.str [])), .e (Z 0), .e ff, .e (Z 5)]) (.g (.q (.q tt (i_leq (Z 1) (.sl 2))) (i_leq (.sl 2) (.sl 2))) (.l (.ds 2 (Z 1) (.sl 2)) (rt [5, 4, 1, .e (Z 0)])))))))))) (.i (sE_ 0 (.k (.str []))) (rt [.e (.k (.str [])), .e (Z 0), .e ff, .e (Z 6)]) (.g (.q tt (i_lss (Z 0) (.sl 0))) (.l (.sb 0 (Z 0)) (cn 280 [2] (.i (i_eql 3 (Z 0)) (rt [.e (.k (.str [])), .e (Z 0), .e ff, .e (Z 5)]) (.g (.q (.q tt (i_leq (Z 1) (.sl 0))) (i_leq (.sl 0) (.sl 0))) (.l (.ds 0 (Z 1) (.sl 0)) (rt [4, 3, 1, .e (Z 0)]))))))))) (.i (.s .neq 0 (.k (.str []))) (.g (.q tt (i_lss (Z 0) (.sl 0))) (.l (.sb 0 (Z 0)) (.l (.i .or .u8 1 (.k (.int .u8 32))) (.jp 0 [.e (.i .eql .u8 2 (.k (.int .u8 115)))])))) (.jp 0 [.e ff]))
set_option maxRecDepth 100000 in
theorem q227 : Eqn C sg 227 p227 := by
  intro n ds
  kernel_rfl
def p228 : T := cn 130 [2, .e (.k (.lst 1 []))] (.l (.cv .u64 1) (cn 130 [2, .e (Ls 1 [5])] (.o 281 [2, 0, .e (.l 0), .e (Z 0), .e (Z 0), .e (.a 3 0), .e (.a 3 1), .e (.a 6 0), .e (.a 6 1), .e (.k (.lst 1 []))] (rt [.e (Ac [13, 14] e0)]))))
set_option maxRecDepth 100000 in
theorem q228 : Eqn C sg 228 p228 := by
  intro n ds
  kernel_rfl
def p229 : T := .i (i_gtr 1 (Z 1)) (.g (.q (.q tt (i_leq (Z 0) 1)) (i_leq 1 (.sl 0))) (.l (.ds 0 (Z 0) 1) (cn 171 [2, .e (.k (.str [32]))] (.i (.n 3) (.g (.q (.q tt (i_leq (Z 0) 1)) (i_leq 1 (.sl 0))) (.l (.ds 0 (Z 0) 1) (.g (.rs (.k (.str [32])) 4) (.l (.s .add (.k (.str [32])) 4) (.g (.rs 5 (.k (.str [32]))) (.l (.s .add 5 (.k (.str [32]))) (cn 171 [.e (.k (.str [32, 60, 60, 60, 32, 62, 62, 62, 32, 60, 60, 32, 62, 62, 32, 60, 61, 32, 62, 61, 32, 61, 61, 32, 33, 61, 32, 38, 38, 32, 124, 124, 32, 126, 38, 32, 126, 124, 32, 126, 94, 32, 94, 126, 32])), 6] (.i 7 (rt [1]) (.l (i_sub 1 (Z 1)) (.tl 229 [0, 8])))))))))) (.l (i_sub 1 (Z 1)) (.tl 229 [0, 4])))))) (.ret false [.r 0 2])
set_option maxRecDepth 100000 in
theorem q229 : Eqn C sg 229 p229 := by
  intro n ds
  kernel_rfl
def p230 : T := cn 282 [.r 0 2] (rt [2])
set_option maxRecDepth 100000 in
theorem q230 : Eqn C sg 230 p230 := by
  intro n ds
  kernel_rfl
def p231 : T := .l (i_add 2 (Z 1)) (.i (i_gtr 8 (Z 40)) (cn 283 [.e (Z 8), .r 0 2, 8, .r 3 5] (rt [.e (i_eql 16 (Z 0)), .r 9 8])) (rt [.e (i_eql 7 (Z 0)), .r 0 2, 8, .r 3 5]))
set_option maxRecDepth 100000 in
theorem q231 : Eqn C sg 231 p231 := by
  intro n ds
  kernel_rfl
def p232 : T := .l (i_sub 2 (Z 1)) (rt [.r 0 2, 8, .r 3 5])
set_option maxRecDepth 100000 in
theorem q232 : Eqn C sg 232 p232 := by
  intro n ds
  kernel_rfl
def p233 : T := .i (i_eql 0 (Z 10)) (cn 284 [.r 1 8] (rt [.r 9 9])) (cn 33 [.r 1 8] (.l (i_add 0 (Z 1)) (cn 233 [18, .r 10 8] (.o 285 [0, .r 20 8, .e (Z 0), .e (Z 0), .e (Z 0), .e (Z 0), .e (.k (.str [])), .e (.a 9 2), .e (.a 9 3), .e (.a 9 4), .e (.a 19 0), .e (.a 19 1), .e (.a 19 2), .e (.a 19 3), .e (.a 19 4), .e (.a 19 5), .e (.k (.lst 6 []))] (rt [.e (Ac [45, 46, 47, 48, 49, 50] e0), .r 29 8])))))
set_option maxRecDepth 100000 in
theorem q233 : Eqn C sg 233 p233 := by
  intro n ds
  kernel_rfl
def p234 : T := cn 63 [.e (.k (.str [91])), .r 0 8] (.i (.n 8) (rt [.r 9 8, .e (.k (.lst 6 []))]) (cn 172 [.r 9 8] (cn 61 [.e (.k (.lst 1 [.str [58]])), .r 18 8] (cn 172 [.r 26 8] (cn 61 [.e (.k (.lst 1 [.str [93]])), .r 35 8] (rt [.r 43 8, .e (Ls 6 [17, 34])]))))))
set_option maxRecDepth 100000 in
theorem q234 : Eqn C sg 234 p234 := by
  intro n ds
  kernel_rfl
def p235 : T := .l (i_add 3 (Z 1)) (.i (i_gtr 8 (Z 4000)) (cn 283 [.e (Z 19), .r 0 3, 8, .r 4 4] (rt [.r 9 8])) (rt [.r 0 3, 8, .r 4 4]))
set_option maxRecDepth 100000 in
theorem q235 : Eqn C sg 235 p235 := by
  intro n ds
  kernel_rfl
def p236 : T := cn 33 [.r 0 8] (cn 62 [.r 9 8] (cn 63 [.e (.k (.str [91])), .r 18 8] (.i (.n 26) (rt [.e (Ac [Z 2, .a 8 2, .a 8 3, .a 8 4, 17, .k (.lst 6 [])] e0), .r 27 8]) (cn 172 [.r 27 8] (cn 63 [.e (.k (.str [58])), .r 36 8] (.i 44 (cn 172 [.r 45 8] (cn 61 [.e (.k (.lst 1 [.str [93]])), .r 54 8] (rt [.e (Ac [Z 9, .a 8 2, .a 8 3, .a 8 4, 17, Ls 6 [35, 53]] e0), .r 62 8]))) (cn 61 [.e (.k (.lst 1 [.str [93]])), .r 45 8] (rt [.e (Ac [Z 8, .a 8 2, .a 8 3, .a 8 4, 17, Ls 6 [35]] e0), .r 53 8]))))))))
set_option maxRecDepth 100000 in
theorem q236 : Eqn C sg 236 p236 := by
  intro n ds
  kernel_rfl
def p237 : T := cn 61 [.e (.k (.lst 1 [.str [64]])), .r 1 8] (cn 63 [.e (.k (.str [42])), .r 9 8] (.i (.n 17) (cn 61 [.e (.k (.lst 1 [.str [40]])), .r 18 8] (cn 63 [.e (.k (.str [112, 111, 115, 101, 100, 103, 101])), .r 26 8] (.i 34 (cn 62 [.r 35 8] (cn 61 [.e (.k (.lst 1 [.str [41]])), .r 44 8] (cn 286 [.r 52 8] (rt [.e (Ac [Z 6] (.aa 0 (Ac [43, .k (.str []), ff, .k (.lst 6 []), .k (.lst 6 []), Ls 8 [60], .k (.lst 14 []), .k (.lst 14 []), .k (.lst 5 []), .k (.lst 5 [])] e0))), .r 61 8])))) (cn 61 [.e (.k (.lst 1 [.str [42]])), .r 35 8] (cn 61 [.e (.k (.lst 1 [.str [41]])), .r 43 8] (cn 286 [.r 51 8] (rt [.e (Ac [Z 5] (.aa 0 (Ac [.k (.str []), .k (.str []), ff, .k (.lst 6 []), .k (.lst 6 []), Ls 8 [59], .k (.lst 14 []), .k (.lst 14 []), .k (.lst 5 []), .k (.lst 5 [])] e0))), .r 60 8]))))))) (cn 286 [.r 18 8] (rt [.e (Ac [Z 5] (.aa 0 (Ac [.k (.str []), .k (.str []), ff, .k (.lst 6 []), .k (.lst 6 []), Ls 8 [26], .k (.lst 14 []), .k (.lst 14 []), .k (.lst 5 []), .k (.lst 5 [])] e0))), .r 27 8]))))
set_option maxRecDepth 100000 in
theorem q237 : Eqn C sg 237 p237 := by
  intro n ds
  kernel_rfl
def p238 : T := cn 63 [.e (.k (.str [115, 105, 103, 110, 101, 100])), .r 1 8] (cn 234 [.r 10 8] (cn 62 [.r 18 8] (cn 61 [.e (.k (.lst 1 [.str [59]])), .r 28 8] (.o 287 [.r 36 8, .e (Z 0), .e (Z 0), .e (Z 0), .e (Z 0), .e (.k (.str [])), .e (.k (.str [])), .e ff, .e (Z 7), .e (.a 0 0), .e (.a 0 1), .e (.a 0 2), 27, .e (.k (.str [])), 9, .e (.k (.lst 6 [])), .e (.k (.lst 6 [])), .e (.k (.lst 8 [])), .e (.k (.lst 14 [])), .e (.k (.lst 14 [])), .e (.k (.lst 5 [])), .e (.k (.lst 5 [])), 26, .e (.k (.lst 6 [])), .e (.k (.lst 8 [])), .e (.k (.lst 14 [])), .e (.k (.lst 14 [])), .e (.k (.lst 5 [])), .e (.k (.lst 5 []))] (cn 286 [.r 44 8] (cn 61 [.e (.k (.lst 1 [.str [101, 110, 100, 102, 117, 110, 99, 116, 105, 111, 110]])), .r 81 8] (rt [.e (Ac [59, 60, 61, 62, 63, 64, 65, 73, 74, Ls 8 [80], 76, 77, 78, 79] e0), .r 89 8])))))))
set_option maxRecDepth 100000 in
theorem q238 : Eqn C sg 238 p238 := by
  intro n ds
  kernel_rfl
def p239 : T := cn 61 [.e (.k (.lst 1 [.str [40]])), .r 0 8] (cn 62 [.r 8 8] (cn 61 [.e (.k (.lst 1 [.str [61]])), .r 17 8] (cn 172 [.r 25 8] (cn 61 [.e (.k (.lst 1 [.str [59]])), .r 34 8] (cn 172 [.r 42 8] (cn 61 [.e (Ls 1 [.k (.str [59]), 16, .k (.str [61])]), .r 51 8] (cn 172 [.r 59 8] (cn 61 [.e (.k (.lst 1 [.str [41]])), .r 68 8] (rt [16, .r 76 8, .e (Ls 6 [33, 50, 67])])))))))))
set_option maxRecDepth 100000 in
theorem q239 : Eqn C sg 239 p239 := by
  intro n ds
  kernel_rfl
def p240 : T := cn 33 [.r 0 8] (cn 61 [.e (.k (.lst 1 [.str [98, 101, 103, 105, 110], .str [58]])), .r 9 8] (cn 62 [.r 17 8] (cn 66 [.e (.k (.str [101, 110, 100])), .r 26 8] (rt [.r 34 8, .e (Ls 14 [Ac [Z 11, .a 8 2, .a 8 3, .a 8 4, 25, .k (.str []), ff, .k (.lst 6 []), .k (.lst 6 []), .k (.lst 8 []), 42, .k (.lst 14 []), .k (.lst 5 []), .k (.lst 5 [])] e0])]))))
set_option maxRecDepth 100000 in
theorem q240 : Eqn C sg 240 p240 := by
  intro n ds
  kernel_rfl
def p241 : T := cn 61 [.e (.k (.lst 1 [.str [40]])), .r 0 8] (cn 172 [.r 8 8] (cn 61 [.e (.k (.lst 1 [.str [41]])), .r 17 8] (rt [16, .r 25 8])))
set_option maxRecDepth 100000 in
theorem q241 : Eqn C sg 241 p241 := by
  intro n ds
  kernel_rfl
def p242 : T := cn 62 [.r 1 8] (cn 63 [.e (.k (.str [35])), .r 10 8] (.i 18 (cn 288 [.r 19 8] (cn 62 [.r 27 8] (cn 288 [.r 37 8] (cn 61 [.e (.k (.lst 1 [.str [59]])), .r 45 8] (rt [.e (Ac [Z 8] (.aa 0 (Ac [36, 9, ff, .k (.lst 6 []), .k (.lst 6 []), .k (.lst 8 []), .k (.lst 14 []), .k (.lst 14 []), 35, 53] e0))), .r 54 8]))))) (cn 62 [.r 19 8] (cn 288 [.r 28 8] (cn 61 [.e (.k (.lst 1 [.str [59]])), .r 36 8] (rt [.e (Ac [Z 8] (.aa 0 (Ac [27, 9, ff, .k (.lst 6 []), .k (.lst 6 []), .k (.lst 8 []), .k (.lst 14 []), .k (.lst 14 []), .k (.lst 5 []), 44] e0))), .r 45 8]))))))
set_option maxRecDepth 100000 in
theorem q242 : Eqn C sg 242 p242 := by
  intro n ds
  kernel_rfl
def p243 : T := rt [.e (sE_ (.a 0 0) 1), 1]
set_option maxRecDepth 100000 in
theorem q243 : Eqn C sg 243 p243 := by
  intro n ds
  kernel_rfl
def p244 : T := cn 109 [.e (Ac [.a 0 0, .a 0 1] e0)] (.i (i_eql 1 (Z 0)) (rt [.e (Z 0), .e (Z 2)]) (.j (.i 2 (cn 290 [.e (Z 1), .e (Ac [.a 0 0, .a 0 1] e0)] (cn 291 [3, .e (Z 2147483649)] (.i 2 (.i (i_leq 5 (Z 2147483648)) (.l (i_sub (.k (.int .i64 0)) 5) (rt [6, .e (Z 0)])) (.i 2 (rt [.e (Z 0), .e (Z 3)]) (.i (i_geq 5 (Z 2147483648)) (rt [.e (Z 0), .e (Z 3)]) (rt [5, .e (Z 0)])))) (.i 2 (rt [.e (Z 0), .e (Z 3)]) (.i (i_geq 5 (Z 2147483648)) (rt [.e (Z 0), .e (Z 3)]) (rt [5, .e (Z 0)])))))) (cn 291 [.e (Ac [.a 0 0, .a 0 1] e0), .e (Z 2147483649)] (.i 2 (.i (i_leq 3 (Z 2147483648)) (.l (i_sub (.k (.int .i64 0)) 3) (rt [4, .e (Z 0)])) (.i 2 (rt [.e (Z 0), .e (Z 3)]) (.i (i_geq 3 (Z 2147483648)) (rt [.e (Z 0), .e (Z 3)]) (rt [3, .e (Z 0)])))) (.i 2 (rt [.e (Z 0), .e (Z 3)]) (.i (i_geq 3 (Z 2147483648)) (rt [.e (Z 0), .e (Z 3)]) (rt [3, .e (Z 0)])))))) (.i (.a 0 2) (.l (i_sub 1 (Z 1)) (cn 289 [.e (Ac [.a 0 0, .a 0 1] e0), 2] (.jp 0 [3]))) (.jp 0 [.e ff]))))
set_option maxRecDepth 100000 in
theorem q244 : Eqn C sg 244 p244 := by
  intro n ds
  kernel_rfl
def p245 : T := .i 0 (rt [.e (Z 1)]) (rt [.e (Z 0)])
set_option maxRecDepth 100000 in
theorem q245 : Eqn C sg 245 p245 := by
  intro n ds
  kernel_rfl
def p246 : T := .i (sE_ (.a 0 4) (.k (.str [43]))) (.l (i_add 1 2) (rt [8, .r 3 5])) (.i (sE_ (.a 0 4) (.k (.str [45]))) (.l (i_sub 1 2) (rt [8, .r 3 5])) (.i (sE_ (.a 0 4) (.k (.str [42]))) (.l (i_mul 1 2) (rt [8, .r 3 5])) (.i (sE_ (.a 0 4) (.k (.str [47]))) (.i (.ez 2) .no (.l (i_quo 1 2) (rt [8, .r 3 5]))) (.i (sE_ (.a 0 4) (.k (.str [37]))) (.i (.ez 2) .no (.l (i_rem 1 2) (rt [8, .r 3 5]))) (.i (sE_ (.a 0 4) (.k (.str [38]))) (.l (i_and 1 2) (rt [8, .r 3 5])) (.i (sE_ (.a 0 4) (.k (.str [124]))) (.l (i_or 1 2) (rt [8, .r 3 5])) (.i (sE_ (.a 0 4) (.k (.str [94]))) (.l (i_xor 1 2) (rt [8, .r 3 5])) (.i (sE_ (.a 0 4) (.k (.str [126, 94]))) (.l (i_xor 1 2) (.l (.cm .i64 8) (rt [9, .r 3 5]))) (.j (.i 8 (.i (i_lss 2 (Z 0)) .no (.l (i_shl 1 2) (rt [9, .r 3 5]))) (.j (.i 9 (.i (i_lss 2 (Z 0)) .no (.l (i_shr 1 2) (rt [10, .r 3 5]))) (.i (sE_ (.a 0 4) (.k (.str [60]))) (cn 245 [.e (i_lss 1 2)] (rt [10, .r 3 5])) (.i (sE_ (.a 0 4) (.k (.str [60, 61]))) (cn 245 [.e (i_leq 1 2)] (rt [10, .r 3 5])) (.i (sE_ (.a 0 4) (.k (.str [62]))) (cn 245 [.e (i_gtr 1 2)] (rt [10, .r 3 5])) (.i (sE_ (.a 0 4) (.k (.str [62, 61]))) (cn 245 [.e (i_geq 1 2)] (rt [10, .r 3 5])) (.i (sE_ (.a 0 4) (.k (.str [61, 61]))) (cn 245 [.e (i_eql 1 2)] (rt [10, .r 3 5])) (.i (sE_ (.a 0 4) (.k (.str [33, 61]))) (cn 245 [.e (i_neq 1 2)] (rt [10, .r 3 5])) (.i (sE_ (.a 0 4) (.k (.str [38, 38]))) (cn 245 [.e (i_neq 2 (Z 0))] (rt [10, .r 3 5])) (.i (sE_ (.a 0 4) (.k (.str [124, 124]))) (cn 245 [.e (i_neq 2 (Z 0))] (rt [10, .r 3 5])) (cn 178 [.e (Ac [.a 0 1, .a 0 2, .a 0 3] e0), .e (Z 12), .r 3 5] (rt [.r 10 6]))))))))))) (.i (sE_ (.a 0 4) (.k (.str [62, 62]))) (.jp 0 [.e tt]) (.jp 0 [.e (sE_ (.a 0 4) (.k (.str [62, 62, 62])))])))) (.i (sE_ (.a 0 4) (.k (.str [60, 60]))) (.jp 0 [.e tt]) (.jp 0 [.e (sE_ (.a 0 4) (.k (.str [60, 60, 60])))])))))))))))
set_option maxRecDepth 100000 in
theorem q246 : Eqn C sg 246 p246 := by
  intro n ds
  kernel_rfl
def p247 : T := .i (i_lss 1 0) (.g (.q (i_leq (Z 0) 1) (i_lss 1 (.l 2))) (.t ty_siisibil4ibiiiiibil1l9 (.g 2 1) (cn 248 [22, .r 3 19] (.i 23 (rt [.r 1 2, .r 24 19]) (.l (i_add 1 (Z 1)) (.tl 247 [0, 43, 2, .r 24 19])))))) (.ret false [.r 0 22])
set_option maxRecDepth 100000 in
theorem q247 : Eqn C sg 247 p247 := by
  intro n ds
  kernel_rfl
def p248 : T := rt [.e (sE_ (.a 0 0) 1), .r 1 19]
set_option maxRecDepth 100000 in
theorem q248 : Eqn C sg 248 p248 := by
  intro n ds
  kernel_rfl
def p249 : T := .l (i_add 0 (Z 64)) (.l (i_sub 1 (Z 1)) (.l (i_quo 2 (Z 64)) (rt [3])))
set_option maxRecDepth 100000 in
theorem q249 : Eqn C sg 249 p249 := by
  intro n ds
  kernel_rfl
def p250 : T := cn 292 [.e (.a 0 0), 1] (.i (i_lss 2 (Z 0)) (rt [.e (.k (.agg [.str [], .int .i64 0, .int .i64 0, .str [], .int .i64 0, .bool false, .int .i64 0, .lst 4 [], .int .i64 0, .bool false, .int .i64 0, .int .i64 0, .int .i64 0, .int .i64 0, .int .i64 0, .bool false, .int .i64 0, .lst 1 [], .lst 9 []]))]) (.g (.q (i_leq (Z 0) 2) (i_lss 2 (.l (.a 0 0)))) (.t ty_siisibil4ibiiiiibil1l9 (.g (.a 0 0) 2) (rt [4]))))
set_option maxRecDepth 100000 in
theorem q250 : Eqn C sg 250 p250 := by
  intro n ds
  kernel_rfl
def p251 : T := cn 293 [0, .r 2 7] (.l (.mx .i64 (.a 9 0) 1) (cn 294 [0, .e (Ac [17, .a 9 1] e0), .r 10 7] (.i (i_neq 24 (Z 0)) (rt [.r 18 8]) (.i (i_eql 1 (Z 0)) (rt [.r 18 8]) (cn 295 [18, .e (Z 0), 1] (rt [26, .r 19 7]))))))
set_option maxRecDepth 100000 in
theorem q251 : Eqn C sg 251 p251 := by
  intro n ds
  kernel_rfl
def p252 : T := cn 296 [0, .e (Z 0)] (rt [1])
set_option maxRecDepth 100000 in
theorem q252 : Eqn C sg 252 p252 := by
  intro n ds
  kernel_rfl
def p253 : T := .i (i_eql 7 (Z 0)) (rt [.r 2 2, .e (.a 0 0), .e (.a 0 1), .e (.a 0 2), 1, 8]) (rt [.r 2 7])
set_option maxRecDepth 100000 in
theorem q253 : Eqn C sg 253 p253 := by
  intro n ds
  kernel_rfl
end Go.Proofs.YtpmjplpnpnmlcaaGreatDoor
