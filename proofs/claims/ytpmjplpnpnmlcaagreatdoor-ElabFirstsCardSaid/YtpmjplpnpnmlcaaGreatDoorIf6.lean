import Derived.Test.YtpmjplpnpnmlcaaGreatDoorIf0
import Derived.KernelRfl
set_option linter.all false
namespace Go.Proofs.YtpmjplpnpnmlcaaGreatDoor
open Go.AE
def p254 : T := .o 297 [.e ff, .e (.a 0 7), .e (.l (.a 0 7)), .e (Z 0), .r 1 16, .e (.a 0 0), .e (.a 0 1), .e (.a 0 2), .e (.a 0 3), .e (.a 0 4), .e (.a 0 5), .e (.a 0 6), .e (.a 0 7), .e (.k (.lst 9 [])), .e (.k (.lst 1 [])), .e (.k (.lst 20 [])), .r 17 6] (.l (i_sub (.l 51) (Z 1)) (.o 298 [60, .r 27 33] (rt [.r 62 16, .r 89 6, 88])))
set_option maxRecDepth 100000 in
theorem q254 : Eqn C sg 254 p254 := by
  intro n ds
  kernel_rfl
def p255 : T := cp 41 [23, 1] (.i (.n 34) (cn 42 [0, .e (Z 9), .r 16 7, .r 25 2, .r 28 6] (rt [.r 3 13, .r 35 7, .r 23 2, .r 42 2, 27, .r 44 6])) (.g (.q tt (i_lss (Z 0) (.l 2))) (.t ty_iiiisl6 (.g 2 (Z 0)) (cn 83 [35, .r 3 5, .r 16 11, .r 28 6] (.o 299 [.r 1 2, 36, .e (Z 0), .r 37 5, .r 8 8, .r 42 11, .e (.a 0 0), .e (.a 0 1), .e (.a 0 2), 27, .r 53 6] (rt [.r 63 24, .r 90 7]))))))
set_option maxRecDepth 100000 in
theorem q255 : Eqn C sg 255 p255 := by
  intro n ds
  kernel_rfl
def p256 : T := .j (.g (.rs 4 23) (.l (.s .add 4 23) (.g (.rs 24 (.k (.str [35]))) (.l (.s .add 24 (.k (.str [35]))) (cn 300 [.e (.l 20)] (.g (.rs 25 26) (.l (.s .add 25 26) (.g (.rm 20 (.k (dm 1))) (.l (.ap 1 20 (Ls 1 [27])) (rt [.e (.l 20), .r 1 19, 28, .r 21 2])))))))))) (.i (sE_ 0 (.k (.str []))) (.jp 0 [.e (.k (.str [97, 115, 115, 101, 114, 116]))]) (.jp 0 [0]))
set_option maxRecDepth 100000 in
theorem q256 : Eqn C sg 256 p256 := by
  intro n ds
  kernel_rfl
def p257 : T := cn 301 [1, 0] (.i (i_eql 2 (Z (-1))) (rt [4, 3]) (.l (i_add 2 (Z 1)) (.o 302 [2, 5, 4, 3] (.g (.q (.q (i_leq (Z 0) 6) (i_leq 6 (.l 9))) (i_leq (.l 9) (.l 9))) (.g (.nz (.na 6 (.ns (.l 9) 6)) 9) (.l (.cl 19 9 6 (.ns (.l 9) 6) (.k (.agg [.str [], .int .i64 0, .int .i64 0, .str [], .int .i64 0, .bool false, .int .i64 0, .lst 4 [], .int .i64 0, .bool false, .int .i64 0, .int .i64 0, .int .i64 0, .int .i64 0, .int .i64 0, .bool false, .int .i64 0, .lst 1 [], .lst 9 []]))) (.g (.q (i_leq (Z 0) 6) (i_leq 6 (.l 10))) (.l (.tk 19 10 6) (rt [8, 11])))))))))
set_option maxRecDepth 100000 in
theorem q257 : Eqn C sg 257 p257 := by
  intro n ds
  kernel_rfl
def p258 : T := cn 303 [.e (Ac [.a 0 1, .a 0 2, .a 0 3] e0), .r 1 16, .r 18 6] (.i (i_eql (.a 0 0) (Z 1)) (cn 143 [.e (.a 0 6), .r 24 16, 17, .r 40 6] (rt [.r 46 23])) (.i (i_eql (.a 0 0) (Z 2)) (cn 304 [0, .r 24 16, 17, .r 40 6] (rt [.r 46 23])) (.i (i_eql (.a 0 0) (Z 4)) (.g (.q tt (i_lss (Z 0) (.l (.a 0 5)))) (.t ty_iiiisl6 (.g (.a 0 5) (Z 0)) (cn 305 [46, .e (Z 0), .r 24 16, 17, .r 40 6] (cn 306 [47] (cn 307 [.e (Ac [.a 0 1, .a 0 2, .a 0 3] e0), 71, .e (.a 0 0), .e (.a 0 1), .e (.a 0 2), .e (.a 0 3), .e (.a 0 4), .e (.a 0 5), .e (.a 0 6), .e (.a 0 7), .r 48 23] (rt [.r 80 23])))))) (.i (i_eql (.a 0 0) (Z 5)) (cn 308 [0, .e (.a 0 7), .r 24 16, 17, .r 40 6] (rt [.r 46 23])) (.i (i_eql (.a 0 0) (Z 6)) (cn 309 [.e (Ac [.a 0 1, .a 0 2, .a 0 3] e0), .e (.a 0 4), .e (.a 0 5), .r 24 4, .e (.a 0 0), .e (.a 0 1), .e (.a 0 2), .e (.a 0 3), .e (.a 0 4), .e (.a 0 5), .e (.a 0 6), .e (.a 0 7), .r 28 18, 17] (rt [.r 46 4, .r 58 12, 76, .r 70 6])) (.i (i_eql (.a 0 0) (Z 8)) (rt [.r 24 16, 17, .r 40 6]) (cn 42 [.e (Ac [.a 0 1, .a 0 2, .a 0 3] e0), .e (Z 11), .r 28 7, .r 38 8] (rt [.r 24 4, .r 46 7, .r 35 3, .r 53 2, 17, .r 55 6]))))))))
set_option maxRecDepth 100000 in
theorem q258 : Eqn C sg 258 p258 := by
  intro n ds
  kernel_rfl
def p259 : T := cn 310 [.r 0 6] (rt [.e (i_geq 6 (Z 0)), .r 7 5])
set_option maxRecDepth 100000 in
theorem q259 : Eqn C sg 259 p259 := by
  intro n ds
  kernel_rfl
def p260 : T := .i (i_lss 2 1) (.g (.q (i_leq (Z 0) 2) (i_lss 2 (.l 0))) (.t ty_siiil6 (.g 0 2) (cn 311 [17, .r 3 14] (.i 18 (rt [2, .r 19 14]) (.l (i_add 2 (Z 1)) (.tl 260 [.r 0 2, 33, .r 19 14])))))) (.ret false [.r 0 17])
set_option maxRecDepth 100000 in
theorem q260 : Eqn C sg 260 p260 := by
  intro n ds
  kernel_rfl
def p261 : T := cn 21 [0, .r 8 13, .r 23 9] (.i (i_neq 43 (Z 0)) (rt [.r 3 5, .r 33 13, .r 21 2, .r 46 9, .e (.k (.lst 5 []))]) (.j (.i 55 (cn 42 [1, .e (Z 13), .r 37 9, .r 49 6] (rt [.r 3 5, .r 33 4, .r 56 9, .r 21 2, .r 46 3, .r 65 6, .e (.k (.lst 5 []))])) (cn 133 [2, .e (Z 1), .r 3 5, .r 37 7, .r 21 2, .r 44 2, .r 49 6] (cn 135 [1, .r 58 22] (.g (.q (i_leq (Z 0) 32) (i_lss 32 (.l 96))) (.t ty_sibi (.g 96 32) (cn 196 [32, 102] (cn 312 [103, 57, .e (.a 102 2)] (rt [.r 80 5, .r 33 4, .r 85 7, .r 94 2, .r 92 2, .r 46 3, .r 96 6, .e (Ls 5 [Ac [Z 1] (.aa 1 (Ac [Ls 20 [Ac [Z 1] (.aa 1 (.aa 56 (.aa 104 (Ac [.k (.lst 20 []), .k (.lst 20 []), Z 0] e0))))]] e0))])])))))))) (.i (i_neq (.a 2 0) (Z 2)) (.i (i_neq (.a 2 0) (Z 8)) (.jp 0 [.e (i_neq (.a 2 0) (Z 9))]) (.jp 0 [.e ff])) (.jp 0 [.e ff]))))
set_option maxRecDepth 100000 in
theorem q261 : Eqn C sg 261 p261 := by
  intro n ds
  kernel_rfl
def p262 : T := .i (i_lss 3 2) (.g (.q (i_leq (Z 0) 3) (i_lss 3 (.l 1))) (.t ty_iiiissbl6l6l8l14l14l5l5 (.g 1 3) (.g (.rs (.a 40 4) (.k (.str [91]))) (.l (.s .add (.a 40 4) (.k (.str [91]))) (cn 300 [0] (.g (.rs 41 42) (.l (.s .add 41 42) (.g (.rs 43 (.k (.str [93, 46]))) (.l (.s .add 43 (.k (.str [93, 46]))) (cn 151 [44, .r 4 5, .r 23 17] (cn 13 [.e (.a 40 10), .r 67 5, .r 50 7, .r 59 2, .r 72 2, .r 61 6] (.l (i_add 3 (Z 1)) (.tl 262 [.r 0 3, 96, .r 45 5, .r 9 14, .r 79 7, .r 57 2, .r 86 2, .r 90 6]))))))))))))) (.ret false [.r 0 40])
set_option maxRecDepth 100000 in
theorem q262 : Eqn C sg 262 p262 := by
  intro n ds
  kernel_rfl
def p263 : T := .i (i_lss 2 1) (.g (.q (i_leq (Z 0) 2) (i_lss 2 (.l 0))) (.t ty_iiiiibil1l9 (.g 0 2) (cn 210 [3, 11, 10] (.l (i_add 2 (Z 1)) (.tl 263 [.r 0 2, 13, .r 3 7, 12]))))) (.ret false [.r 0 11])
set_option maxRecDepth 100000 in
theorem q263 : Eqn C sg 263 p263 := by
  intro n ds
  kernel_rfl
def p264 : T := .i (i_gtr (.l (.a 1 3)) (Z 0)) (.g (.q (i_leq (Z 0) (.a 1 0)) (i_lss (.a 1 0) (.l 0))) (.t ty_sibi (.g 0 (.a 1 0)) (cn 268 [3] (cn 267 [0, .e (.a 1 0), .e (Z 0), 4, 2] (rt [5]))))) (cn 267 [0, .e (.a 1 0), .e (.a 1 1), .e (.a 1 2), 2] (rt [3]))
set_option maxRecDepth 100000 in
theorem q264 : Eqn C sg 264 p264 := by
  intro n ds
  kernel_rfl
def p265 : T := .i (i_lss 3 2) (.g (.q (i_leq (Z 0) 3) (i_lss 3 (.l 0))) (.t tI (.g 0 3) (.i (i_eql 1 4) (rt [3]) (.l (i_add 3 (Z 1)) (.tl 265 [.r 0 3, 5]))))) (.ret false [.r 0 4])
set_option maxRecDepth 100000 in
theorem q265 : Eqn C sg 265 p265 := by
  intro n ds
  kernel_rfl
def p266 : T := .i (i_lss 3 2) (.g (.q (i_leq (Z 0) 3) (i_lss 3 (.l 0))) (.t tB (.g 0 3) (.i 4 (.g (.q (i_leq (Z 0) 3) (i_lss 3 (.l 1))) (.t tB (.g 1 3) (.i 5 (rt [.e tt]) (.l (i_add 3 (Z 1)) (.tl 266 [.r 0 3, 6]))))) (.l (i_add 3 (Z 1)) (.tl 266 [.r 0 3, 5]))))) (.ret false [.r 0 4])
set_option maxRecDepth 100000 in
theorem q266 : Eqn C sg 266 p266 := by
  intro n ds
  kernel_rfl
def p267 : T := .g (.q (i_leq (Z 0) 1) (i_lss 1 (.l 4))) (.i (.nl (.g 4 1)) (.g (.q (i_leq (Z 0) 1) (i_lss 1 (.l 0))) (.t ty_sibi (.g 0 1) (cn 268 [5] (.g (.q (.q (i_leq (Z 0) 6) (i_leq 6 6)) (i_leq 6 (Z 68719476736))) (.l (.rp 1 6 ff) (.g (.q (i_leq (Z 0) 1) (i_lss 1 (.l 4))) (.g (.q (.nt 1 4) (.nl (.g 4 1))) (.g (.n (.em 7)) (.l (.st 1 4 1 7) (.l (.mx .i64 2 (Z 0)) (.o 313 [.r 1 3, 9, 8] (rt [14])))))))))))) (.l (.mx .i64 2 (Z 0)) (.o 313 [.r 1 3, 5, 4] (rt [10]))))
set_option maxRecDepth 100000 in
theorem q267 : Eqn C sg 267 p267 := by
  intro n ds
  kernel_rfl
def p268 : T := .i (i_gtr (.a 0 3) (Z 0)) (rt [.e (Z 1)]) (rt [.e (.a 0 1)])
set_option maxRecDepth 100000 in
theorem q268 : Eqn C sg 268 p268 := by
  intro n ds
  kernel_rfl
def p269 : T := .i (i_lss 3 2) (.g (.q (i_leq (Z 0) 3) (i_lss 3 (.l 1))) (.t ty_iiiiibil1l9 (.g 1 3) (cn 210 [0, 5, 4] (.l (i_add 3 (Z 1)) (.tl 269 [.r 0 3, 7, 6]))))) (.ret false [.r 0 5])
set_option maxRecDepth 100000 in
theorem q269 : Eqn C sg 269 p269 := by
  intro n ds
  kernel_rfl
def p270 : T := .i (i_lss 1 0) (.g (.q (i_leq (Z 0) 1) (i_lss 1 (.l 2))) (.i (.nl (.g 2 1)) (.g (.q (i_leq (Z 0) 1) (i_lss 1 (.l 3))) (.g (.q (.nt 1 3) (.nl (.g 3 1))) (.l (i_add 1 (Z 1)) (.tl 270 [0, 4, .r 2 2])))) (cp 314 [.e (.ls 1 (.g 2 1))] (.g (.q (i_leq (Z 0) 1) (i_lss 1 (.l 3))) (.g (.q (.nt 1 3) (.nl (.g 3 1))) (.g (.n (.em 4)) (.l (.st 1 3 1 4) (.l (i_add 1 (Z 1)) (.tl 270 [0, 6, 2, 5]))))))))) (.ret false [.r 0 4])
set_option maxRecDepth 100000 in
theorem q270 : Eqn C sg 270 p270 := by
  intro n ds
  kernel_rfl
def p271 : T := .i (i_lss 7 6) (.g (.q (i_leq (Z 0) 0) (i_lss 0 (.l 22))) (.i (.nl (.g 22 0)) (.g (.q (i_leq (Z 0) 0) (i_lss 0 (.l 28))) (.i (.nl (.g 28 0)) .no (.g (.q (i_leq (Z 0) 7) (i_lss 7 (.l (.ls 1 (.g 28 0))))) (.t tB (.g (.ls 1 (.g 28 0)) 7) (.g 30 (.g (.q (i_leq (Z 0) 0) (i_lss 0 (.l 29))) (.i (.nl (.g 29 0)) .no (.g (.q (i_leq (Z 0) 7) (i_lss 7 (.l (.ls 1 (.g 29 0))))) (.t tB (.g (.ls 1 (.g 29 0)) 7) .no))))))))) (.g (.q (i_leq (Z 0) 0) (i_lss 0 (.l 28))) (.i (.nl (.g 28 0)) .no (.g (.q (i_leq (Z 0) 7) (i_lss 7 (.l (.ls 1 (.g 28 0))))) (.t tB (.g (.ls 1 (.g 28 0)) 7) (.i 30 (.g (.q (i_leq (Z 0) 0) (i_lss 0 (.l 29))) (.i (.nl (.g 29 0)) .no (.g (.q (i_leq (Z 0) 7) (i_lss 7 (.l (.ls 1 (.g 29 0))))) (.t tB (.g (.ls 1 (.g 29 0)) 7) (.g (.q (i_leq (Z 0) 7) (i_lss 7 (.l (.ls 1 (.g 22 0))))) (.g (.nt 7 (.ls 1 (.g 22 0))) (.l (.st 1 22 0 (.st 1 (.ls 1 (.g 22 0)) 7 31)) (.l (i_add 7 (Z 1)) (.tl 271 [.r 0 7, 33, .r 8 14, 32, .r 23 7]))))))))) (.g (.q (i_leq (Z 0) 7) (i_lss 7 (.l (.ls 1 (.g 22 0))))) (.g (.nt 7 (.ls 1 (.g 22 0))) (.l (.st 1 22 0 (.st 1 (.ls 1 (.g 22 0)) 7 ff)) (.l (i_add 7 (Z 1)) (.tl 271 [.r 0 7, 32, .r 8 14, 31, .r 23 7])))))))))))) (.ret false [.r 0 30])
set_option maxRecDepth 100000 in
theorem q271 : Eqn C sg 271 p271 := by
  intro n ds
  kernel_rfl
def p272 : T := .i (i_lss 3 2) (.g (.q (i_leq (Z 0) 0) (i_lss 0 (.l 17))) (.i (.nl (.g 17 0)) .no (.t (tL 1) (.g 17 0) (.g (.q (i_leq (Z 0) 3) (i_lss 3 (.l 18))) (.i (.nl (.g 18 3)) (.g (.q (i_leq (Z 0) 1) (i_lss 1 (.l 16))) (.i (.nl (.g 16 1)) .no (.t (tL 1) (.g 16 1) (.g (.q (i_leq (Z 0) 3) (i_lss 3 (.l 19))) (.i (.nl (.g 19 3)) (cn 208 [.e (.k (.lst 1 [])), .e (.k (.lst 1 []))] (.i 20 (rt [.e tt, .r 4 14]) (.l (i_add 3 (Z 1)) (.tl 272 [.r 0 3, 21, .r 4 14])))) (.t (tL 1) (.g 19 3) (cn 208 [.e (.k (.lst 1 [])), 20] (.i 21 (rt [.e tt, .r 4 14]) (.l (i_add 3 (Z 1)) (.tl 272 [.r 0 3, 22, .r 4 14])))))))))) (.t (tL 1) (.g 18 3) (.g (.q (i_leq (Z 0) 1) (i_lss 1 (.l 16))) (.i (.nl (.g 16 1)) .no (.t (tL 1) (.g 16 1) (.g (.q (i_leq (Z 0) 3) (i_lss 3 (.l 20))) (.i (.nl (.g 20 3)) (cn 208 [19, .e (.k (.lst 1 []))] (.i 21 (rt [.e tt, .r 4 14]) (.l (i_add 3 (Z 1)) (.tl 272 [.r 0 3, 22, .r 4 14])))) (.t (tL 1) (.g 20 3) (cn 208 [19, 21] (.i 22 (rt [.e tt, .r 4 14]) (.l (i_add 3 (Z 1)) (.tl 272 [.r 0 3, 23, .r 4 14])))))))))))))))) (.ret false [.r 0 18])
set_option maxRecDepth 100000 in
theorem q272 : Eqn C sg 272 p272 := by
  intro n ds
  kernel_rfl
def p273 : T := rt [.e (i_eql (.a 0 0) 1), .r 1 3]
set_option maxRecDepth 100000 in
theorem q273 : Eqn C sg 273 p273 := by
  intro n ds
  kernel_rfl
def p274 : T := cn 165 [0] (.i 1 (rt [.e tt]) (cn 167 [0] (rt [2])))
set_option maxRecDepth 100000 in
theorem q274 : Eqn C sg 274 p274 := by
  intro n ds
  kernel_rfl
def p275 : T := .i (i_lss 1 (.sl 0)) (.g (.q (i_leq (Z 0) 1) (i_lss 1 (.sl 0))) (.l (.sb 0 1) (cn 315 [2] (.i 3 (.l (i_add 1 (Z 1)) (.tl 275 [0, 4])) (.ret false [.r 0 2]))))) (.ret false [.r 0 2])
set_option maxRecDepth 100000 in
theorem q275 : Eqn C sg 275 p275 := by
  intro n ds
  kernel_rfl
def p276 : T := .i (i_lss 1 (.sl 0)) (.g (.q (i_leq (Z 0) 1) (i_lss 1 (.sl 0))) (.l (.sb 0 1) (cn 316 [2] (.i 3 (.l (i_add 1 (Z 1)) (.tl 276 [0, 4])) (.ret false [.r 0 2]))))) (.ret false [.r 0 2])
set_option maxRecDepth 100000 in
theorem q276 : Eqn C sg 276 p276 := by
  intro n ds
  kernel_rfl
def p277 : T := .i (i_lss 0 (Z 0)) (rt [.e (.k (.agg [.int .i64 0, .lst 1 [], .bool false, .bool false])), .e (Z 3)]) (.i (i_geq 0 (Z 2147483648)) (rt [.e (.k (.agg [.int .i64 0, .lst 1 [], .bool false, .bool false])), .e (Z 3)]) (.l (.cv .u64 0) (cn 130 [.e (Z 32), .e (Ls 1 [1])] (rt [.e (.aa 2 (Ac [tt, ff] e0)), .e (Z 0)]))))
set_option maxRecDepth 100000 in
theorem q277 : Eqn C sg 277 p277 := by
  intro n ds
  kernel_rfl
def p278 : T := .i (i_lss 3 2) (.g (.q (i_leq (Z 0) 3) (i_lss 3 (.sl 0))) (.l (.sb 0 3) (cn 317 [5] (.g (.q (i_leq (Z 0) 3) (i_lss 3 (.sl 0))) (.l (.sb 0 3) (.i (.i .eql .u8 7 (.k (.int .u8 95))) (.i (i_gtr 3 (Z 0)) (.l (i_add 3 (Z 1)) (.tl 278 [.r 0 3, 8, 4])) (.i (i_lss 6 1) (.g (.rm 4 (.k (dm 1))) (.l (.ap 1 4 (Ls 1 [6])) (.l (i_add 3 (Z 1)) (.tl 278 [.r 0 3, 9, 8])))) (rt [.e (Z 5), .e (.k (.lst 1 []))]))) (.i (i_lss 6 1) (.g (.rm 4 (.k (dm 1))) (.l (.ap 1 4 (Ls 1 [6])) (.l (i_add 3 (Z 1)) (.tl 278 [.r 0 3, 9, 8])))) (rt [.e (Z 5), .e (.k (.lst 1 []))])))))))) (.ret false [.r 0 5])
set_option maxRecDepth 100000 in
theorem q278 : Eqn C sg 278 p278 := by
  intro n ds
  kernel_rfl
def p279 : T := .i (i_lss 4 3) (.g (.q (i_leq (Z 0) 4) (i_lss 4 (.l 2))) (.t tI (.g 2 4) (.l (i_mul (Z 10) 1) (.l (i_add 6 5) (.l (.mn .i64 7 0) (.l (i_add 4 (Z 1)) (.tl 279 [0, 8, .r 2 2, 9]))))))) (.ret false [.r 0 5])
set_option maxRecDepth 100000 in
theorem q279 : Eqn C sg 279 p279 := by
  intro n ds
  kernel_rfl
def p280 : T := .l (.i .or .u8 0 (.k (.int .u8 32))) (.i (.i .eql .u8 1 (.k (.int .u8 98))) (rt [.e (Z 2)]) (.i (.i .eql .u8 1 (.k (.int .u8 111))) (rt [.e (Z 8)]) (.i (.i .eql .u8 1 (.k (.int .u8 100))) (rt [.e (Z 10)]) (.i (.i .eql .u8 1 (.k (.int .u8 104))) (rt [.e (Z 16)]) (rt [.e (Z 0)])))))
set_option maxRecDepth 100000 in
theorem q280 : Eqn C sg 280 p280 := by
  intro n ds
  kernel_rfl
def p281 : T := .i (i_lss 3 2) (.g (.q (i_leq (Z 0) 3) (i_lss 3 (.l 1))) (.t tI (.g 1 3) (cn 318 [.e (Z 2), .e (Ac [5, 6] e0), .e (Ac [7, 8] e0)] (.l (.cv .u64 10) (cn 130 [0, .e (Ls 1 [13])] (cn 318 [.e (Z 0), 11, 14] (.l (i_add 3 (Z 1)) (.tl 281 [.r 0 3, 18, 4, .e (.a 16 0), .e (.a 16 1), .r 7 3])))))))) (.ret false [.r 0 10])
set_option maxRecDepth 100000 in
theorem q281 : Eqn C sg 281 p281 := by
  intro n ds
  kernel_rfl
def p282 : T := .l (.xi 0 1) (rt [2])
set_option maxRecDepth 100000 in
theorem q282 : Eqn C sg 282 p282 := by
  intro n ds
  kernel_rfl
def p283 : T := .i (i_geq 2 (.l 1)) (cn 115 [.r 1 8] (rt [.r 9 8])) (.g (.q (i_leq (Z 0) 2) (i_lss 2 (.l 1))) (.g (.ag (.g 1 2)) (.t ty_iii (.sub (.g 1 2) 2 3) (cn 34 [9, .r 0 9] (rt [.r 10 8])))))
set_option maxRecDepth 100000 in
theorem q283 : Eqn C sg 283 p283 := by
  intro n ds
  kernel_rfl
def p284 : T := cn 33 [.r 0 8] (.j (.i 17 (cn 319 [.r 9 8] (rt [.r 18 9])) (cn 231 [.r 9 8] (.i (.n 18) (cn 232 [.r 19 8] (rt [.e (.k (.agg [.int .i64 0, .int .i64 0, .int .i64 0, .int .i64 0, .str [], .lst 6 []])), .r 27 8])) (.l (i_add 20 (Z 1)) (cn 284 [19, 27, .r 21 6] (.i (sE_ (.a 8 1) (.k (.str [43]))) (cn 232 [.r 29 8] (rt [28, .r 37 8])) (cn 320 [.e (.a 8 1)] (cn 232 [.r 29 8] (rt [.e (Ac [Z 3, .a 8 2, .a 8 3, .a 8 4, 37, Ls 6 [28]] e0), .r 38 8]))))))))) (.i (i_neq (.a 8 0) (Z 3)) (.jp 0 [.e tt]) (.g (.rs (.k (.str [32])) (.a 8 1)) (.l (.s .add (.k (.str [32])) (.a 8 1)) (.g (.rs 17 (.k (.str [32]))) (.l (.s .add 17 (.k (.str [32]))) (cn 171 [.e (.k (.str [32, 45, 32, 126, 32, 33, 32, 38, 32, 124, 32, 94, 32, 126, 38, 32, 126, 124, 32, 126, 94, 32, 94, 126, 32, 43, 32])), 18] (.jp 0 [.e (.n 19)]))))))))
set_option maxRecDepth 100000 in
theorem q284 : Eqn C sg 284 p284 := by
  intro n ds
  kernel_rfl
def p285 : T := .i (i_eql 8 (Z 0)) (cn 33 [.r 1 8] (.i (i_neq (.a 24 0) (Z 3)) (.ret false [0, .r 25 8, .r 9 15]) (.g (.q (i_leq (Z 0) 0) (i_lss 0 (Z 10))) (.t tS (.g (.k (.lst 1 [.str [32, 124, 124, 32], .str [32, 38, 38, 32], .str [32, 124, 32], .str [32, 94, 32, 126, 94, 32, 94, 126, 32], .str [32, 38, 32], .str [32, 61, 61, 32, 33, 61, 32], .str [32, 60, 32, 60, 61, 32, 62, 32, 62, 61, 32], .str [32, 60, 60, 32, 62, 62, 32, 60, 60, 60, 32, 62, 62, 62, 32], .str [32, 43, 32, 45, 32], .str [32, 42, 32, 47, 32, 37, 32]])) 0) (.g (.rs (.k (.str [32])) (.a 24 1)) (.l (.s .add (.k (.str [32])) (.a 24 1)) (.g (.rs 34 (.k (.str [32]))) (.l (.s .add 34 (.k (.str [32]))) (cn 171 [33, 35] (.i (.n 36) (.ret false [0, .r 25 8, .r 9 15]) (.l (i_add 26 (Z 1)) (cn 320 [.e (.a 24 1)] (.l (i_add 0 (Z 1)) (cn 233 [39, 25, 37, .r 27 6] (.tl 285 [0, .r 41 8, .r 9 8, .e (Z 4), .r 14 3, 38, .e (Ls 6 [Ac [17, 18, 19, 20, 21, 22] e0, 40]), 23]))))))))))))))) (.ret false [.r 0 24])
set_option maxRecDepth 100000 in
theorem q285 : Eqn C sg 285 p285 := by
  intro n ds
  kernel_rfl
def p286 : T := cn 231 [.r 0 8] (.i (.n 8) (cn 232 [.r 9 8] (rt [.e (.k (.agg [.int .i64 0, .int .i64 0, .int .i64 0, .int .i64 0, .str [], .lst 6 [], .lst 8 [], .lst 9 []])), .r 17 8])) (cn 235 [.r 9 8] (cn 33 [.r 17 8] (cn 63 [.e (.k (.str [59])), .r 26 8] (.i 34 (cn 232 [.r 35 8] (rt [.e (Ac [Z 8, .a 25 2, .a 25 3, .a 25 4, .k (.str []), .k (.lst 6 []), .k (.lst 8 []), .k (.lst 9 [])] e0), .r 43 8])) (cn 63 [.e (.k (.str [98, 101, 103, 105, 110])), .r 35 8] (.i 43 (.o 321 [.r 44 8, .e (Z 0), .e (Z 0), .e (Z 0), .e (Z 0), .e (.k (.str [])), .e (Z 1), .e (.a 25 2), .e (.a 25 3), .e (.a 25 4), .e (.k (.str [])), .e (.k (.lst 6 [])), .e (.k (.lst 8 [])), .e (.k (.lst 9 [])), .e (.k (.lst 6 [])), .e (.k (.lst 8 [])), .e (.k (.lst 9 []))] (cn 232 [.r 52 8] (rt [.e (Ac [65, 66, 67, 68, 69, 73, 74, 75] e0), .r 76 8]))) (cn 63 [.e (.k (.str [105, 102])), .r 44 8] (.i 52 (cn 241 [.r 53 8] (cn 286 [.r 62 8] (cn 63 [.e (.k (.str [101, 108, 115, 101])), .r 71 8] (.i 79 (cn 286 [.r 80 8] (cn 232 [.r 89 8] (rt [.e (Ac [Z 4, .a 25 2, .a 25 3, .a 25 4, .k (.str []), Ls 6 [61], Ls 8 [70, 88], .k (.lst 9 [])] e0), .r 97 8]))) (cn 232 [.r 80 8] (rt [.e (Ac [Z 4, .a 25 2, .a 25 3, .a 25 4, .k (.str []), Ls 6 [61], Ls 8 [70, .k (.agg [.int .i64 8, .int .i64 0, .int .i64 0, .int .i64 0, .str [], .lst 6 [], .lst 8 [], .lst 9 []])], .k (.lst 9 [])] e0), .r 88 8])))))) (cn 63 [.e (.k (.str [99, 97, 115, 101])), .r 53 8] (.o 322 [.r 61 9, .e (Z 0), .e (Z 0), .e (Z 0), .e (Z 0), .e (.k (.str [])), .e (Z 8), .e (.a 25 2), .e (.a 25 3), .e (.a 25 4), .e (.k (.str [])), .e (.k (.lst 6 [])), .e (.k (.lst 8 [])), .e (.k (.lst 9 [])), .e (.k (.lst 6 [])), .e (.k (.lst 8 [])), .e (.k (.lst 9 []))] (cn 232 [.r 71 8] (rt [.e (Ac [84, 85, 86, 87, 88, 92, 93, 94] e0), .r 95 8])))))))))))))
set_option maxRecDepth 100000 in
theorem q286 : Eqn C sg 286 p286 := by
  intro n ds
  kernel_rfl
def p287 : T := .j (.i 36 (cn 33 [.r 37 8] (.l (i_add 47 (Z 1)) (cn 173 [.e (Ac [.a 45 2, .a 45 3, .a 45 4] e0), .e (.a 45 1), 46, 54, .r 48 6] (.j (.i 64 (cn 34 [.e (Ac [.a 45 2, .a 45 3, .a 45 4] e0), .e (Z 5), .r 56 8] (cn 61 [.e (.k (.lst 1 [.str [59]])), .r 65 8] (.g (.rm 32 (.k (dm 1))) (.l (.ap 14 32 (Ls 14 [55])) (.tl 287 [.r 73 8, .r 8 24, 81, .r 33 3]))))) (cn 61 [.e (.k (.lst 1 [.str [59]])), .r 56 8] (.g (.rm 32 (.k (dm 1))) (.l (.ap 14 32 (Ls 14 [55])) (.tl 287 [.r 65 8, .r 8 24, 73, .r 33 3]))))) (.i (i_gtr (.l (.a 55 7)) (Z 2)) (.jp 0 [.e tt]) (.jp 0 [.e (i_gtr (.l (.a 55 8)) (Z 0))])))))) (.ret false [.r 37 8, .r 8 28])) (cn 116 [.e (.k (.str [105, 110, 112, 117, 116])), .r 0 8] (.i 36 (.jp 0 [.e tt, .r 37 8]) (cn 116 [.e (.k (.str [114, 101, 103])), .r 37 8] (.i 45 (.jp 0 [.e tt, .r 46 8]) (cn 116 [.e (.k (.str [105, 110, 116, 101, 103, 101, 114])), .r 46 8] (.jp 0 [.r 54 9]))))))
set_option maxRecDepth 100000 in
theorem q287 : Eqn C sg 287 p287 := by
  intro n ds
  kernel_rfl
def p288 : T := cn 61 [.e (.k (.lst 1 [.str [40]])), .r 0 8] (.o 323 [.r 8 8, .e (.k (.lst 5 []))] (cn 61 [.e (.k (.lst 1 [.str [41]])), .r 16 8] (rt [.r 25 8, 24])))
set_option maxRecDepth 100000 in
theorem q288 : Eqn C sg 288 p288 := by
  intro n ds
  kernel_rfl
def p289 : T := .i (i_geq 1 (Z 0)) (.i (i_lss 1 (.a 0 0)) (.l (i_quo 1 (Z 64)) (.g (.q (i_leq (Z 0) 2) (i_lss 2 (.l (.a 0 1)))) (.t (.leaf (.int .u64)) (.g (.a 0 1) 2) (.l (i_rem 1 (Z 64)) (.i (i_lss 4 (Z 0)) .no (.l (.i .shr .u64 3 4) (.l (.i .and .u64 5 (.k (.int .u64 1))) (rt [.e (.i .eql .u64 6 (.k (.int .u64 1)))])))))))) (rt [.e ff])) (rt [.e ff])
set_option maxRecDepth 100000 in
theorem q289 : Eqn C sg 289 p289 := by
  intro n ds
  kernel_rfl
def p290 : T := .i (i_lss 0 (Z 0)) (rt [.e (.k (.agg [.int .i64 0, .lst 1 []])), .e (Z 1)]) (.i (i_gtr 0 (Z 5)) (rt [.e (.k (.agg [.int .i64 0, .lst 1 []])), .e (Z 1)]) (.i (i_eql (.a 1 0) (Z 0)) (rt [.e (.k (.agg [.int .i64 0, .lst 1 []])), .e (Z 2)]) (.i (i_eql 0 (Z 0)) (cn 324 [1] (rt [.e (Ac [2, 3] e0), .e (Z 0)])) (.i (i_eql 0 (Z 1)) (cn 325 [1] (rt [2, .e (Z 0)])) (.i (i_eql 0 (Z 2)) (cn 324 [1] (cp 326 [.e (Ac [2, 3] e0)] (cn 327 [.e (.n 4)] (rt [5, .e (Z 0)])))) (.i (i_eql 0 (Z 3)) (cn 326 [1] (cn 327 [2] (rt [3, .e (Z 0)]))) (.i (i_eql 0 (Z 5)) (cn 326 [1] (cn 327 [.e (.n 2)] (rt [3, .e (Z 0)]))) (.o 328 [.e (Z 0), .e (.a 1 1), .e (.l (.a 1 1)), .e (Z 0), .e (Z 0), .e (.k (.lst 1 []))] (.l (i_rem 2 (Z 2)) (cn 327 [.e (i_eql 8 (Z 1))] (rt [9, .e (Z 0)])))))))))))
set_option maxRecDepth 100000 in
theorem q290 : Eqn C sg 290 p290 := by
  intro n ds
  kernel_rfl
def p291 : T := .l (.mx .i64 1 (Z 0)) (.o 329 [2, .e (.a 0 1), .e (.l (.a 0 1)), .e (Z 0), .e (.a 0 0), .e (.a 0 1)] (.i (i_eql 7 (Z 0)) (rt [.e (Z 0)]) (.g (.q tt (i_lss (Z 0) (.l 8))) (.t (.leaf (.int .u64)) (.g 8 (Z 0)) (.l (.cv .u64 3) (.l (.mn .u64 9 10) (.l (.cv .i64 11) (rt [12]))))))))
set_option maxRecDepth 100000 in
theorem q291 : Eqn C sg 291 p291 := by
  intro n ds
  kernel_rfl
def p292 : T := .o 330 [0, .e (.l 0), .e (Z 0), 1] (rt [.e (Z (-1)), 5])
set_option maxRecDepth 100000 in
theorem q292 : Eqn C sg 292 p292 := by
  intro n ds
  kernel_rfl
def p293 : T := .i (i_neq 6 (Z 0)) (rt [.e (.k (.agg [.int .i64 0, .bool false])), .r 1 7]) (.i (i_eql (.a 0 0) (Z 1)) (cn 169 [.e (.a 0 4)] (.i (i_neq 9 (Z 0)) (cn 253 [.e (Ac [.a 0 1, .a 0 2, .a 0 3] e0), 9, .r 1 7] (cn 109 [.e (Ac [.a 8 0, .a 8 1] e0)] (rt [.e (Ac [17, .a 8 2] e0), .r 10 7]))) (cn 109 [.e (Ac [.a 8 0, .a 8 1] e0)] (rt [.e (Ac [10, .a 8 2] e0), .r 1 7])))) (.i (i_eql (.a 0 0) (Z 2)) (cn 331 [.r 0 8] (rt [.r 8 8])) (.i (i_eql (.a 0 0) (Z 8)) (cn 332 [.r 0 8] (rt [.r 8 8])) (.i (i_eql (.a 0 0) (Z 9)) (cn 333 [.r 0 8] (.l (i_sub 8 9) (.l (i_add 17 (Z 1)) (rt [.e (Ac [18, ff] e0), .r 10 7])))) (.i (i_eql (.a 0 0) (Z 3)) (.g (.q tt (i_lss (Z 0) (.l (.a 0 5)))) (.t ty_iiiisl6 (.g (.a 0 5) (Z 0)) (cn 293 [8, .r 1 7] (.i (sE_ (.a 0 4) (.k (.str [45]))) (rt [.r 9 8]) (.i (sE_ (.a 0 4) (.k (.str [126]))) (rt [.r 9 8]) (rt [.e (.k (.agg [.int .i64 1, .bool false])), .r 10 7])))))) (.i (i_eql (.a 0 0) (Z 4)) (cn 334 [.r 0 8] (rt [.r 8 8])) (.i (i_eql (.a 0 0) (Z 5)) (.g (.q tt (i_lss (Z 0) (.l (.a 0 5)))) (.t ty_iiiisl6 (.g (.a 0 5) (Z 0)) (cn 293 [8, .r 1 7] (.g (.q tt (i_lss (Z 1) (.l (.a 0 5)))) (.t ty_iiiisl6 (.g (.a 0 5) (Z 1)) (cn 293 [17, .r 10 7] (.g (.q tt (i_lss (Z 2) (.l (.a 0 5)))) (.t ty_iiiisl6 (.g (.a 0 5) (Z 2)) (cn 293 [26, .r 19 7] (cn 335 [18, 27] (rt [35, .r 28 7]))))))))))) (.i (i_eql (.a 0 0) (Z 6)) (cn 336 [.e (.a 0 5), .r 1 7] (cn 337 [0, 8, .e ff, .r 9 7] (rt [.r 16 8]))) (.i (i_eql (.a 0 0) (Z 7)) (.g (.q tt (i_lss (Z 0) (.l (.a 0 5)))) (.t ty_iiiisl6 (.g (.a 0 5) (Z 0)) (cn 338 [8, .r 1 7] (.i (i_lss 9 (Z 1)) (.g (.q tt (i_lss (Z 0) (.l (.a 0 5)))) (.g (.ag (.g (.a 0 5) (Z 0))) (.t ty_iii (.sub (.g (.a 0 5) (Z 0)) 1 3) (cn 253 [17, .e (Z 3), .r 10 7] (.l (.mn .i64 9 (Z 129)) (.g (.q (.q tt (i_leq (Z 1) (.l (.a 0 5)))) (i_leq (.l (.a 0 5)) (.l (.a 0 5)))) (.l (.dt 6 (.a 0 5) (Z 1) (.l (.a 0 5))) (cn 336 [26, .r 18 7] (.l (i_mul 25 27) (cn 337 [0, 35, .e ff, .r 28 7] (rt [.r 36 8]))))))))))) (.l (.mn .i64 9 (Z 129)) (.g (.q (.q tt (i_leq (Z 1) (.l (.a 0 5)))) (i_leq (.l (.a 0 5)) (.l (.a 0 5)))) (.l (.dt 6 (.a 0 5) (Z 1) (.l (.a 0 5))) (cn 336 [18, .r 10 7] (.l (i_mul 17 19) (cn 337 [0, 27, .e ff, .r 20 7] (rt [.r 28 8]))))))))))) (cn 339 [.r 0 8] (rt [.r 8 8])))))))))))
set_option maxRecDepth 100000 in
theorem q293 : Eqn C sg 293 p293 := by
  intro n ds
  kernel_rfl
def p294 : T := .i (i_neq 7 (Z 0)) (rt [.e (.k (.agg [.int .i64 0, .int .i64 0, .int .i64 0, .int .i64 0, .int .i64 0, .bool false, .int .i64 0, .lst 1 [], .lst 9 []])), .r 2 7]) (.i (i_eql (.a 0 0) (Z 3)) (.i (sE_ (.a 0 4) (.k (.str [45]))) (.g (.q tt (i_lss (Z 0) (.l (.a 0 5)))) (.t ty_iiiisl6 (.g (.a 0 5) (Z 0)) (cn 294 [9, .r 1 8] (cn 340 [.e (Z 1), 10] (cn 341 [.e (Ac [.a 0 1, .a 0 2, .a 0 3] e0), 18, .r 11 7] (rt [.r 19 8])))))) (.i (sE_ (.a 0 4) (.k (.str [126]))) (.g (.q tt (i_lss (Z 0) (.l (.a 0 5)))) (.t ty_iiiisl6 (.g (.a 0 5) (Z 0)) (cn 294 [9, .r 1 8] (cn 340 [.e (Z 0), 10] (cn 341 [.e (Ac [.a 0 1, .a 0 2, .a 0 3] e0), 18, .r 11 7] (rt [.r 19 8])))))) (cn 345 [0, .r 2 7] (cn 312 [9, .e (.a 1 0), .e (.a 1 1)] (cn 341 [.e (Ac [.a 0 1, .a 0 2, .a 0 3] e0), 17, .r 10 7] (rt [.r 18 8])))))) (.i (i_eql (.a 0 0) (Z 4)) (cn 342 [.r 0 9] (.i 10 (cn 341 [.e (Ac [.a 0 1, .a 0 2, .a 0 3] e0), 9, .r 11 7] (rt [.r 18 8])) (cn 345 [0, .r 11 7] (cn 312 [18, .e (.a 1 0), .e (.a 1 1)] (cn 341 [.e (Ac [.a 0 1, .a 0 2, .a 0 3] e0), 26, .r 19 7] (rt [.r 27 8])))))) (.i (i_eql (.a 0 0) (Z 5)) (.g (.q tt (i_lss (Z 0) (.l (.a 0 5)))) (.t ty_iiiisl6 (.g (.a 0 5) (Z 0)) (cn 343 [9, .r 2 7] (cn 306 [10] (.g (.q tt (i_lss (Z 1) (.l (.a 0 5)))) (.t ty_iiiisl6 (.g (.a 0 5) (Z 1)) (cn 294 [19, 1, .r 11 7] (.g (.q tt (i_lss (Z 2) (.l (.a 0 5)))) (.t ty_iiiisl6 (.g (.a 0 5) (Z 2)) (cn 294 [28, 1, .r 21 7] (cn 344 [18, 20, 29] (cn 341 [.e (Ac [.a 0 1, .a 0 2, .a 0 3] e0), 37, .r 30 7] (rt [.r 38 8]))))))))))))) (cn 345 [0, .r 2 7] (cn 312 [9, .e (.a 1 0), .e (.a 1 1)] (cn 341 [.e (Ac [.a 0 1, .a 0 2, .a 0 3] e0), 17, .r 10 7] (rt [.r 18 8])))))))
set_option maxRecDepth 100000 in
theorem q294 : Eqn C sg 294 p294 := by
  intro n ds
  kernel_rfl
def p295 : T := .i (i_eql 1 (Z 0)) (.i (i_eql 2 (.a 0 2)) (rt [0]) (rt [.e (Ac [Z 5, Z 0, 2, Z 0, 1, ff, Z 0, .k (.lst 1 []), Ls 9 [0]] e0)])) (rt [.e (Ac [Z 5, Z 0, 2, Z 0, 1, ff, Z 0, .k (.lst 1 []), Ls 9 [0]] e0)])
set_option maxRecDepth 100000 in
theorem q295 : Eqn C sg 295 p295 := by
  intro n ds
  kernel_rfl
def p296 : T := cn 346 [.r 0 2] (.o 347 [.e (.a 0 8), .e (.l (.a 0 8)), .e (Z 0), 2] (rt [6]))
set_option maxRecDepth 100000 in
theorem q296 : Eqn C sg 296 p296 := by
  intro n ds
  kernel_rfl
def p297 : T := .i (i_lss 3 2) (.g (.q (i_leq (Z 0) 3) (i_lss 3 (.l 1))) (.t ty_l6iiiisl6l8l9 (.g 1 3) (.i (i_neq 15 (Z 0)) (rt [.r 4 16, .r 31 6, .e (.k (.lst 20 []))]) (.i (i_gtr (.l (.a 37 0)) (Z 0)) (.g (.q tt (i_lss (Z 0) (.l 25))) (.t ty_iiiisl6 (.g 25 (Z 0)) (cn 348 [38, .e (.a 37 0)] (cn 134 [39, .e (Z 0), .r 4 16, .r 31 6] (.g (.rm 28 (.k (dm 1))) (.l (.ap 9 28 (Ls 9 [40])) (cn 135 [.e (Ac [21, 22, 23] e0), .r 41 22] (cn 193 [.e (Ac [.a 37 1, .a 37 2, .a 37 3, .a 37 4, .a 37 5, .a 37 6, .a 37 7, .a 37 8] e0), .r 64 22] (.g (.rm 29 (.k (dm 1))) (.l (.ap 1 29 (Ls 1 [108])) (.l (i_add 3 (Z 1)) (.tl 297 [.r 0 3, 110, .r 86 16, .r 20 8, 63, 109, 30, .r 102 6])))))))))))) (.i 0 (cn 42 [.e (Ac [21, 22, 23] e0), .e (Z 10), .r 9 7, .r 18 2, .r 31 6] (cn 193 [.e (Ac [.a 37 1, .a 37 2, .a 37 3, .a 37 4, .a 37 5, .a 37 6, .a 37 7, .a 37 8] e0), .r 4 5, .r 38 7, .r 16 2, .r 45 8] (.l (i_add 3 (Z 1)) (.tl 297 [.e tt, .r 1 2, 76, .r 53 16, .r 20 10, 75, .r 69 6])))) (cn 193 [.e (Ac [.a 37 1, .a 37 2, .a 37 3, .a 37 4, .a 37 5, .a 37 6, .a 37 7, .a 37 8] e0), .r 4 16, .r 31 6] (.l (i_add 3 (Z 1)) (.tl 297 [.e tt, .r 1 2, 61, .r 38 16, .r 20 10, 60, .r 54 6])))))))) (.ret false [.r 0 37])
set_option maxRecDepth 100000 in
theorem q297 : Eqn C sg 297 p297 := by
  intro n ds
  kernel_rfl
def p298 : T := .i (i_geq 0 (Z 0)) (.g (.q (i_leq (Z 0) 0) (i_lss 0 (.l 25))) (.t ty_iiiiibil1l9 (.g 25 0) (.g (.q (i_leq (Z 0) 0) (i_lss 0 (.l 26))) (.i (.nl (.g 26 0)) (.l (i_sub 0 (Z 1)) (.tl 298 [35, .r 1 26, .e (Ls 20 [Ac [Z 3, 18, 19, 20, Z 0, Z 0, Z 0, .k (.lst 9 [])] (.aa 34 (Ac [.k (.lst 20 []), 27, Z 0] e0))]), .r 28 6])) (.t (tL 20) (.g 26 0) (.l (i_sub 0 (Z 1)) (.tl 298 [36, .r 1 26, .e (Ls 20 [Ac [Z 3, 18, 19, 20, Z 0, Z 0, Z 0, .k (.lst 9 [])] (.aa 34 (Ac [35, 27, Z 0] e0))]), .r 28 6]))))))) (.ret false [.r 0 34])
set_option maxRecDepth 100000 in
theorem q298 : Eqn C sg 298 p298 := by
  intro n ds
  kernel_rfl
def p299 : T := .i (i_eql 23 (Z 0)) (cn 40 [.e (Ac [4, 5] e0), 0, 2] (.g (.q tt (i_lss (Z 1) (.l 1))) (.t ty_iiiisl6 (.g 1 (Z 1)) (cn 83 [39, .e (.a 38 0), .e (.a 38 1), .r 6 3, .r 17 11, .r 32 6] (.i (i_eql 40 (Z 0)) (rt [.r 4 13, .r 46 11, 31, .r 57 6]) (.i (i_neq 52 (Z 0)) (rt [.r 4 13, .r 46 11, 31, .r 57 6]) (.i (i_eql 3 (Z 64)) (cn 42 [.e (Ac [28, 29, 30] e0), .e (Z 19), .r 46 7, .r 55 8] (rt [.r 4 13, .r 63 7, .r 53 2, .r 70 2, 31, .r 72 6])) (cn 349 [2, .r 41 5, .r 9 8, .r 46 11, 31, .r 57 6] (.g (.q tt (i_lss (Z 2) (.l 1))) (.t ty_iiiisl6 (.g 1 (Z 2)) (cn 83 [94, .r 63 5, .r 76 11, .r 88 6] (.l (i_add 3 (Z 1)) (.tl 299 [.r 0 2, 95, 118, .r 4 5, .r 68 8, .r 101 11, .r 28 3, 87, .r 112 6]))))))))))))) (.ret false [.r 0 38])
set_option maxRecDepth 100000 in
theorem q299 : Eqn C sg 299 p299 := by
  intro n ds
  kernel_rfl
def p301 : T := .o 350 [.e (.l 0), .e (Z 0), .r 0 2] (rt [.e (Z (-1)), .r 4 2])
set_option maxRecDepth 100000 in
theorem q301 : Eqn C sg 301 p301 := by
  intro n ds
  kernel_rfl
end Go.Proofs.YtpmjplpnpnmlcaaGreatDoor
