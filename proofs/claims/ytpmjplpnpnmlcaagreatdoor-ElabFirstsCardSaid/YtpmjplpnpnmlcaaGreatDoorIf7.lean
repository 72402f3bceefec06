import Derived.Test.YtpmjplpnpnmlcaaGreatDoorIf0
import Derived.KernelRfl
set_option linter.all false
namespace Go.Proofs.YtpmjplpnpnmlcaaGreatDoor
open Go.AE
def p302 : T := .i (i_lss 1 (.l 3)) (.g (.q (i_leq (Z 0) 1) (i_lss 1 (.l 3))) (.t ty_siisibil4ibiiiiibil1l9 (.g 3 1) (cn 351 [4, 2] (.i (.n 5) (.g (.q (i_leq (Z 0) 0) (i_lss 0 (.l 3))) (.l (.st 19 3 0 4) (.l (i_add 0 (Z 1)) (.l (i_add 1 (Z 1)) (.tl 302 [.r 8 2, .r 6 2]))))) (.l (i_add 1 (Z 1)) (.tl 302 [0, 7, 6, 3])))))) (.ret false [.r 0 4])
set_option maxRecDepth 100000 in
theorem q302 : Eqn C sg 302 p302 := by
  intro n ds
  kernel_rfl
def p303 : T := .l (i_add 7 (Z 1)) (.i (i_gtr 23 (Z 4000)) (cn 42 [0, .e (Z 19), .r 5 2, 23, .r 8 4, .r 15 8] (rt [.r 1 4, .r 24 7, .r 12 3, .r 31 8])) (rt [.r 1 6, 23, .r 8 15]))
set_option maxRecDepth 100000 in
theorem q303 : Eqn C sg 303 p303 := by
  intro n ds
  kernel_rfl
def p304 : T := .g (.q tt (i_lss (Z 0) (.l (.a 0 5)))) (.t ty_iiiisl6 (.g (.a 0 5) (Z 0)) (cn 190 [.e (Ac [1, 2] e0), .e (.a 24 4)] (.j (.j (.i (i_neq 55 (Z 0)) (rt [.r 1 4, 43, .r 50 6, .r 12 3, .r 56 2, 17, .r 44 6]) (cn 352 [24, .r 26 2, .r 1 4, 43, .r 50 6, .r 12 3, .r 56 2, .r 44 6] (.g (.q tt (i_lss (Z 1) (.l (.a 0 5)))) (.t ty_iiiisl6 (.g (.a 0 5) (Z 1)) (cn 305 [82, .r 59 17, 17, .r 76 6] (.i (i_eql 94 (Z 0)) (.g (.q (i_leq (Z 0) 26) (i_lss 26 (.l 100))) (.t ty_iiiiibil1l9 (.g 100 26) (cn 353 [107, 58, 83] (.g (.q (i_leq (Z 0) 26) (i_lss 26 (.l 100))) (.l (.st 9 100 26 108) (rt [.r 84 16, 109, .r 101 6])))))) (rt [.r 84 23]))))))) (.i (i_eql (.a 24 0) (Z 8)) (.g (.q tt (i_lss (Z 0) (.l (.a 24 5)))) (.t ty_iiiisl6 (.g (.a 24 5) (Z 0)) (cn 70 [.e (Ac [1, 2] e0)] (cn 71 [.r 43 2] (.i (i_neq 47 (Z 0)) (cn 42 [.e (Ac [.a 24 1, .a 24 2, .a 24 3] e0), .e (Z 11), 28, .r 35 8, .r 29 6] (.jp 0 [48, .r 57 6, .r 49 8])) (.jp 0 [.r 28 15])))))) (.jp 0 [.r 28 15]))) (.i (i_eql 25 (Z 0)) (cn 42 [.e (Ac [.a 24 1, .a 24 2, .a 24 3] e0), .e (Z 9), .r 5 7, .r 15 2, .r 18 6] (.jp 0 [28, .r 37 6, .r 29 8])) (.i (i_neq 25 (Z 2)) (cn 42 [.e (Ac [.a 24 1, .a 24 2, .a 24 3] e0), .e (Z 11), .r 5 7, .r 15 2, .r 18 6] (.jp 0 [28, .r 37 6, .r 29 8])) (.jp 0 [5, .r 18 6, .r 6 6, .r 15 2]))))))
set_option maxRecDepth 100000 in
theorem q304 : Eqn C sg 304 p304 := by
  intro n ds
  kernel_rfl
def p305 : T := cn 354 [.r 0 18, .r 19 6] (.i (i_neq 36 (Z 0)) (.l (.mx .i64 1 (Z 1)) (cn 141 [48] (rt [49, .r 26 16, 18, .r 42 6]))) (cn 355 [25, 18] (cn 252 [48] (.i (i_gtr 50 (Z 20000)) (cn 42 [.e (Ac [.a 0 1, .a 0 2, .a 0 3] e0), .e (Z 19), .r 30 7, .r 40 8] (rt [48, .r 26 4, .r 51 7, .r 37 3, .r 58 2, 49, .r 60 6])) (rt [48, .r 26 16, 49, .r 42 6])))))
set_option maxRecDepth 100000 in
theorem q305 : Eqn C sg 305 p305 := by
  intro n ds
  kernel_rfl
def p306 : T := .i (i_eql (.a 0 2) (Z 1)) (rt [0]) (cn 340 [.e (Z 3), 0] (rt [1]))
set_option maxRecDepth 100000 in
theorem q306 : Eqn C sg 306 p306 := by
  intro n ds
  kernel_rfl
def p307 : T := cn 356 [26] (cn 357 [.r 2 24, 33, .r 27 6] (cn 356 [26] (cn 358 [.r 34 24, 65, .r 59 6] (.i (i_neq 84 (Z 0)) (rt [.r 66 31]) (.o 359 [.e (Z 0), .e (.l 90), .e (Z 0), .r 66 24, .e (.a 0 0), .e (.a 0 1), .e (.a 0 2), .e (.a 1 0), .e (.a 1 1), .e (.a 1 2), .e (.a 1 3), .e (.a 1 4), .e (.a 1 5), .e (.a 1 6), .e (.a 1 7), .e (.a 1 8), 58, .r 90 7] (.i (i_gtr 97 (Z 20000)) (cn 42 [.e (Ac [124, 125, 126] e0), .e (Z 19), .r 112 7, .r 122 2, .r 138 6] (rt [.r 100 12, .r 144 7, .r 119 3, .r 151 2, 137, .r 153 6])) (rt [.r 100 24, .r 137 7])))))))
set_option maxRecDepth 100000 in
theorem q307 : Eqn C sg 307 p307 := by
  intro n ds
  kernel_rfl
def p308 : T := cn 360 [1] (.i (i_lss 25 (Z 0)) (.i (i_gtr (.l 1) (Z 1)) (cn 42 [.e (Ac [.a 0 1, .a 0 2, .a 0 3] e0), .e (Z 10), .r 6 7, .r 16 2, .r 19 6] (.o 361 [1, .e (.l 1), .e (Z 0), .r 2 4, .r 26 7, .r 13 3, .r 33 2, 18, .r 35 6] (rt [.r 44 23]))) (.o 361 [1, .e (.l 1), .e (Z 0), .r 2 23] (rt [.r 29 23]))) (.g (.q (i_leq (Z 0) 25) (i_lss 25 (.l 1))) (.t ty_l6iiiisl6l8l9 (.g 1 25) (cn 362 [1] (.l (i_add 25 (Z 1)) (cn 363 [27, 25, 28] (.g (.q tt (i_lss (Z 0) (.l (.a 0 5)))) (.t ty_iiiisl6 (.g (.a 0 5) (Z 0)) (cn 348 [30, .e (.a 26 0)] (cn 305 [31, .e (Z 0), .r 2 23] (cn 364 [.e (Ac [.a 0 1, .a 0 2, .a 0 3] e0), 32, .e (.a 26 0), .e (.a 26 1), .e (.a 26 2), .e (.a 26 3), .e (.a 26 4), .e (.a 26 5), .e (.a 26 6), .e (.a 26 7), .e (.a 26 8), .e (.a 0 0), .e (.a 0 1), .e (.a 0 2), .e (.a 0 3), .e (.a 0 4), .e (.a 0 5), .e (.a 0 6), .e (.a 0 7), 29, .r 33 23] (rt [.r 74 23]))))))))))))
set_option maxRecDepth 100000 in
theorem q308 : Eqn C sg 308 p308 := by
  intro n ds
  kernel_rfl
def p309 : T := cp 41 [22, 1] (.i (.n 34) (cn 42 [0, .e (Z 9), .r 15 7, .r 25 8] (rt [.r 3 12, .r 35 7, .r 22 3, .r 42 8, 33])) (.g (.q tt (i_lss (Z 0) (.l 2))) (.t ty_iiiisl6 (.g 2 (Z 0)) (cn 39 [35, .r 3 4, .r 15 18] (.o 365 [.r 1 2, 36, .e (Z 0), .r 37 4, .r 7 8, .r 41 12, .e (.a 0 0), .e (.a 0 1), .e (.a 0 2), .r 53 6, 33] (rt [.r 63 24, .r 90 7]))))))
set_option maxRecDepth 100000 in
theorem q309 : Eqn C sg 309 p309 := by
  intro n ds
  kernel_rfl
def p310 : T := .o 366 [0, .e (.l 0), .e (Z 0), .r 1 5] (rt [.e (Z (-1)), .r 9 5])
set_option maxRecDepth 100000 in
theorem q310 : Eqn C sg 310 p310 := by
  intro n ds
  kernel_rfl
def p311 : T := rt [.e (sE_ (.a 0 0) 5), .r 1 14]
set_option maxRecDepth 100000 in
theorem q311 : Eqn C sg 311 p311 := by
  intro n ds
  kernel_rfl
def p312 : T := .i (i_leq 1 (.a 0 2)) (cn 295 [0, .e (Z 0), 1] (rt [3])) (rt [.e (Ac [Z 10, Z 0, 1, Z 0, Z 0, 2, Z 0, .k (.lst 1 []), Ls 9 [0]] e0)])
set_option maxRecDepth 100000 in
theorem q312 : Eqn C sg 312 p312 := by
  intro n ds
  kernel_rfl
def p313 : T := .l (i_add 1 2) (.g (.q (i_leq (Z 0) 0) (i_lss 0 (.l 4))) (.i (.nl (.g 4 0)) (.l (.mn .i64 5 (Z 0)) (.i (i_lss 3 6) (.g (.q (i_leq (Z 0) 0) (i_lss 0 (.l 4))) (.i (.nl (.g 4 0)) .no (.g (.q (i_leq (Z 0) 3) (i_lss 3 (.l (.ls 1 (.g 4 0))))) (.g (.nt 3 (.ls 1 (.g 4 0))) (.l (.st 1 4 0 (.st 1 (.ls 1 (.g 4 0)) 3 tt)) (.l (i_add 3 (Z 1)) (.tl 313 [.r 0 3, 8, 7]))))))) (.ret false [.r 0 5]))) (.l (.mn .i64 5 (.l (.ls 1 (.g 4 0)))) (.i (i_lss 3 6) (.g (.q (i_leq (Z 0) 0) (i_lss 0 (.l 4))) (.i (.nl (.g 4 0)) .no (.g (.q (i_leq (Z 0) 3) (i_lss 3 (.l (.ls 1 (.g 4 0))))) (.g (.nt 3 (.ls 1 (.g 4 0))) (.l (.st 1 4 0 (.st 1 (.ls 1 (.g 4 0)) 3 tt)) (.l (i_add 3 (Z 1)) (.tl 313 [.r 0 3, 8, 7]))))))) (.ret false [.r 0 5])))))
set_option maxRecDepth 100000 in
theorem q313 : Eqn C sg 313 p313 := by
  intro n ds
  kernel_rfl
def p314 : T := .i (.em 0) .no (.g (.rm (.k (dm 0)) 0) (.l (.ap 1 (.k (.lst 1 [])) 0) (rt [1])))
set_option maxRecDepth 100000 in
theorem q314 : Eqn C sg 314 p314 := by
  intro n ds
  kernel_rfl
def p315 : T := cn 167 [0] (.i 1 (rt [.e tt]) (rt [.e (.i .eql .u8 0 (.k (.int .u8 95)))]))
set_option maxRecDepth 100000 in
theorem q315 : Eqn C sg 315 p315 := by
  intro n ds
  kernel_rfl
def p316 : T := cn 167 [0] (.i 1 (rt [.e tt]) (cn 165 [0] (rt [2])))
set_option maxRecDepth 100000 in
theorem q316 : Eqn C sg 316 p316 := by
  intro n ds
  kernel_rfl
def p317 : T := .i (.i .geq .u8 0 (.k (.int .u8 65))) (.i (.i .leq .u8 0 (.k (.int .u8 70))) (.l (.i .add .u8 0 (.k (.int .u8 32))) (cn 230 [.e (.k (.str [48, 49, 50, 51, 52, 53, 54, 55, 56, 57, 97, 98, 99, 100, 101, 102])), 1] (.i (i_geq 2 (Z 0)) (rt [2]) (rt [.e (Z 16)])))) (cn 230 [.e (.k (.str [48, 49, 50, 51, 52, 53, 54, 55, 56, 57, 97, 98, 99, 100, 101, 102])), 0] (.i (i_geq 1 (Z 0)) (rt [1]) (rt [.e (Z 16)])))) (cn 230 [.e (.k (.str [48, 49, 50, 51, 52, 53, 54, 55, 56, 57, 97, 98, 99, 100, 101, 102])), 0] (.i (i_geq 1 (Z 0)) (rt [1]) (rt [.e (Z 16)])))
set_option maxRecDepth 100000 in
theorem q317 : Eqn C sg 317 p317 := by
  intro n ds
  kernel_rfl
def p318 : T := .i (i_lss 0 (Z 0)) (rt [.e (.k (.agg [.int .i64 0, .lst 1 []])), .e (Z 1)]) (.i (i_gtr 0 (Z 18)) (rt [.e (.k (.agg [.int .i64 0, .lst 1 []])), .e (Z 1)]) (.i (i_neq (.a 1 0) (.a 2 0)) (rt [.e (.k (.agg [.int .i64 0, .lst 1 []])), .e (Z 2)]) (.i (i_eql (.a 1 0) (Z 0)) (rt [.e (.k (.agg [.int .i64 0, .lst 1 []])), .e (Z 2)]) (.i (i_eql 0 (Z 0)) (cn 367 [.r 1 2, .e (.k (.int .u64 0))] (rt [.e (Ac [3, 4] e0), .e (Z 0)])) (.i (i_eql 0 (Z 1)) (cn 324 [2] (cp 367 [1, .e (Ac [3, 4] e0), .e (.k (.int .u64 1))] (rt [.e (Ac [5, 6] e0), .e (Z 0)]))) (.i (i_eql 0 (Z 2)) (cn 368 [.r 1 2] (rt [3, .e (Z 0)])) (.j (.i 3 (cn 369 [.r 0 3] (rt [4, .e (Z 0)])) (.i (i_eql 0 (Z 7)) (cn 370 [.r 1 2] (rt [4, .e (Z 0)])) (.i (i_eql 0 (Z 8)) (cn 371 [.r 1 2] (rt [4, .e (Z 0)])) (.i (i_eql 0 (Z 9)) (cn 372 [.r 1 2] (rt [4, .e (Z 0)])) (.i (i_eql 0 (Z 10)) (cn 373 [.r 0 3] (rt [4, .e (Z 0)])) (.i (i_eql 0 (Z 11)) (cn 373 [.r 0 3] (rt [4, .e (Z 0)])) (.i (i_eql 0 (Z 12)) (cn 373 [.r 0 3] (rt [4, .e (Z 0)])) (cn 374 [.r 0 3] (cn 327 [4] (rt [5, .e (Z 0)])))))))))) (.i (i_eql 0 (Z 3)) (.jp 0 [.e tt]) (.i (i_eql 0 (Z 4)) (.jp 0 [.e tt]) (.i (i_eql 0 (Z 5)) (.jp 0 [.e tt]) (.jp 0 [.e (i_eql 0 (Z 6))])))))))))))
set_option maxRecDepth 100000 in
theorem q318 : Eqn C sg 318 p318 := by
  intro n ds
  kernel_rfl
def p319 : T := cn 33 [.r 0 8] (.i (i_eql (.a 8 0) (Z 2)) (.l (i_add 10 (Z 1)) (rt [.e (Ac [Z 1, .a 8 2, .a 8 3, .a 8 4, .a 8 1, .k (.lst 6 [])] e0), 9, 17, .r 11 6])) (cn 63 [.e (.k (.str [40])), .r 9 8] (.i 17 (cn 172 [.r 18 8] (cn 61 [.e (.k (.lst 1 [.str [41]])), .r 27 8] (rt [26, .r 35 8]))) (cn 63 [.e (.k (.str [123])), .r 18 8] (.i 26 (cn 375 [.e (Ac [.a 8 2, .a 8 3, .a 8 4] e0), .r 27 8] (rt [.r 35 9])) (cn 116 [.e (.k (.str [36, 115, 105, 103, 110, 101, 100])), .r 27 8] (.i 35 (.l (i_add 37 (Z 1)) (cn 376 [8, 36, 44, .r 38 6] (rt [.r 45 9]))) (cn 116 [.e (.k (.str [36, 117, 110, 115, 105, 103, 110, 101, 100])), .r 36 8] (.i 44 (.l (i_add 46 (Z 1)) (cn 376 [8, 45, 53, .r 47 6] (rt [.r 54 9]))) (cn 236 [.r 45 8] (.i (i_eql (.a 53 0) (Z 2)) (cn 116 [.e (.k (.str [40])), .r 54 8] (.i 62 (cn 376 [8, .r 63 8] (rt [.r 71 9])) (rt [53, .r 63 8]))) (rt [.r 53 9]))))))))))))
set_option maxRecDepth 100000 in
theorem q319 : Eqn C sg 319 p319 := by
  intro n ds
  kernel_rfl
def p320 : T := .i (sE_ 0 (.k (.str [94, 126]))) (rt [.e (.k (.str [126, 94]))]) (rt [0])
set_option maxRecDepth 100000 in
theorem q320 : Eqn C sg 320 p320 := by
  intro n ds
  kernel_rfl
def p321 : T := .i (i_eql 7 (Z 0)) (cn 63 [.e (.k (.str [101, 110, 100])), .r 0 8] (.i (.n 24) (cn 286 [.r 25 8] (.g (.rm 22 (.k (dm 1))) (.l (.ap 8 22 (.k (.lst 8 [.agg [.int .i64 0, .int .i64 0, .int .i64 0, .int .i64 0, .str [], .lst 6 [], .lst 8 [], .lst 9 []]]))) (.g (.q (i_leq (Z 0) (.l 22)) (i_lss (.l 22) (.l 42))) (.l (.st 8 42 (.l 22) 33) (.tl 321 [.r 34 8, .r 8 14, 43, 23])))))) (.ret false [.r 25 8, .r 8 16]))) (.ret false [.r 0 24])
set_option maxRecDepth 100000 in
theorem q321 : Eqn C sg 321 p321 := by
  intro n ds
  kernel_rfl
def p322 : T := .i 0 (cn 377 [.r 1 8, .r 14 5, .r 22 3] (.ret false [.e tt, .r 25 8, .r 9 5, .r 33 5, .r 19 3, .r 38 3])) (cn 63 [.e (.k (.str [102, 111, 114])), .r 1 8] (.i 25 (cn 239 [.r 26 8] (cn 286 [.r 35 8] (.ret false [.e ff, .r 45 8, .r 9 5, .e (Z 6), .r 15 3, 34, .r 19 3, 43, .e (Ls 8 [44]), 24]))) (cn 116 [.e (.k (.str [97, 115, 115, 101, 114, 116])), .r 26 8] (.i 34 (cn 378 [.r 35 8, .r 14 5, .r 22 3] (.ret false [.e ff, .r 43 8, .r 9 5, .r 51 5, .r 19 3, .r 56 3])) (cn 379 [.r 35 8, .r 14 5, .r 22 3] (.ret false [.e ff, .r 43 8, .r 9 5, .r 51 5, .r 19 3, .r 56 3]))))))
set_option maxRecDepth 100000 in
theorem q322 : Eqn C sg 322 p322 := by
  intro n ds
  kernel_rfl
def p323 : T := .j (.i 9 (cn 33 [.r 10 8] (cn 61 [.e (.k (.lst 1 [.str [46]])), .r 19 8] (cn 62 [.r 27 8] (cn 61 [.e (.k (.lst 1 [.str [40]])), .r 36 8] (cn 116 [.e (.k (.str [41])), .r 44 8] (.i (.n 52) (cn 172 [.r 53 8] (cn 61 [.e (.k (.lst 1 [.str [41]])), .r 62 8] (.g (.rm 8 (.k (dm 1))) (.l (.ap 5 8 (Ls 5 [Ac [35, .a 18 2, .a 18 3, .a 18 4, Ls 6 [61]] e0])) (cn 63 [.e (.k (.str [44])), .r 70 8] (.i (.n 79) (.ret false [.r 80 8, 78]) (.tl 323 [.r 80 8, 78]))))))) (cn 61 [.e (.k (.lst 1 [.str [41]])), .r 53 8] (.g (.rm 8 (.k (dm 1))) (.l (.ap 5 8 (Ls 5 [Ac [35, .a 18 2, .a 18 3, .a 18 4, .k (.lst 6 [])] e0])) (cn 63 [.e (.k (.str [44])), .r 61 8] (.i (.n 70) (.ret false [.r 71 8, 69]) (.tl 323 [.r 71 8, 69])))))))))))) (.ret false [.r 10 8, 8])) (.i (i_eql 7 (Z 0)) (.i (i_gtr (.l 8) (Z 0)) (.jp 0 [.e tt, .r 0 8]) (cn 116 [.e (.k (.str [41])), .r 0 8] (.jp 0 [.e (.n 9), .r 10 8]))) (.jp 0 [.e ff, .r 0 8]))
set_option maxRecDepth 100000 in
theorem q323 : Eqn C sg 323 p323 := by
  intro n ds
  kernel_rfl
def p324 : T := cn 184 [.e (.a 0 0)] (.o 380 [.e (.a 0 1), .e (.l (.a 0 1)), .e (Z 0), .e (Z 0), 1, .e (.k (.lst 1 [])), 2] (cn 185 [7, 9] (rt [.r 10 2])))
set_option maxRecDepth 100000 in
theorem q324 : Eqn C sg 324 p324 := by
  intro n ds
  kernel_rfl
def p325 : T := cn 324 [0] (cn 184 [.e (.a 0 0)] (cp 367 [.e (Ac [1, 2] e0), .e (Ac [3, 4] e0), .e (.k (.int .u64 1))] (rt [.e (Ac [5, 6] e0)])))
set_option maxRecDepth 100000 in
theorem q325 : Eqn C sg 325 p325 := by
  intro n ds
  kernel_rfl
def p326 : T := cn 381 [.e (.a 0 1)] (rt [1])
set_option maxRecDepth 100000 in
theorem q326 : Eqn C sg 326 p326 := by
  intro n ds
  kernel_rfl
def p327 : T := cn 184 [.e (Z 1)] (cn 382 [1, .e (Z 0), 0, 2] (rt [.e (Ac [1, 3] e0)]))
set_option maxRecDepth 100000 in
theorem q327 : Eqn C sg 327 p327 := by
  intro n ds
  kernel_rfl
def p328 : T := .i (i_lss 3 2) (.g (.q (i_leq (Z 0) 3) (i_lss 3 (.l 1))) (.t (.leaf (.int .u64)) (.g 1 3) (cn 383 [6] (.l (i_add 0 7) (.l (i_add 3 (Z 1)) (.tl 328 [8, .r 1 2, 9, .r 4 2])))))) (.ret false [.r 0 6])
set_option maxRecDepth 100000 in
theorem q328 : Eqn C sg 328 p328 := by
  intro n ds
  kernel_rfl
def p329 : T := .i (i_lss 3 2) (.g (.q (i_leq (Z 0) 3) (i_lss 3 (.l 1))) (.t (.leaf (.int .u64)) (.g 1 3) (.i (i_gtr 3 (Z 0)) (.i (.i .neq .u64 6 (.k (.int .u64 0))) (rt [0]) (.l (i_add 3 (Z 1)) (.tl 329 [.r 0 3, 7, .r 4 2]))) (.l (i_add 3 (Z 1)) (.tl 329 [.r 0 3, 7, .r 4 2]))))) (.ret false [.r 0 6])
set_option maxRecDepth 100000 in
theorem q329 : Eqn C sg 329 p329 := by
  intro n ds
  kernel_rfl
def p330 : T := .i (i_lss 2 1) (.g (.q (i_leq (Z 0) 2) (i_lss 2 (.l 0))) (.t ty_siisibil4ibiiiiibil1l9 (.g 0 2) (cn 384 [4, 3] (.i 5 (rt [2, 6]) (.l (i_add 2 (Z 1)) (.tl 330 [.r 0 2, 7, 6])))))) (.ret false [.r 0 4])
set_option maxRecDepth 100000 in
theorem q330 : Eqn C sg 330 p330 := by
  intro n ds
  kernel_rfl
def p331 : T := cn 250 [.e (Ac [1, 2] e0), .e (.a 0 4)] (.i (i_eql (.a 8 1) (Z 1)) (rt [.e (.k (.agg [.int .i64 32, .bool true])), .r 1 7]) (cn 385 [.r 0 8] (.i (i_gtr (.a 9 6) (Z 0)) (cn 253 [.e (Ac [.a 0 1, .a 0 2, .a 0 3] e0), .e (Z 11), .r 10 7] (rt [.e (Ac [.a 9 4, .a 9 5] e0), .r 17 7])) (rt [.e (Ac [.a 9 4, .a 9 5] e0), .r 10 7]))))
set_option maxRecDepth 100000 in
theorem q331 : Eqn C sg 331 p331 := by
  intro n ds
  kernel_rfl
def p332 : T := .g (.q tt (i_lss (Z 0) (.l (.a 0 5)))) (.t ty_iiiisl6 (.g (.a 0 5) (Z 0)) (cn 293 [8, .r 1 7] (cn 385 [0, .r 10 7] (.j (.g (.q tt (i_lss (Z 0) (.l (.a 0 5)))) (.t ty_iiiisl6 (.g (.a 0 5) (Z 0)) (cn 386 [26, .r 18 7] (.j (.i 36 (cn 253 [.e (Ac [.a 0 1, .a 0 2, .a 0 3] e0), .e (Z 3), .r 29 7] (.i (i_gtr (.a 17 6) (Z 0)) (rt [.e (Ac [.a 17 4, .a 17 5] e0), .r 37 7]) (rt [.e (.k (.agg [.int .i64 1, .bool false])), .r 37 7]))) (.i (i_gtr (.a 17 6) (Z 0)) (rt [.e (Ac [.a 17 4, .a 17 5] e0), .r 29 7]) (rt [.e (.k (.agg [.int .i64 1, .bool false])), .r 29 7]))) (.i 28 (.i (i_lss 27 (Z 0)) (.jp 0 [.e tt]) (.jp 0 [.e (i_geq 27 25)])) (.jp 0 [.e ff])))))) (.i (i_gtr (.a 17 6) (Z 0)) (.jp 0 [.e (.a 17 6)]) (.jp 0 [.e (.a 17 4)]))))))
set_option maxRecDepth 100000 in
theorem q332 : Eqn C sg 332 p332 := by
  intro n ds
  kernel_rfl
def p333 : T := .g (.q tt (i_lss (Z 0) (.l (.a 0 5)))) (.t ty_iiiisl6 (.g (.a 0 5) (Z 0)) (cn 338 [8, .r 1 7] (.g (.q tt (i_lss (Z 1) (.l (.a 0 5)))) (.t ty_iiiisl6 (.g (.a 0 5) (Z 1)) (cn 338 [17, .r 10 7] (cn 385 [0, .r 19 7] (.j (.i (i_lss 18 (Z 0)) (cn 253 [.e (Ac [.a 0 1, .a 0 2, .a 0 3] e0), .e (Z 3), .r 34 7] (rt [9, 18, .r 41 7])) (.i (i_lss 9 18) (cn 253 [.e (Ac [.a 0 1, .a 0 2, .a 0 3] e0), .e (Z 3), .r 34 7] (rt [9, 18, .r 41 7])) (.i (i_geq 9 (.a 26 4)) (cn 253 [.e (Ac [.a 0 1, .a 0 2, .a 0 3] e0), .e (Z 3), .r 34 7] (rt [9, 18, .r 41 7])) (rt [9, 18, .r 34 7])))) (.i (i_gtr (.a 26 6) (Z 0)) (cn 253 [.e (Ac [.a 0 1, .a 0 2, .a 0 3] e0), .e (Z 11), .r 27 7] (.jp 0 [.r 34 7])) (.jp 0 [.r 27 7])))))))))
set_option maxRecDepth 100000 in
theorem q333 : Eqn C sg 333 p333 := by
  intro n ds
  kernel_rfl
def p334 : T := .g (.q tt (i_lss (Z 0) (.l (.a 0 5)))) (.t ty_iiiisl6 (.g (.a 0 5) (Z 0)) (cn 293 [8, .r 1 7] (.g (.q tt (i_lss (Z 1) (.l (.a 0 5)))) (.t ty_iiiisl6 (.g (.a 0 5) (Z 1)) (cn 293 [17, .r 10 7] (.j (.i 26 (rt [.e (.k (.agg [.int .i64 1, .bool false])), .r 19 7]) (.i (sE_ (.a 0 4) (.k (.str [60, 60]))) (rt [9, .r 19 7]) (.i (sE_ (.a 0 4) (.k (.str [62, 62]))) (rt [9, .r 19 7]) (.i (sE_ (.a 0 4) (.k (.str [60, 60, 60]))) (rt [9, .r 19 7]) (.i (sE_ (.a 0 4) (.k (.str [62, 62, 62]))) (rt [9, .r 19 7]) (cn 335 [9, 18] (rt [27, .r 19 7]))))))) (.i (sE_ (.a 0 4) (.k (.str [60]))) (.jp 0 [.e tt]) (.i (sE_ (.a 0 4) (.k (.str [60, 61]))) (.jp 0 [.e tt]) (.i (sE_ (.a 0 4) (.k (.str [62]))) (.jp 0 [.e tt]) (.i (sE_ (.a 0 4) (.k (.str [62, 61]))) (.jp 0 [.e tt]) (.i (sE_ (.a 0 4) (.k (.str [61, 61]))) (.jp 0 [.e tt]) (.i (sE_ (.a 0 4) (.k (.str [33, 61]))) (.jp 0 [.e tt]) (.i (sE_ (.a 0 4) (.k (.str [38, 38]))) (.jp 0 [.e tt]) (.jp 0 [.e (sE_ (.a 0 4) (.k (.str [124, 124])))]))))))))))))))
set_option maxRecDepth 100000 in
theorem q334 : Eqn C sg 334 p334 := by
  intro n ds
  kernel_rfl
def p335 : T := .l (.mx .i64 (.a 0 0) (.a 1 0)) (.i (.a 0 1) (rt [.e (Ac [2, .a 1 1] e0)]) (rt [.e (Ac [2, ff] e0)]))
set_option maxRecDepth 100000 in
theorem q335 : Eqn C sg 335 p335 := by
  intro n ds
  kernel_rfl
def p336 : T := .o 387 [.e (Z 0), 0, .e (.l 0), .e (Z 0), .r 1 7] (rt [8, .r 12 7])
set_option maxRecDepth 100000 in
theorem q336 : Eqn C sg 336 p336 := by
  intro n ds
  kernel_rfl
def p337 : T := .i (i_gtr 1 (Z 128)) (cn 253 [.e (Ac [.a 0 1, .a 0 2, .a 0 3] e0), .e (Z 2), .r 3 7] (rt [.e (Ac [1, 2] e0), .r 10 7])) (rt [.e (Ac [1, 2] e0), .r 3 7])
set_option maxRecDepth 100000 in
theorem q337 : Eqn C sg 337 p337 := by
  intro n ds
  kernel_rfl
def p338 : T := cn 71 [0, .e (Ac [2] e0)] (.i (i_neq 10 (Z 0)) (cn 253 [.r 9 2, .r 1 7] (rt [8, .r 11 7])) (rt [8, .r 1 7]))
set_option maxRecDepth 100000 in
theorem q338 : Eqn C sg 338 p338 := by
  intro n ds
  kernel_rfl
def p339 : T := .o 388 [.e (.a 0 5), .e (.l (.a 0 5)), .e (Z 0), .r 1 7, .e (.a 0 0), .e (.a 0 1), .e (.a 0 2), .e (.a 0 3), .e (.a 0 4), .e (.a 0 5), .e (Z 0), .e ff, .e (Z 0), .e ff] (cn 389 [22, .e (.k (.str [36]))] (.i 28 (.i (i_neq (.l 23) (Z 1)) (cn 253 [.e (Ac [19, 20, 21] e0), .e (Z 13), .r 11 7] (rt [.e (Ac [26, sE_ 22 (.k (.str [36, 115, 105, 103, 110, 101, 100]))] e0), .r 29 7])) (rt [.e (Ac [26, sE_ 22 (.k (.str [36, 115, 105, 103, 110, 101, 100]))] e0), .r 11 7])) (cn 250 [.e (Ac [11, 12] e0), 22] (.i (i_eql (.a 29 1) (Z 0)) (cn 253 [.e (Ac [19, 20, 21] e0), .e (Z 9), .r 11 7] (rt [.e (Ac [.a 29 8, .a 29 9] e0), .r 30 7])) (.i (i_neq (.a 29 1) (Z 3)) (cn 253 [.e (Ac [19, 20, 21] e0), .e (Z 11), .r 11 7] (rt [.e (Ac [.a 29 8, .a 29 9] e0), .r 30 7])) (.i (i_neq (.l (.a 29 7)) (.l 23)) (cn 253 [.e (Ac [19, 20, 21] e0), .e (Z 13), .r 11 7] (rt [.e (Ac [.a 29 8, .a 29 9] e0), .r 30 7])) (rt [.e (Ac [.a 29 8, .a 29 9] e0), .r 11 7])))))))
set_option maxRecDepth 100000 in
theorem q339 : Eqn C sg 339 p339 := by
  intro n ds
  kernel_rfl
def p340 : T := .i (i_eql 0 (Z 0)) (rt [.e (Ac [Z 6, 0, .a 1 2, Z 0, Z 0, ff, Z 0, .k (.lst 1 []), Ls 9 [1]] e0)]) (.i (i_eql 0 (Z 1)) (rt [.e (Ac [Z 6, 0, .a 1 2, Z 0, Z 0, ff, Z 0, .k (.lst 1 []), Ls 9 [1]] e0)]) (rt [.e (Ac [Z 6, 0, Z 1, Z 0, Z 0, ff, Z 0, .k (.lst 1 []), Ls 9 [1]] e0)]))
set_option maxRecDepth 100000 in
theorem q340 : Eqn C sg 340 p340 := by
  intro n ds
  kernel_rfl
def p341 : T := .l (i_add 8 (Z 1)) (.i (i_gtr 9 (Z 20000)) (cn 253 [0, .e (Z 19), .r 2 6, 9] (rt [1, .r 10 7])) (rt [.r 1 7, 9]))
set_option maxRecDepth 100000 in
theorem q341 : Eqn C sg 341 p341 := by
  intro n ds
  kernel_rfl
def p342 : T := .j (.i (i_lss 9 (Z 0)) (rt [.e (.k (.agg [.int .i64 0, .int .i64 0, .int .i64 0, .int .i64 0, .int .i64 0, .bool false, .int .i64 0, .lst 1 [], .lst 9 []])), .e ff, .r 2 7]) (.j (.j (.g (.q tt (i_lss (Z 0) (.l (.a 0 5)))) (.t ty_iiiisl6 (.g (.a 0 5) (Z 0)) (cn 294 [12, .r 1 8] (.g (.q tt (i_lss (Z 1) (.l (.a 0 5)))) (.t ty_iiiisl6 (.g (.a 0 5) (Z 1)) (cn 294 [21, 1, .r 14 7] (cn 391 [11, 13, 22] (.i (sE_ (.a 0 4) (.k (.str [126, 94]))) (cn 340 [.e (Z 0), 30] (rt [31, .e tt, .r 23 7])) (rt [30, .e tt, .r 23 7]))))))))) (.i 10 (.l (i_add 9 (Z 2)) (.jp 0 [11])) (.jp 0 [9]))) (.i (.a 1 1) (.i (i_eql 9 (Z 3)) (.jp 0 [.e tt]) (.jp 0 [.e (i_eql 9 (Z 4))])) (.jp 0 [.e ff])))) (.i (sE_ (.a 0 4) (.k (.str [43]))) (.jp 0 [.e (Z 0)]) (.i (sE_ (.a 0 4) (.k (.str [45]))) (.jp 0 [.e (Z 1)]) (.i (sE_ (.a 0 4) (.k (.str [42]))) (.jp 0 [.e (Z 2)]) (.i (sE_ (.a 0 4) (.k (.str [47]))) (.jp 0 [.e (Z 3)]) (.i (sE_ (.a 0 4) (.k (.str [37]))) (.jp 0 [.e (Z 4)]) (.i (sE_ (.a 0 4) (.k (.str [38]))) (.jp 0 [.e (Z 7)]) (.i (sE_ (.a 0 4) (.k (.str [124]))) (.jp 0 [.e (Z 8)]) (.j (.i 9 (.jp 0 [.e (Z 9)]) (.i (sE_ (.a 0 4) (.k (.str [60, 60]))) (cn 390 [.r 0 9] (rt [10, .e tt, .r 11 7])) (.i (sE_ (.a 0 4) (.k (.str [60, 60, 60]))) (cn 390 [.r 0 9] (rt [10, .e tt, .r 11 7])) (.i (sE_ (.a 0 4) (.k (.str [62, 62]))) (cn 390 [.r 0 9] (rt [10, .e tt, .r 11 7])) (.i (sE_ (.a 0 4) (.k (.str [62, 62, 62]))) (cn 390 [.r 0 9] (rt [10, .e tt, .r 11 7])) (.jp 0 [.e (Z (-1))])))))) (.i (sE_ (.a 0 4) (.k (.str [94]))) (.jp 0 [.e tt]) (.jp 0 [.e (sE_ (.a 0 4) (.k (.str [126, 94])))]))))))))))
set_option maxRecDepth 100000 in
theorem q342 : Eqn C sg 342 p342 := by
  intro n ds
  kernel_rfl
def p343 : T := cn 293 [.r 0 8] (cn 294 [0, .r 8 8] (rt [.r 16 8]))
set_option maxRecDepth 100000 in
theorem q343 : Eqn C sg 343 p343 := by
  intro n ds
  kernel_rfl
def p344 : T := rt [.e (Ac [Z 8, Z 0, .a 1 2, Z 0, Z 0, ff, Z 0, .k (.lst 1 []), Ls 9 [0, 1, 2]] e0)]
set_option maxRecDepth 100000 in
theorem q344 : Eqn C sg 344 p344 := by
  intro n ds
  kernel_rfl
def p345 : T := .i (i_eql (.a 0 0) (Z 1)) (cn 169 [.e (.a 0 4)] (cn 197 [.e (Ac [.a 8 0, .a 8 1] e0)] (rt [10, .r 1 7]))) (.i (i_eql (.a 0 0) (Z 2)) (cn 250 [.e (Ac [1, 2] e0), .e (.a 0 4)] (.i (i_eql (.a 8 1) (Z 1)) (.l (.cv .u64 (.a 8 2)) (cn 130 [.e (Z 32), .e (Ls 1 [9])] (cn 197 [10] (rt [12, .r 1 7])))) (cn 196 [.e (.a 8 2), .e (Ac [.a 8 3, .a 8 4, .a 8 5, .a 8 6] e0)] (rt [9, .r 1 7])))) (.i (i_eql (.a 0 0) (Z 8)) (cn 392 [.r 0 8] (rt [.r 8 8])) (.i (i_eql (.a 0 0) (Z 9)) (cn 333 [.r 0 8] (cn 250 [.e (Ac [10, 11] e0), .e (.a 0 4)] (cn 196 [.e (.a 17 2), .e (Ac [.a 17 3, .a 17 4, .a 17 5, .a 17 6] e0)] (.l (i_sub 8 9) (.l (i_add 19 (Z 1)) (cn 295 [18, 9, 20] (rt [21, .r 10 7]))))))) (.i (i_eql (.a 0 0) (Z 3)) (cn 393 [.r 0 8] (rt [.r 8 8])) (.i (i_eql (.a 0 0) (Z 4)) (cn 394 [.r 0 8] (rt [.r 8 8])) (.i (i_eql (.a 0 0) (Z 6)) (cn 395 [.e (.a 0 5), .r 1 7] (cn 396 [15] (rt [16, .r 8 7]))) (.i (i_eql (.a 0 0) (Z 7)) (.g (.q tt (i_lss (Z 0) (.l (.a 0 5)))) (.t ty_iiiisl6 (.g (.a 0 5) (Z 0)) (cn 338 [8, .r 1 7] (.g (.q (.q tt (i_leq (Z 1) (.l (.a 0 5)))) (i_leq (.l (.a 0 5)) (.l (.a 0 5)))) (.l (.dt 6 (.a 0 5) (Z 1) (.l (.a 0 5))) (cn 395 [17, .r 10 7] (.o 397 [9, .e (Z 0), .r 18 7, .e (Z 0), .e (Z 0), .e (Z 0), .e (Z 0), .e (Z 0), .e ff, .e (Z 0), .e (.k (.lst 9 [])), 25, .e (.k (.lst 1 [])), .e (.k (.lst 9 []))] (.l (i_add 34 (.l 42)) (cn 396 [42] (rt [47, .r 28 6, 46])))))))))) (cn 398 [.r 0 8] (rt [.r 8 8])))))))))
set_option maxRecDepth 100000 in
theorem q345 : Eqn C sg 345 p345 := by
  intro n ds
  kernel_rfl
def p346 : T := .l (i_add 1 (Z 1)) (rt [2])
set_option maxRecDepth 100000 in
theorem q346 : Eqn C sg 346 p346 := by
  intro n ds
  kernel_rfl
def p347 : T := .i (i_lss 2 1) (.g (.q (i_leq (Z 0) 2) (i_lss 2 (.l 0))) (.t ty_iiiiibil1l9 (.g 0 2) (cn 296 [4, 3] (.l (i_add 2 (Z 1)) (.tl 347 [.r 0 2, 6, 5]))))) (.ret false [.r 0 4])
set_option maxRecDepth 100000 in
theorem q347 : Eqn C sg 347 p347 := by
  intro n ds
  kernel_rfl
def p348 : T := .o 399 [1, .e (.l 1), .e (Z 0), .e (.a 0 0), .e (.a 0 1), .e (.a 0 2), .e (.a 0 3), .e (.a 0 4), .e (.a 0 5), .e (Z 0), .e (Z 0), .e (Z 0), .e (Z 0), .e (.k (.str [])), .e (Z 0), .e (Z 0), .e (Z 0), .e (Z 0), .e (.k (.str [])), .e (.k (.lst 6 [])), .e (.k (.lst 6 []))] (rt [.e (Ac [16, 17, 18, 19, 20, 22] e0)])
set_option maxRecDepth 100000 in
theorem q348 : Eqn C sg 348 p348 := by
  intro n ds
  kernel_rfl
def p349 : T := cn 86 [12, .r 1 5, .r 14 11, .r 26 6] (.g (.rm 25 54) (.l (.ap 20 25 54) (rt [.r 32 5, .r 6 8, .r 37 11, 55, .r 48 6])))
set_option maxRecDepth 100000 in
theorem q349 : Eqn C sg 349 p349 := by
  intro n ds
  kernel_rfl
def p350 : T := .i (i_lss 1 0) (.g (.q (i_leq (Z 0) 1) (i_lss 1 (.l 2))) (.t ty_siisibil4ibiiiiibil1l9 (.g 2 1) (cn 351 [4, 3] (.i 5 (rt [.r 1 2, 6]) (.l (i_add 1 (Z 1)) (.tl 350 [0, 7, 2, 6])))))) (.ret false [.r 0 4])
set_option maxRecDepth 100000 in
theorem q350 : Eqn C sg 350 p350 := by
  intro n ds
  kernel_rfl
def p351 : T := rt [.e (i_eql (.a 0 1) 1), 1]
set_option maxRecDepth 100000 in
theorem q351 : Eqn C sg 351 p351 := by
  intro n ds
  kernel_rfl
def p352 : T := .i (i_eql (.a 0 0) (Z 8)) (.g (.q tt (i_lss (Z 0) (.l (.a 0 5)))) (.t ty_iiiisl6 (.g (.a 0 5) (Z 0)) (cn 70 [.e (Ac [3, 4] e0)] (cn 71 [.r 25 2] (.j (.j (.i 32 (cn 42 [.e (Ac [.a 0 1, .a 0 2, .a 0 3] e0), .e (Z 3), .r 7 7, .r 17 8] (.i (i_eql 29 (Z 0)) (.i (i_eql (.a 2 3) (Z 0)) (rt [.e (Ac [1, 27, Z 1, .k (.lst 9 [])] e0), .e (Z 1), .r 3 4, .r 33 7, .r 14 3, .r 40 8]) (.g (.q tt (i_lss (Z 0) (.l (.a 0 5)))) (.t ty_iiiisl6 (.g (.a 0 5) (Z 0)) (cn 354 [48, .e (Z 0), .r 3 4, .r 33 7, .r 14 3, .r 40 8] (rt [.e (Ac [1, Z 0, Z 0, Ls 9 [49]] e0), 31, .r 50 22]))))) (.g (.q tt (i_lss (Z 0) (.l (.a 0 5)))) (.t ty_iiiisl6 (.g (.a 0 5) (Z 0)) (cn 354 [48, .e (Z 0), .r 3 4, .r 33 7, .r 14 3, .r 40 8] (rt [.e (Ac [1, Z 0, Z 0, Ls 9 [49]] e0), 31, .r 50 22])))))) (.i (i_eql 29 (Z 0)) (.i (i_eql (.a 2 3) (Z 0)) (rt [.e (Ac [1, 27, Z 1, .k (.lst 9 [])] e0), .e (Z 1), .r 3 22]) (.g (.q tt (i_lss (Z 0) (.l (.a 0 5)))) (.t ty_iiiisl6 (.g (.a 0 5) (Z 0)) (cn 354 [33, .e (Z 0), .r 3 22] (rt [.e (Ac [1, Z 0, Z 0, Ls 9 [34]] e0), 31, .r 35 22]))))) (.g (.q tt (i_lss (Z 0) (.l (.a 0 5)))) (.t ty_iiiisl6 (.g (.a 0 5) (Z 0)) (cn 354 [33, .e (Z 0), .r 3 22] (rt [.e (Ac [1, Z 0, Z 0, Ls 9 [34]] e0), 31, .r 35 22])))))) (.i (i_eql 29 (Z 0)) (.i (i_lss 27 (Z 0)) (.jp 0 [.e tt]) (.jp 0 [.e (i_geq 27 30)])) (.jp 0 [.e ff]))) (.i (i_gtr (.a 2 3) (Z 0)) (.jp 0 [.e (.a 2 3), .e (.a 2 1)]) (.jp 0 [.e (.a 2 1), .e (Z 1)]))))))) (.i (i_eql (.a 0 0) (Z 9)) (.g (.q tt (i_lss (Z 0) (.l (.a 0 5)))) (.t ty_iiiisl6 (.g (.a 0 5) (Z 0)) (cn 39 [25, .r 3 22] (.g (.q tt (i_lss (Z 1) (.l (.a 0 5)))) (.t ty_iiiisl6 (.g (.a 0 5) (Z 1)) (cn 39 [49, .r 27 22] (.j (.i 73 (cn 42 [.e (Ac [.a 0 1, .a 0 2, .a 0 3] e0), .e (Z 3), .r 55 7, .r 65 8] (.l (i_sub 26 50) (.l (i_add 89 (Z 1)) (.l (i_sub 26 50) (.l (i_add 91 (Z 1)) (.l (.mn .i64 92 (.a 2 1)) (.l (.mx .i64 (Z 1) 93) (rt [.e (Ac [1, 50, 90, .k (.lst 9 [])] e0), 94, .r 51 4, .r 74 7, .r 62 3, .r 81 8])))))))) (.l (i_sub 26 50) (.l (i_add 74 (Z 1)) (.l (i_sub 26 50) (.l (i_add 76 (Z 1)) (.l (.mn .i64 77 (.a 2 1)) (.l (.mx .i64 (Z 1) 78) (rt [.e (Ac [1, 50, 75, .k (.lst 9 [])] e0), 79, .r 51 22])))))))) (.i (i_lss 50 (Z 0)) (.jp 0 [.e tt]) (.i (i_lss 26 50) (.jp 0 [.e tt]) (.jp 0 [.e (i_geq 26 (.a 2 1))])))))))))) (rt [.e (Ac [1, Z 0, .a 2 1, .k (.lst 9 [])] e0), .e (.a 2 1), .r 3 22]))
set_option maxRecDepth 100000 in
theorem q352 : Eqn C sg 352 p352 := by
  intro n ds
  kernel_rfl
def p353 : T := .i (i_eql (.a 1 2) (.a 0 2)) (rt [2]) (.l (i_add (.a 1 1) (.a 1 2)) (.i (i_lss 3 (.a 0 2)) (.l (i_sub (.a 0 2) 3) (cn 295 [0, .r 3 2] (.i (i_gtr (.a 1 1) (Z 0)) (cn 295 [0, .e (Z 0), .e (.a 1 1)] (rt [.e (Ac [Z 9, Z 0, .a 0 2, Z 0, Z 0, ff, Z 0, .k (.lst 1 []), Ls 9 [5, 2, 6]] e0)])) (rt [.e (Ac [Z 9, Z 0, .a 0 2, Z 0, Z 0, ff, Z 0, .k (.lst 1 []), Ls 9 [5, 2]] e0)])))) (.i (i_gtr (.a 1 1) (Z 0)) (cn 295 [0, .e (Z 0), .e (.a 1 1)] (rt [.e (Ac [Z 9, Z 0, .a 0 2, Z 0, Z 0, ff, Z 0, .k (.lst 1 []), Ls 9 [2, 4]] e0)])) (rt [.e (Ac [Z 9, Z 0, .a 0 2, Z 0, Z 0, ff, Z 0, .k (.lst 1 []), Ls 9 [2]] e0)]))))
set_option maxRecDepth 100000 in
theorem q353 : Eqn C sg 353 p353 := by
  intro n ds
  kernel_rfl
def p354 : T := cn 192 [.e (Ac [2, 3] e0), .r 0 2] (cn 42 [.r 25 2, .r 6 7, .r 16 8] (rt [24, .r 2 4, .r 27 7, .r 13 3, .r 34 8]))
set_option maxRecDepth 100000 in
theorem q354 : Eqn C sg 354 p354 := by
  intro n ds
  kernel_rfl
end Go.Proofs.YtpmjplpnpnmlcaaGreatDoor
