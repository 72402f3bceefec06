import Derived.Test.YtpmjplpnpnmlcaaGreatDoorIf0
import Derived.KernelRfl
set_option linter.all false
namespace Go.Proofs.YtpmjplpnpnmlcaaGreatDoor
open Go.AE
def p355 : T := .i (i_eql (.a 0 0) (Z 2)) (.i (i_geq (.a 0 3) (Z 0)) (.i (i_lss (.a 0 3) (.l 1)) (.g (.q (i_leq (Z 0) (.a 0 3)) (i_lss (.a 0 3) (.l 1))) (.t ty_iiiiibil1l9 (.g 1 (.a 0 3)) (rt [2, 1]))) (rt [.r 0 2])) (rt [.r 0 2])) (.o 400 [.e (.a 0 8), .e (.l (.a 0 8)), .e (Z 0), 1, .e (.a 0 0), .e (.a 0 1), .e (.a 0 2), .e (.a 0 3), .e (.a 0 4), .e (.a 0 5), .e (.a 0 6), .e (.a 0 7), .e (Z 0), .e (Z 0), .e (Z 0), .e (Z 0), .e (Z 0), .e ff, .e (Z 0), .e (.k (.lst 9 [])), .e (.k (.lst 1 [])), .e (.k (.lst 9 []))] (rt [.e (Ac [6, 7, 8, 9, 10, 11, 12, 13, 21] e0), 5]))
set_option maxRecDepth 100000 in
theorem q355 : Eqn C sg 355 p355 := by
  intro n ds
  kernel_rfl
def p356 : T := .i (.em 0) (.ag (rt [.e (.k (.lst 9 []))]) (.g (.rm (.k (dm 0)) 0) (.l (.ap 9 (.k (.lst 9 [])) 0) (rt [1])))) (.g (.rm (.k (dm 0)) 0) (.l (.ap 9 (.k (.lst 9 [])) 0) (rt [1])))
set_option maxRecDepth 100000 in
theorem q356 : Eqn C sg 356 p356 := by
  intro n ds
  kernel_rfl
def p357 : T := .g (.q (.q tt tt) (i_leq (Z 1) (.l 6))) (.l (.dt 8 6 (Z 0) (Z 1)) (cn 143 [31, .r 8 23] (rt [.r 0 8, .r 32 23])))
set_option maxRecDepth 100000 in
theorem q357 : Eqn C sg 357 p357 := by
  intro n ds
  kernel_rfl
def p358 : T := .g (.q (.q tt (i_leq (Z 1) (.l 6))) (i_leq (.l 6) (.l 6))) (.l (.dt 8 6 (Z 1) (.l 6)) (cn 143 [31, .r 8 23] (rt [.r 0 8, .r 32 23])))
set_option maxRecDepth 100000 in
theorem q358 : Eqn C sg 358 p358 := by
  intro n ds
  kernel_rfl
def p359 : T := .i (i_lss 2 1) (.g (.q (i_leq (Z 0) 2) (i_lss 2 (.l 39))) (.t ty_iiiiibil1l9 (.g 39 2) (.g (.q (i_leq (Z 0) 2) (i_lss 2 (.l 40))) (.t ty_iiiiibil1l9 (.g 40 2) (cn 401 [.r 47 2] (.i (.n 49) (.g (.q (i_leq (Z 0) 2) (i_lss 2 (.l 39))) (.t ty_iiiiibil1l9 (.g 39 2) (.g (.q (i_leq (Z 0) 2) (i_lss 2 (.l 40))) (.t ty_iiiiibil1l9 (.g 40 2) (cn 344 [.e (Ac [30, 31, 32, 33, 34, 35, 36, 37, 38] e0), .r 50 2] (.g (.q (i_leq (Z 0) 2) (i_lss 2 (.l 40))) (.l (.st 9 40 2 52) (.g (.q (i_leq (Z 0) 2) (i_lss 2 (.l 53))) (.t ty_iiiiibil1l9 (.g 53 2) (cn 252 [54] (.l (i_add 0 55) (.l (.mn .i64 56 (Z 20001)) (.l (i_add 2 (Z 1)) (.tl 359 [57, 1, 58, .r 3 37, 53, .r 41 6])))))))))))))) (.g (.q (i_leq (Z 0) 2) (i_lss 2 (.l 40))) (.t ty_iiiiibil1l9 (.g 40 2) (cn 252 [50] (.l (i_add 0 51) (.l (.mn .i64 52 (Z 20001)) (.l (i_add 2 (Z 1)) (.tl 359 [53, 1, 54, .r 3 44]))))))))))))) (.ret false [.r 0 47])
set_option maxRecDepth 100000 in
theorem q359 : Eqn C sg 359 p359 := by
  intro n ds
  kernel_rfl
def p360 : T := .o 402 [0, .e (.l 0), .e (Z 0)] (rt [.e (Z (-1))])
set_option maxRecDepth 100000 in
theorem q360 : Eqn C sg 360 p360 := by
  intro n ds
  kernel_rfl
def p361 : T := .i (i_lss 2 1) (.g (.q (i_leq (Z 0) 2) (i_lss 2 (.l 0))) (.t ty_l6iiiisl6l8l9 (.g 0 2) (cn 258 [.e (Ac [.a 26 1, .a 26 2, .a 26 3, .a 26 4, .a 26 5, .a 26 6, .a 26 7, .a 26 8] e0), .r 3 23] (.l (i_add 2 (Z 1)) (.tl 361 [.r 0 2, 50, .r 27 23]))))) (.ret false [.r 0 26])
set_option maxRecDepth 100000 in
theorem q361 : Eqn C sg 361 p361 := by
  intro n ds
  kernel_rfl
def p362 : T := .i (.em 0) (.ag (rt [.e (.k (.lst 9 []))]) (.g (.rm (.k (dm 0)) 0) (.l (.ap 9 (.k (.lst 9 [])) 0) (rt [1])))) (.g (.rm (.k (dm 0)) 0) (.l (.ap 9 (.k (.lst 9 [])) 0) (rt [1])))
set_option maxRecDepth 100000 in
theorem q362 : Eqn C sg 362 p362 := by
  intro n ds
  kernel_rfl
def p364 : T := cn 356 [36] (cn 403 [.r 2 9, .r 20 16, 43, .r 37 6] (cn 356 [36] (cn 404 [.r 11 9, .r 53 16, 76, .r 70 6] (.i (i_neq 96 (Z 0)) (rt [.r 44 9, .r 77 32]) (.o 405 [.e (Z 0), .e (.l 102), .e (Z 0), .r 44 9, .r 77 25, .e (.a 0 0), .e (.a 0 1), .e (.a 0 2), .e (.a 1 0), .e (.a 1 1), .e (.a 1 2), .e (.a 1 3), .e (.a 1 4), .e (.a 1 5), .e (.a 1 6), .e (.a 1 7), .e (.a 1 8), 69, .r 102 7] (.i (i_gtr 109 (Z 20000)) (cn 42 [.e (Ac [146, 147, 148] e0), .e (Z 19), .r 134 7, .r 144 2, .r 160 6] (rt [.r 112 22, .r 166 7, .r 141 3, .r 173 2, 159, .r 175 6])) (rt [.r 112 34, .r 159 7])))))))
set_option maxRecDepth 100000 in
theorem q364 : Eqn C sg 364 p364 := by
  intro n ds
  kernel_rfl
def p365 : T := .i (i_eql 22 (Z 0)) (cn 40 [.e (Ac [4, 5] e0), 0, 2] (.g (.q tt (i_lss (Z 1) (.l 1))) (.t ty_iiiisl6 (.g 1 (Z 1)) (cn 39 [39, .e (.a 38 0), .e (.a 38 1), .r 6 2, .r 16 12, .r 31 6] (.i (i_eql 40 (Z 0)) (rt [.r 4 12, .r 45 18, 37]) (.i (i_neq 51 (Z 0)) (rt [.r 4 12, .r 45 18, 37]) (.i (i_eql 3 (Z 64)) (cn 42 [.e (Ac [28, 29, 30] e0), .e (Z 19), .r 45 7, .r 55 8] (rt [.r 4 12, .r 63 7, .r 52 3, .r 70 8, 37])) (cn 406 [2, .r 41 4, .r 8 8, .r 45 12, .r 4 4, .r 57 6, 37] (.g (.q tt (i_lss (Z 2) (.l 1))) (.t ty_iiiisl6 (.g 1 (Z 2)) (cn 39 [98, .r 63 4, .r 75 12, .r 91 6] (.l (i_add 3 (Z 1)) (.tl 365 [.r 0 2, 99, 122, .r 87 4, .r 67 8, .r 104 12, .r 28 3, .r 116 6, 97]))))))))))))) (.ret false [.r 0 38])
set_option maxRecDepth 100000 in
theorem q365 : Eqn C sg 365 p365 := by
  intro n ds
  kernel_rfl
def p366 : T := .i (i_lss 2 1) (.g (.q (i_leq (Z 0) 2) (i_lss 2 (.l 0))) (.t ty_siiil6 (.g 0 2) (cn 407 [8, .r 3 5] (.i 9 (rt [2, .r 10 5]) (.l (i_add 2 (Z 1)) (.tl 366 [.r 0 2, 15, .r 10 5])))))) (.ret false [.r 0 8])
set_option maxRecDepth 100000 in
theorem q366 : Eqn C sg 366 p366 := by
  intro n ds
  kernel_rfl
def p367 : T := cn 184 [.e (.a 0 0)] (.o 408 [2, .e (.l 4), .e (Z 0), .e (.a 0 0), .e (.a 0 1), .e (.a 1 0), .e (.a 1 1), .e (Z 0), 3, .e (.k (.lst 1 [])), 4] (cn 185 [13, 15] (rt [.r 16 2])))
set_option maxRecDepth 100000 in
theorem q367 : Eqn C sg 367 p367 := by
  intro n ds
  kernel_rfl
def p368 : T := cn 184 [.e (.a 0 0)] (.o 409 [.e (.l (.a 0 1)), .e (Z 0), .e (.a 0 0), .e (.a 0 1), .e (.a 1 0), .e (.a 1 1), .e (Z 0), 2, .e (.k (.lst 1 [])), 3] (cn 185 [11, 13] (rt [.e (Ac [14, 15] e0)])))
set_option maxRecDepth 100000 in
theorem q368 : Eqn C sg 368 p368 := by
  intro n ds
  kernel_rfl
def p369 : T := cn 410 [.r 1 2] (.i (i_eql 0 (Z 5)) (cn 411 [.r 1 2] (.i (i_eql 0 (Z 3)) (rt [5]) (.i (i_eql 0 (Z 5)) (rt [5]) (rt [6])))) (.i (i_eql 0 (Z 6)) (cn 411 [.r 1 2] (.i (i_eql 0 (Z 3)) (rt [5]) (.i (i_eql 0 (Z 5)) (rt [5]) (rt [6])))) (.i (i_eql 0 (Z 3)) (rt [3]) (.i (i_eql 0 (Z 5)) (rt [3]) (rt [4])))))
set_option maxRecDepth 100000 in
theorem q369 : Eqn C sg 369 p369 := by
  intro n ds
  kernel_rfl
def p370 : T := cn 184 [.e (.a 0 0)] (.o 412 [.e (.l 3), .e (Z 0), .e (.a 0 0), .e (.a 0 1), .e (.a 1 0), .e (.a 1 1), .e (Z 0), 2, .e (.k (.lst 1 [])), 3] (rt [.e (Ac [11, 13] e0)]))
set_option maxRecDepth 100000 in
theorem q370 : Eqn C sg 370 p370 := by
  intro n ds
  kernel_rfl
def p371 : T := cn 184 [.e (.a 0 0)] (.o 413 [.e (.l 3), .e (Z 0), .e (.a 0 0), .e (.a 0 1), .e (.a 1 0), .e (.a 1 1), .e (Z 0), 2, .e (.k (.lst 1 [])), 3] (rt [.e (Ac [11, 13] e0)]))
set_option maxRecDepth 100000 in
theorem q371 : Eqn C sg 371 p371 := by
  intro n ds
  kernel_rfl
def p372 : T := cn 184 [.e (.a 0 0)] (.o 414 [.e (.l 3), .e (Z 0), .e (.a 0 0), .e (.a 0 1), .e (.a 1 0), .e (.a 1 1), .e (Z 0), 2, .e (.k (.lst 1 [])), 3] (rt [.e (Ac [11, 13] e0)]))
set_option maxRecDepth 100000 in
theorem q372 : Eqn C sg 372 p372 := by
  intro n ds
  kernel_rfl
def p373 : T := cn 291 [2, .e (.a 1 0)] (.i (i_eql 0 (Z 10)) (cn 415 [1, 3] (rt [.e (Ac [4, 5] e0)])) (.i (i_eql 0 (Z 11)) (cn 416 [1, 3, .e ff] (rt [4])) (cn 417 [1] (cn 416 [1, .r 3 2] (rt [5])))))
set_option maxRecDepth 100000 in
theorem q373 : Eqn C sg 373 p373 := by
  intro n ds
  kernel_rfl
def p374 : T := .i (i_eql 0 (Z 13)) (cn 418 [.r 1 2] (rt [3])) (.i (i_eql 0 (Z 14)) (cn 418 [.r 1 2] (rt [.e (.n 3)])) (.i (i_eql 0 (Z 15)) (cn 419 [.r 1 2] (rt [3])) (.i (i_eql 0 (Z 16)) (cn 419 [2, 1] (rt [.e (.n 3)])) (.i (i_eql 0 (Z 17)) (cn 420 [.r 1 2] (rt [3])) (cn 420 [2, 1] (rt [.e (.n 3)]))))))
set_option maxRecDepth 100000 in
theorem q374 : Eqn C sg 374 p374 := by
  intro n ds
  kernel_rfl
def p375 : T := cn 421 [.r 1 8] (.i (i_eql (.l 17) (Z 1)) (cn 63 [.e (.k (.str [123])), .r 9 8] (.i 18 (cn 421 [.r 19 8] (.g (.rm 17 35) (.l (.ap 6 17 35) (cn 61 [.e (.k (.lst 1 [.str [125]])), .r 27 8] (cn 61 [.e (.k (.lst 1 [.str [125]])), .r 37 8] (rt [.e (Ac [Z 7] (.aa 0 (Ac [.k (.str []), 36] e0))), .r 45 8])))))) (cn 61 [.e (.k (.lst 1 [.str [125]])), .r 19 8] (rt [.e (Ac [Z 6] (.aa 0 (Ac [.k (.str []), 17] e0))), .r 27 8])))) (cn 61 [.e (.k (.lst 1 [.str [125]])), .r 9 8] (rt [.e (Ac [Z 6] (.aa 0 (Ac [.k (.str []), 17] e0))), .r 18 8])))
set_option maxRecDepth 100000 in
theorem q375 : Eqn C sg 375 p375 := by
  intro n ds
  kernel_rfl
def p376 : T := cn 61 [.e (.k (.lst 1 [.str [40]])), .r 1 8] (cn 421 [.r 9 8] (cn 61 [.e (.k (.lst 1 [.str [41]])), .r 17 8] (rt [.e (Ac [Z 10, .a 0 2, .a 0 3, .a 0 4, .a 0 1, 25] e0), .r 26 8])))
set_option maxRecDepth 100000 in
theorem q376 : Eqn C sg 376 p376 := by
  intro n ds
  kernel_rfl
def p377 : T := cn 241 [.r 0 8] (.o 422 [.r 17 8, .e (Z 5), .r 9 4, .e (Ls 6 [16]), .r 14 2] (cn 61 [.e (.k (.lst 1 [.str [101, 110, 100, 99, 97, 115, 101]])), .r 25 8] (rt [.r 41 8, .r 33 8])))
set_option maxRecDepth 100000 in
theorem q377 : Eqn C sg 377 p377 := by
  intro n ds
  kernel_rfl
def p378 : T := cn 61 [.e (.k (.lst 1 [.str [97, 115, 115, 101, 114, 116]])), .r 0 8] (cn 241 [.r 16 8] (cn 61 [.e (.k (.lst 1 [.str [59]])), .r 25 8] (rt [.r 33 8, .e (Z 7), .r 9 4, .e (Ls 6 [24]), .r 14 2])))
set_option maxRecDepth 100000 in
theorem q378 : Eqn C sg 378 p378 := by
  intro n ds
  kernel_rfl
def p379 : T := cn 236 [.r 0 8] (.j (.i 25 (cn 378 [.r 26 8, .r 8 4, .e (.a 16 4), .r 13 3] (rt [.r 34 16])) (cn 63 [.e (.k (.str [60, 61])), .r 26 8] (.i 34 (cn 172 [.r 35 8] (cn 61 [.e (.k (.lst 1 [.str [59]])), .r 44 8] (rt [.r 52 8, .e (Z 3), .r 9 4, .e (Ls 6 [16, 43]), .r 14 2]))) (cn 61 [.e (.k (.lst 1 [.str [61]])), .r 35 8] (cn 172 [.r 43 8] (cn 61 [.e (.k (.lst 1 [.str [59]])), .r 52 8] (rt [.r 60 8, .e (Z 2), .r 9 4, .e (Ls 6 [16, 51]), .r 14 2]))))))) (.i (i_eql (.a 16 0) (Z 2)) (cn 63 [.e (.k (.str [58])), .r 17 8] (.jp 0 [.r 25 9])) (.jp 0 [.e ff, .r 17 8])))
set_option maxRecDepth 100000 in
theorem q379 : Eqn C sg 379 p379 := by
  intro n ds
  kernel_rfl
def p380 : T := .i (i_lss 2 1) (.g (.q (i_leq (Z 0) 2) (i_lss 2 (.l 0))) (.t (.leaf (.int .u64)) (.g 0 2) (.l (.cm .u64 7) (.g (.q (i_leq (Z 0) 2) (i_lss 2 (.l 6))) (.l (.st 1 6 2 8) (.l (i_add 2 (Z 1)) (.tl 380 [.r 0 2, 10, .r 3 3, 9]))))))) (.ret false [.r 0 7])
set_option maxRecDepth 100000 in
theorem q380 : Eqn C sg 380 p380 := by
  intro n ds
  kernel_rfl
def p381 : T := cn 423 [0] (rt [.e (i_geq 1 (Z 0))])
set_option maxRecDepth 100000 in
theorem q381 : Eqn C sg 381 p381 := by
  intro n ds
  kernel_rfl
def p382 : T := .i 2 (.l (i_quo 1 (Z 64)) (.g (.q (i_leq (Z 0) 4) (i_lss 4 (.l 3))) (.t (.leaf (.int .u64)) (.g 3 4) (.l (i_rem 1 (Z 64)) (.i (i_lss 6 (Z 0)) .no (.l (.i .shl .u64 (.k (.int .u64 1)) 6) (.l (.i .or .u64 5 7) (.g (.q (i_leq (Z 0) 4) (i_lss 4 (.l 3))) (.l (.st 1 3 4 8) (rt [9])))))))))) (.l (i_quo 1 (Z 64)) (.g (.q (i_leq (Z 0) 4) (i_lss 4 (.l 3))) (.t (.leaf (.int .u64)) (.g 3 4) (.l (i_rem 1 (Z 64)) (.i (i_lss 6 (Z 0)) .no (.l (.i .shl .u64 (.k (.int .u64 1)) 6) (.l (.i .andNot .u64 5 7) (.g (.q (i_leq (Z 0) 4) (i_lss 4 (.l 3))) (.l (.st 1 3 4 8) (rt [9]))))))))))
set_option maxRecDepth 100000 in
theorem q382 : Eqn C sg 382 p382 := by
  intro n ds
  kernel_rfl
def p383 : T := .l (.i .shr .u64 0 (.k (.int .u64 1))) (.l (.i .and .u64 1 (.k (.int .u64 6148914691236517205))) (.l (.i .and .u64 0 (.k (.int .u64 6148914691236517205))) (.l (.i .add .u64 2 3) (.l (.i .shr .u64 4 (.k (.int .u64 2))) (.l (.i .and .u64 5 (.k (.int .u64 3689348814741910323))) (.l (.i .and .u64 4 (.k (.int .u64 3689348814741910323))) (.l (.i .add .u64 6 7) (.l (.i .shr .u64 8 (.k (.int .u64 4))) (.l (.i .add .u64 9 8) (.l (.i .and .u64 10 (.k (.int .u64 1085102592571150095))) (.l (.i .shr .u64 11 (.k (.int .u64 8))) (.l (.i .add .u64 11 12) (.l (.i .shr .u64 13 (.k (.int .u64 16))) (.l (.i .add .u64 13 14) (.l (.i .shr .u64 15 (.k (.int .u64 32))) (.l (.i .add .u64 15 16) (.l (.cv .i64 17) (.l (i_and 18 (Z 127)) (rt [19])))))))))))))))))))
set_option maxRecDepth 100000 in
theorem q383 : Eqn C sg 383 p383 := by
  intro n ds
  kernel_rfl
def p384 : T := rt [.e (sE_ (.a 0 0) 1), 1]
set_option maxRecDepth 100000 in
theorem q384 : Eqn C sg 384 p384 := by
  intro n ds
  kernel_rfl
def p385 : T := cn 250 [.e (Ac [1, 2] e0), .e (.a 0 4)] (.i (i_eql (.a 8 1) (Z 0)) (cn 253 [.e (Ac [.a 0 1, .a 0 2, .a 0 3] e0), .e (Z 9), .r 1 7] (rt [.r 8 8])) (.i (i_eql (.a 8 1) (Z 2)) (rt [8, .r 1 7]) (cn 253 [.e (Ac [.a 0 1, .a 0 2, .a 0 3] e0), .e (Z 11), .r 1 7] (rt [.r 8 8]))))
set_option maxRecDepth 100000 in
theorem q385 : Eqn C sg 385 p385 := by
  intro n ds
  kernel_rfl
def p386 : T := cn 71 [0, .e (Ac [2] e0)] (rt [8, .e (i_eql 10 (Z 0)), .r 1 7])
set_option maxRecDepth 100000 in
theorem q386 : Eqn C sg 386 p386 := by
  intro n ds
  kernel_rfl
def p387 : T := .i (i_lss 3 2) (.g (.q (i_leq (Z 0) 3) (i_lss 3 (.l 1))) (.t ty_iiiisl6 (.g 1 3) (cn 293 [11, .r 4 7] (.l (i_add 0 (.a 12 0)) (.l (i_add 3 (Z 1)) (.tl 387 [20, .r 1 2, 21, .r 13 7])))))) (.ret false [.r 0 11])
set_option maxRecDepth 100000 in
theorem q387 : Eqn C sg 387 p387 := by
  intro n ds
  kernel_rfl
def p388 : T := .i (i_lss 2 1) (.g (.q (i_leq (Z 0) 2) (i_lss 2 (.l 0))) (.t ty_iiiisl6 (.g 0 2) (cn 293 [20, .r 3 7] (.l (i_add 2 (Z 1)) (.tl 388 [.r 0 2, 29, .r 22 7, .r 10 8, .e (.a 21 0), .e (.a 21 1)]))))) (.ret false [.r 0 20])
set_option maxRecDepth 100000 in
theorem q388 : Eqn C sg 388 p388 := by
  intro n ds
  kernel_rfl
def p389 : T := cn 424 [.r 0 2] (rt [2])
set_option maxRecDepth 100000 in
theorem q389 : Eqn C sg 389 p389 := by
  intro n ds
  kernel_rfl
def p390 : T := .j (.g (.q tt (i_lss (Z 0) (.l (.a 0 5)))) (.t ty_iiiisl6 (.g (.a 0 5) (Z 0)) (cn 294 [10, .r 1 8] (.g (.q tt (i_lss (Z 1) (.l (.a 0 5)))) (.t ty_iiiisl6 (.g (.a 0 5) (Z 1)) (cn 343 [19, .r 12 7] (.l (.mx .i64 (.a 11 2) (.a 20 2)) (cn 312 [11, 28, .e (i_eql 9 (Z 12))] (cn 312 [20, 28, .e ff] (cn 391 [9, .r 29 2] (.l (.mx .i64 (.a 11 2) (Z 1)) (cn 295 [31, .e (Z 0), 32] (rt [33, .r 21 7]))))))))))))) (.g (.q tt (i_lss (Z 0) (.sl (.a 0 4)))) (.l (.sb (.a 0 4) (Z 0)) (.i (.i .eql .u8 9 (.k (.int .u8 60))) (.jp 0 [.e (Z 10)]) (.i (sE_ (.a 0 4) (.k (.str [62, 62, 62]))) (.i (.a 1 1) (.jp 0 [.e (Z 12)]) (.jp 0 [.e (Z 11)])) (.jp 0 [.e (Z 11)])))))
set_option maxRecDepth 100000 in
theorem q390 : Eqn C sg 390 p390 := by
  intro n ds
  kernel_rfl
def p391 : T := .i (i_geq 0 (Z 13)) (rt [.e (Ac [Z 7, 0, Z 1, Z 0, Z 0, ff, Z 0, .k (.lst 1 []), Ls 9 [1, 2]] e0)]) (rt [.e (Ac [Z 7, 0, .a 1 2, Z 0, Z 0, ff, Z 0, .k (.lst 1 []), Ls 9 [1, 2]] e0)])
set_option maxRecDepth 100000 in
theorem q391 : Eqn C sg 391 p391 := by
  intro n ds
  kernel_rfl
def p392 : T := cn 250 [.e (Ac [1, 2] e0), .e (.a 0 4)] (.g (.q tt (i_lss (Z 0) (.l (.a 0 5)))) (.t ty_iiiisl6 (.g (.a 0 5) (Z 0)) (cn 343 [9, .r 1 7] (.i (i_gtr (.a 8 6) (Z 0)) (rt [.e (Ac [Z 3, Z 0, .a 8 4, .a 8 2, Z 0, ff, Z 0, .k (.lst 1 []), Ls 9 [10]] e0), .r 11 7]) (.g (.q tt (i_lss (Z 0) (.l (.a 0 5)))) (.t ty_iiiisl6 (.g (.a 0 5) (Z 0)) (cn 386 [18, .r 11 7] (.i 20 (cn 196 [.e (.a 8 2), .e (Ac [.a 8 3, .a 8 4, .a 8 5, .a 8 6] e0)] (cn 295 [28, 19, .e (Z 1)] (rt [29, .r 21 7]))) (cn 196 [.e (.a 8 2), .e (Ac [.a 8 3, .a 8 4, .a 8 5, .a 8 6] e0)] (rt [.e (Ac [Z 4, Z 0, Z 1, Z 0, Z 0, ff, Z 0, .k (.lst 1 []), Ls 9 [28, 10]] e0), .r 21 7]))))))))))
set_option maxRecDepth 100000 in
theorem q392 : Eqn C sg 392 p392 := by
  intro n ds
  kernel_rfl
def p393 : T := .g (.q tt (i_lss (Z 0) (.l (.a 0 5)))) (.t ty_iiiisl6 (.g (.a 0 5) (Z 0)) (cn 343 [8, .r 1 7] (.j (cn 340 [17, 9] (cn 389 [.e (.a 0 4), .e (.k (.str [126]))] (.i 19 (cn 340 [.e (Z 0), 18] (rt [20, .r 10 7])) (rt [18, .r 10 7])))) (.i (sE_ (.a 0 4) (.k (.str [33]))) (cn 340 [.e (Z 5), 9] (rt [17, .r 10 7])) (.i (sE_ (.a 0 4) (.k (.str [38]))) (.jp 0 [.e (Z 2)]) (.i (sE_ (.a 0 4) (.k (.str [126, 38]))) (.jp 0 [.e (Z 2)]) (.i (sE_ (.a 0 4) (.k (.str [124]))) (.jp 0 [.e (Z 3)]) (.i (sE_ (.a 0 4) (.k (.str [126, 124]))) (.jp 0 [.e (Z 3)]) (.jp 0 [.e (Z 4)])))))))))
set_option maxRecDepth 100000 in
theorem q393 : Eqn C sg 393 p393 := by
  intro n ds
  kernel_rfl
def p394 : T := .j (.i 8 (.g (.q tt (i_lss (Z 0) (.l (.a 0 5)))) (.t ty_iiiisl6 (.g (.a 0 5) (Z 0)) (cn 343 [9, .r 1 7] (cn 306 [10] (.g (.q tt (i_lss (Z 1) (.l (.a 0 5)))) (.t ty_iiiisl6 (.g (.a 0 5) (Z 1)) (cn 343 [19, .r 11 7] (cn 306 [20] (.i (sE_ (.a 0 4) (.k (.str [38, 38]))) (cn 391 [.e (Z 7), 18, 28] (rt [29, .r 21 7])) (cn 391 [.e (Z 8), 18, 28] (rt [29, .r 21 7]))))))))))) (.g (.q tt (i_lss (Z 0) (.l (.a 0 5)))) (.t ty_iiiisl6 (.g (.a 0 5) (Z 0)) (cn 293 [9, .r 1 7] (.g (.q tt (i_lss (Z 1) (.l (.a 0 5)))) (.t ty_iiiisl6 (.g (.a 0 5) (Z 1)) (cn 293 [18, .r 11 7] (cn 335 [10, 19] (.g (.q tt (i_lss (Z 0) (.l (.a 0 5)))) (.t ty_iiiisl6 (.g (.a 0 5) (Z 0)) (cn 294 [28, 27, .r 20 7] (.g (.q tt (i_lss (Z 1) (.l (.a 0 5)))) (.t ty_iiiisl6 (.g (.a 0 5) (Z 1)) (cn 294 [37, 27, .r 30 7] (.j (.i (sE_ (.a 0 4) (.k (.str [60]))) (cn 391 [46, 29, 38] (rt [48, .r 39 7])) (.i (sE_ (.a 0 4) (.k (.str [60, 61]))) (cn 391 [47, 29, 38] (rt [48, .r 39 7])) (.i (sE_ (.a 0 4) (.k (.str [62]))) (cn 391 [46, 38, 29] (rt [48, .r 39 7])) (.i (sE_ (.a 0 4) (.k (.str [62, 61]))) (cn 391 [47, 38, 29] (rt [48, .r 39 7])) (.i (sE_ (.a 0 4) (.k (.str [61, 61]))) (cn 391 [.e (Z 13), 29, 38] (rt [48, .r 39 7])) (cn 391 [.e (Z 14), 29, 38] (rt [48, .r 39 7]))))))) (.i (.a 27 1) (.jp 0 [.e (Z 17), .e (Z 18)]) (.jp 0 [.e (Z 15), .e (Z 16)]))))))))))))))))) (.i (sE_ (.a 0 4) (.k (.str [38, 38]))) (.jp 0 [.e tt]) (.jp 0 [.e (sE_ (.a 0 4) (.k (.str [124, 124])))]))
set_option maxRecDepth 100000 in
theorem q394 : Eqn C sg 394 p394 := by
  intro n ds
  kernel_rfl
def p395 : T := .o 425 [0, .e (.l 0), .e (Z 0), .r 1 7, .e (.k (.lst 9 []))] (rt [.r 11 8])
set_option maxRecDepth 100000 in
theorem q395 : Eqn C sg 395 p395 := by
  intro n ds
  kernel_rfl
def p396 : T := .i (i_eql (.l 0) (Z 1)) (.g (.q tt (i_lss (Z 0) (.l 0))) (.t ty_iiiiibil1l9 (.g 0 (Z 0)) (rt [1]))) (.o 426 [0, .e (Z 0), 0, .e (.l 0), .e (Z 0), .e (Z 0), .e (Z 0), .e (Z 0), .e (Z 0), .e (Z 0), .e ff, .e (Z 0), .e (.k (.lst 1 [])), .e (.k (.lst 9 []))] (rt [.e (Ac [Z 9, Z 0, 2, Z 0, Z 0, ff, Z 0, .k (.lst 1 []), 1] e0)]))
set_option maxRecDepth 100000 in
theorem q396 : Eqn C sg 396 p396 := by
  intro n ds
  kernel_rfl
def p397 : T := .i (i_lss 1 0) (.g (.rm 16 17) (.l (.ap 9 16 17) (.l (i_add 1 (Z 1)) (.tl 397 [0, 21, .r 2 14, 20, .r 17 3])))) (.ret false [.r 0 20])
set_option maxRecDepth 100000 in
theorem q397 : Eqn C sg 397 p397 := by
  intro n ds
  kernel_rfl
def p398 : T := cn 389 [.e (.a 0 4), .e (.k (.str [36]))] (.i 8 (.g (.q tt (i_lss (Z 0) (.l (.a 0 5)))) (.t ty_iiiisl6 (.g (.a 0 5) (Z 0)) (cn 343 [9, .r 1 7] (rt [.r 10 8])))) (cn 250 [.e (Ac [1, 2] e0), .e (.a 0 4)] (.o 427 [.e (.a 0 5), .e (.l (.a 0 5)), .e (Z 0), .r 1 7, .e (.a 0 0), .e (.a 0 1), .e (.a 0 2), .e (.a 0 3), .e (.a 0 4), .e (.a 0 5), .e (Z 0), .e (Z 0), .e (Z 0), .e (Z 0), .e (Z 0), .e ff, .e (Z 0), .e (.a 9 7), .e (.a 9 8), .e (.a 9 9), .e (.a 9 10), .e (.a 9 11), .e (.a 9 12), .e (.a 9 13), .e (.a 9 14), .e (.a 9 15), .e (.a 9 16), .e (.a 9 17), .e (.a 9 18), .e (.k (.lst 9 [])), .e (.k (.lst 1 [])), .e (.k (.lst 9 []))] (cp 428 [.e (Ac [36, 37, 38, 39, 40, 41, 42, 43, 44] e0), 45] (.l (i_add 19 48) (.i (i_gtr 49 (Z 20000)) (cn 253 [.e (Ac [21, 22, 23] e0), .e (Z 19), .r 13 6, 49] (rt [.e (.k (.agg [.int .i64 0, .int .i64 0, .int .i64 0, .int .i64 0, .int .i64 0, .bool false, .int .i64 0, .lst 1 [], .lst 9 []])), .r 50 7])) (cn 355 [.e (Ac [36, 37, 38, 39, 40, 41, 42, 43, 44] e0), 45] (rt [50, .r 13 6, 49]))))))))
set_option maxRecDepth 100000 in
theorem q398 : Eqn C sg 398 p398 := by
  intro n ds
  kernel_rfl
def p399 : T := .i (i_lss 2 1) (.g (.q (i_leq (Z 0) 2) (i_lss 2 (.l 0))) (.t ty_iiiisl6 (.g 0 2) (.i (i_eql 2 (Z 0)) (.l (i_add 2 (Z 1)) (.tl 399 [.r 0 2, 22, .r 3 11, .e (Z 4), .e (.a 21 1), .e (.a 21 2), .e (.a 21 3), .e (.k (.str [61, 61])), 19, .e (Ls 6 [Ac [3, 4, 5, 6, 7, 8] e0, 21])])) (.l (i_add 2 (Z 1)) (.tl 399 [.r 0 2, 22, .r 3 11, .e (Z 4), .e (.a 21 1), .e (.a 21 2), .e (.a 21 3), .e (.k (.str [124])), 19, .e (Ls 6 [Ac [14, 15, 16, 17, 18, 20] e0, Ac [Z 4, .a 21 1, .a 21 2, .a 21 3, .k (.str [61, 61]), Ls 6 [Ac [3, 4, 5, 6, 7, 8] e0, 21]] e0])]))))) (.ret false [.r 0 21])
set_option maxRecDepth 100000 in
theorem q399 : Eqn C sg 399 p399 := by
  intro n ds
  kernel_rfl
def p400 : T := .i (i_lss 2 1) (.g (.q (i_leq (Z 0) 2) (i_lss 2 (.l 0))) (.t ty_iiiiibil1l9 (.g 0 2) (cn 355 [22, 3] (.g (.rm 19 (.k (dm 1))) (.l (.ap 9 19 (Ls 9 [23])) (.l (i_add 2 (Z 1)) (.tl 400 [.r 0 2, 26, 24, .r 4 15, 25, .r 20 2]))))))) (.ret false [.r 0 22])
set_option maxRecDepth 100000 in
theorem q400 : Eqn C sg 400 p400 := by
  intro n ds
  kernel_rfl
def p401 : T := .i (i_eql (.a 0 0) (.a 1 0)) (.i (i_eql (.a 0 1) (.a 1 1)) (.i (i_eql (.a 0 2) (.a 1 2)) (.i (i_eql (.a 0 3) (.a 1 3)) (.i (i_eql (.a 0 4) (.a 1 4)) (.i (.b .eql (.a 0 5) (.a 1 5)) (cn 418 [.e (Ac [.a 0 6, .a 0 7] e0), .e (Ac [.a 1 6, .a 1 7] e0)] (.i 2 (cn 429 [.e (.a 0 8), .e (.a 1 8)] (rt [3])) (rt [.e ff]))) (rt [.e ff])) (rt [.e ff])) (rt [.e ff])) (rt [.e ff])) (rt [.e ff])) (rt [.e ff])
set_option maxRecDepth 100000 in
theorem q401 : Eqn C sg 401 p401 := by
  intro n ds
  kernel_rfl
def p402 : T := .i (i_lss 2 1) (.g (.q (i_leq (Z 0) 2) (i_lss 2 (.l 0))) (.t ty_l6iiiisl6l8l9 (.g 0 2) (cn 430 [3] (.i 4 (rt [2]) (.l (i_add 2 (Z 1)) (.tl 402 [.r 0 2, 5])))))) (.ret false [.r 0 3])
set_option maxRecDepth 100000 in
theorem q402 : Eqn C sg 402 p402 := by
  intro n ds
  kernel_rfl
def p403 : T := cn 258 [.e (Ac [1, 2, 3, 4, 5, 6, 7, 8] e0), .r 9 23] (rt [.r 0 9, .r 32 23])
set_option maxRecDepth 100000 in
theorem q403 : Eqn C sg 403 p403 := by
  intro n ds
  kernel_rfl
def p404 : T := cn 308 [.e (Ac [0, 1, 2, 3, 4, 5, 6, 7] e0), .r 8 24] (rt [.r 0 9, .r 32 23])
set_option maxRecDepth 100000 in
theorem q404 : Eqn C sg 404 p404 := by
  intro n ds
  kernel_rfl
def p405 : T := .i (i_lss 2 1) (.g (.q (i_leq (Z 0) 2) (i_lss 2 (.l 49))) (.t ty_iiiiibil1l9 (.g 49 2) (.g (.q (i_leq (Z 0) 2) (i_lss 2 (.l 50))) (.t ty_iiiiibil1l9 (.g 50 2) (cn 401 [.r 57 2] (.i (.n 59) (.g (.q (i_leq (Z 0) 2) (i_lss 2 (.l 49))) (.t ty_iiiiibil1l9 (.g 49 2) (.g (.q (i_leq (Z 0) 2) (i_lss 2 (.l 50))) (.t ty_iiiiibil1l9 (.g 50 2) (cn 344 [.e (Ac [40, 41, 42, 43, 44, 45, 46, 47, 48] e0), .r 60 2] (.g (.q (i_leq (Z 0) 2) (i_lss 2 (.l 50))) (.l (.st 9 50 2 62) (.g (.q (i_leq (Z 0) 2) (i_lss 2 (.l 63))) (.t ty_iiiiibil1l9 (.g 63 2) (cn 252 [64] (.l (i_add 0 65) (.l (.mn .i64 66 (Z 20001)) (.l (i_add 2 (Z 1)) (.tl 405 [67, 1, 68, .r 3 47, 63, .r 51 6])))))))))))))) (.g (.q (i_leq (Z 0) 2) (i_lss 2 (.l 50))) (.t ty_iiiiibil1l9 (.g 50 2) (cn 252 [60] (.l (i_add 0 61) (.l (.mn .i64 62 (Z 20001)) (.l (i_add 2 (Z 1)) (.tl 405 [63, 1, 64, .r 3 54]))))))))))))) (.ret false [.r 0 57])
set_option maxRecDepth 100000 in
theorem q405 : Eqn C sg 405 p405 := by
  intro n ds
  kernel_rfl
def p406 : T := cn 143 [11, .r 1 4, .r 13 12, 35, .r 29 6] (rt [.r 36 4, .r 5 8, .r 40 12, .r 25 4, .r 53 6, 52])
set_option maxRecDepth 100000 in
theorem q406 : Eqn C sg 406 p406 := by
  intro n ds
  kernel_rfl
def p407 : T := rt [.e (sE_ (.a 0 0) 1), .r 1 5]
set_option maxRecDepth 100000 in
theorem q407 : Eqn C sg 407 p407 := by
  intro n ds
  kernel_rfl
def p408 : T := .i (i_lss 2 1) (.g (.q (i_leq (Z 0) 2) (i_lss 2 (.l 4))) (.t (.leaf (.int .u64)) (.g 4 2) (.g (.q (i_leq (Z 0) 2) (i_lss 2 (.l 6))) (.t (.leaf (.int .u64)) (.g 6 2) (.g (.q (.q (.q (.i .leq .u64 (.k (.int .u64 0)) 11) (.i .leq .u64 (.k (.int .u64 0)) 12)) (.i .leq .u64 (.k (.int .u64 0)) 0)) (.i .leq .u64 0 (.k (.int .u64 1)))) (.l (.a6 11 12 0) (.l (.a7 11 12 0) (.g (.q (i_leq (Z 0) 2) (i_lss 2 (.l 10))) (.l (.st 1 10 2 13) (.l (i_add 2 (Z 1)) (.tl 408 [14, 1, 16, .r 3 7, 15]))))))))))) (.ret false [.r 0 11])
set_option maxRecDepth 100000 in
theorem q408 : Eqn C sg 408 p408 := by
  intro n ds
  kernel_rfl
def p409 : T := .i (i_lss 1 0) (.o 431 [1, .e (.k (.int .u64 0)), .e (Z 0), .r 0 10] (.l (i_add 14 (Z 1)) (.tl 409 [13, 23, .r 15 8]))) (.ret false [.r 0 10])
set_option maxRecDepth 100000 in
theorem q409 : Eqn C sg 409 p409 := by
  intro n ds
  kernel_rfl
def p410 : T := cn 326 [1] (.i (.n 2) (cn 184 [.e (.a 0 0)] (cp 324 [.e (Ac [3, 4] e0)] (rt [.e (Ac [5, 6] e0), 0]))) (cn 184 [.e (.a 0 0)] (cn 184 [.e (.a 0 0)] (.l (i_sub (.a 0 0) (Z 1)) (.o 432 [7, .e (.a 0 0), .e (.a 0 1), .e (.a 1 0), .e (.a 1 1), .e (Z 0), .e (Z 0), 3, 5, .e (.k (.lst 1 [])), .e (.k (.lst 1 [])), 4, 6] (rt [.e (Ac [15, 19] e0), .e (Ac [16, 20] e0)]))))))
set_option maxRecDepth 100000 in
theorem q410 : Eqn C sg 410 p410 := by
  intro n ds
  kernel_rfl
def p411 : T := cn 326 [1] (.i (.n 2) (cn 410 [.r 0 2] (rt [.r 3 2])) (cn 433 [0] (cn 433 [1] (cn 410 [.r 3 2] (cn 417 [0] (cn 417 [1] (.i (.b .neq 7 8) (cn 325 [5] (cn 417 [0] (.i 10 (cn 325 [6] (rt [9, 11])) (rt [9, 6])))) (cn 417 [0] (.i 9 (cn 325 [6] (rt [5, 10])) (rt [.r 5 2]))))))))))
set_option maxRecDepth 100000 in
theorem q411 : Eqn C sg 411 p411 := by
  intro n ds
  kernel_rfl
def p412 : T := .i (i_lss 1 0) (.g (.q (i_leq (Z 0) 1) (i_lss 1 (.l 3))) (.t (.leaf (.int .u64)) (.g 3 1) (.g (.q (i_leq (Z 0) 1) (i_lss 1 (.l 5))) (.t (.leaf (.int .u64)) (.g 5 1) (cn 434 [.r 10 2] (.g (.q (i_leq (Z 0) 1) (i_lss 1 (.l 9))) (.l (.st 1 9 1 12) (.l (i_add 1 (Z 1)) (.tl 412 [0, 14, .r 2 7, 13]))))))))) (.ret false [.r 0 10])
set_option maxRecDepth 100000 in
theorem q412 : Eqn C sg 412 p412 := by
  intro n ds
  kernel_rfl
def p413 : T := .i (i_lss 1 0) (.g (.q (i_leq (Z 0) 1) (i_lss 1 (.l 3))) (.t (.leaf (.int .u64)) (.g 3 1) (.g (.q (i_leq (Z 0) 1) (i_lss 1 (.l 5))) (.t (.leaf (.int .u64)) (.g 5 1) (cn 435 [.r 10 2] (.g (.q (i_leq (Z 0) 1) (i_lss 1 (.l 9))) (.l (.st 1 9 1 12) (.l (i_add 1 (Z 1)) (.tl 413 [0, 14, .r 2 7, 13]))))))))) (.ret false [.r 0 10])
set_option maxRecDepth 100000 in
theorem q413 : Eqn C sg 413 p413 := by
  intro n ds
  kernel_rfl
def p414 : T := .i (i_lss 1 0) (.g (.q (i_leq (Z 0) 1) (i_lss 1 (.l 3))) (.t (.leaf (.int .u64)) (.g 3 1) (.g (.q (i_leq (Z 0) 1) (i_lss 1 (.l 5))) (.t (.leaf (.int .u64)) (.g 5 1) (cn 436 [.r 10 2] (.g (.q (i_leq (Z 0) 1) (i_lss 1 (.l 9))) (.l (.st 1 9 1 12) (.l (i_add 1 (Z 1)) (.tl 414 [0, 14, .r 2 7, 13]))))))))) (.ret false [.r 0 10])
set_option maxRecDepth 100000 in
theorem q414 : Eqn C sg 414 p414 := by
  intro n ds
  kernel_rfl
def p415 : T := cn 184 [.e (.a 0 0)] (.o 437 [1, 1, .e (.a 0 0), .e (.a 0 1), .e (Z 0), 2, .e (.k (.lst 1 [])), 3] (rt [9, 11]))
set_option maxRecDepth 100000 in
theorem q415 : Eqn C sg 415 p415 := by
  intro n ds
  kernel_rfl
def p416 : T := cn 184 [.e (.a 0 0)] (.o 438 [.r 1 2, .e (.a 0 0), .e (Z 0), .e (.a 0 0), .e (.a 0 1), .e (Z 0), 3, .e (.k (.lst 1 [])), 4] (rt [.e (Ac [12, 14] e0)]))
set_option maxRecDepth 100000 in
theorem q416 : Eqn C sg 416 p416 := by
  intro n ds
  kernel_rfl
def p417 : T := .l (i_sub (.a 0 0) (Z 1)) (cn 289 [.r 0 2] (rt [2]))
set_option maxRecDepth 100000 in
theorem q417 : Eqn C sg 417 p417 := by
  intro n ds
  kernel_rfl
def p418 : T := .i (i_eql (.a 0 0) (.a 1 0)) (cn 439 [.e (.a 0 1), .e (.a 1 1)] (rt [2])) (rt [.e ff])
set_option maxRecDepth 100000 in
theorem q418 : Eqn C sg 418 p418 := by
  intro n ds
  kernel_rfl
def p419 : T := .l (i_sub (.l (.a 0 1)) (Z 1)) (.o 440 [2, .e (.a 0 0), .e (.a 0 1), .e (.a 1 0), .e (.a 1 1)] (rt [.e ff]))
set_option maxRecDepth 100000 in
theorem q419 : Eqn C sg 419 p419 := by
  intro n ds
  kernel_rfl
def p420 : T := cn 417 [0] (cn 417 [1] (.i (.b .neq 2 3) (cn 417 [0] (rt [4])) (cn 419 [.r 0 2] (rt [4]))))
set_option maxRecDepth 100000 in
theorem q420 : Eqn C sg 420 p420 := by
  intro n ds
  kernel_rfl
def p421 : T := cn 172 [.r 0 8] (.o 441 [.r 9 8, .e (Ls 6 [8])] (rt [.r 17 9]))
set_option maxRecDepth 100000 in
theorem q421 : Eqn C sg 421 p421 := by
  intro n ds
  kernel_rfl
end Go.Proofs.YtpmjplpnpnmlcaaGreatDoor
