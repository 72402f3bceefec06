import Derived.Test.YtpmjplpnpnmlcaaGreatDoorIf0
import Derived.KernelRfl
set_option linter.all false
namespace Go.Proofs.YtpmjplpnpnmlcaaGreatDoor
open Go.AE
def p422 : T := .j (.i 16 (cn 63 [.e (.k (.str [100, 101, 102, 97, 117, 108, 116])), .r 17 8] (.i (.n 25) (cn 421 [.r 26 8] (cn 61 [.e (.k (.lst 1 [.str [58]])), .r 34 8] (cn 286 [.r 43 8] (.g (.rm 15 (.k (dm 1))) (.l (.ap 9 15 (.k (.lst 9 [.agg [.lst 6 [], .int .i64 0, .int .i64 0, .int .i64 0, .int .i64 0, .str [], .lst 6 [], .lst 8 [], .lst 9 []]]))) (.g (.q (i_leq (Z 0) (.l 15)) (i_lss (.l 15) (.l 60))) (.l (.st 9 60 (.l 15) (Ac [42] (.aa 51 e0))) (.tl 422 [.r 52 8, .r 8 7, 61])))))))) (cn 61 [.e (.k (.lst 1 [.str [58]])), .r 26 8] (cn 286 [.r 34 8] (.g (.rm 15 (.k (dm 1))) (.l (.ap 9 15 (.k (.lst 9 [.agg [.lst 6 [], .int .i64 0, .int .i64 0, .int .i64 0, .int .i64 0, .str [], .lst 6 [], .lst 8 [], .lst 9 []]]))) (.g (.q (i_leq (Z 0) (.l 15)) (i_lss (.l 15) (.l 51))) (.l (.st 9 51 (.l 15) (Ac [.k (.lst 6 [])] (.aa 42 e0))) (.tl 422 [.r 43 8, .r 8 7, 52]))))))))) (.ret false [.r 17 8, .r 8 8])) (.i (i_eql 7 (Z 0)) (.i (i_eql (.l 15) (Z 0)) (.jp 0 [.e tt, .r 0 8]) (cn 116 [.e (.k (.str [101, 110, 100, 99, 97, 115, 101])), .r 0 8] (.jp 0 [.e (.n 16), .r 17 8]))) (.jp 0 [.e ff, .r 0 8]))
set_option maxRecDepth 100000 in
theorem q422 : Eqn C sg 422 p422 := by
  intro n ds
  kernel_rfl
def p423 : T := .o 442 [0, .e (.l 0), .e (Z 0)] (rt [.e (Z (-1))])
set_option maxRecDepth 100000 in
theorem q423 : Eqn C sg 423 p423 := by
  intro n ds
  kernel_rfl
def p424 : T := .i (i_geq (.sl 0) (.sl 1)) (.g (.q (.q tt (i_leq (Z 0) (.sl 1))) (i_leq (.sl 1) (.sl 0))) (.l (.ds 0 (Z 0) (.sl 1)) (rt [.e (sE_ 2 1)]))) (rt [.e ff])
set_option maxRecDepth 100000 in
theorem q424 : Eqn C sg 424 p424 := by
  intro n ds
  kernel_rfl
def p425 : T := .i (i_lss 2 1) (.g (.q (i_leq (Z 0) 2) (i_lss 2 (.l 0))) (.t ty_iiiisl6 (.g 0 2) (cn 343 [11, .r 3 7] (.g (.rm 10 (.k (dm 1))) (.l (.ap 9 10 (Ls 9 [12])) (.l (i_add 2 (Z 1)) (.tl 425 [.r 0 2, 21, .r 13 8]))))))) (.ret false [.r 0 11])
set_option maxRecDepth 100000 in
theorem q425 : Eqn C sg 425 p425 := by
  intro n ds
  kernel_rfl
def p426 : T := .i (i_lss 4 3) (.g (.q (i_leq (Z 0) 4) (i_lss 4 (.l 2))) (.t ty_iiiiibil1l9 (.g 2 4) (.l (i_add 1 (.a 14 2)) (.l (i_add 4 (Z 1)) (.tl 426 [0, 15, .r 2 2, 16, .r 5 9]))))) (.ret false [.r 0 14])
set_option maxRecDepth 100000 in
theorem q426 : Eqn C sg 426 p426 := by
  intro n ds
  kernel_rfl
def p427 : T := .i (i_lss 2 1) (.g (.q (i_leq (Z 0) 2) (i_lss 2 (.l 0))) (.t ty_iiiisl6 (.g 0 2) (.g (.q (i_leq (Z 0) 2) (i_lss 2 (.l 23))) (.g (.ag (.g 23 2)) (.t tI (.a (.g 23 2) 1) (cn 251 [.r 38 2, .r 3 7] (.g (.rm 35 (.k (dm 1))) (.l (.ap 9 35 (Ls 9 [40])) (.l (i_add 2 (Z 1)) (.tl 427 [.r 0 2, 49, .r 41 7, .r 10 25, 48, .r 36 2])))))))))) (.ret false [.r 0 38])
set_option maxRecDepth 100000 in
theorem q427 : Eqn C sg 427 p427 := by
  intro n ds
  kernel_rfl
def p428 : T := .g (.q (.q (i_leq (Z 0) (.l 1)) (i_leq (.l 1) (.l 1))) (i_leq (.l 1) (Z 68719476736))) (.l (.rp 1 (.l 1) (Z 0)) (.o 443 [1, .e (.l 1), .e (Z 0), .e (.a 0 0), .e (.a 0 1), .e (.a 0 2), .e (.a 0 3), .e (.a 0 4), .e (.a 0 5), .e (.a 0 6), .e (.a 0 7), .e (.a 0 8), 2] (cn 444 [.e (Ac [6, 7, 8, 9, 10, 11, 12, 13, 14] e0), .e (Z 0), 15] (rt [16]))))
set_option maxRecDepth 100000 in
theorem q428 : Eqn C sg 428 p428 := by
  intro n ds
  kernel_rfl
def p429 : T := .i (i_neq (.l 0) (.l 1)) (rt [.e ff]) (.o 445 [1, 0, .e (.l 0), .e (Z 0)] (rt [.e tt]))
set_option maxRecDepth 100000 in
theorem q429 : Eqn C sg 429 p429 := by
  intro n ds
  kernel_rfl
def p430 : T := rt [.e (i_gtr (.l (.a 0 0)) (Z 0))]
set_option maxRecDepth 100000 in
theorem q430 : Eqn C sg 430 p430 := by
  intro n ds
  kernel_rfl
def p431 : T := .l (i_add 0 2) (.i (i_lss 13 (.l 12)) (.g (.q (i_leq (Z 0) 0) (i_lss 0 (.l 6))) (.t (.leaf (.int .u64)) (.g 6 0) (.g (.q (i_leq (Z 0) 2) (i_lss 2 (.l 8))) (.t (.leaf (.int .u64)) (.g 8 2) (cn 446 [.r 14 2] (.g (.q (.q (.q (.i .leq .u64 (.k (.int .u64 0)) 17) (.i .leq .u64 (.k (.int .u64 0)) 1)) (.i .leq .u64 (.k (.int .u64 0)) (.k (.int .u64 0)))) (.i .leq .u64 (.k (.int .u64 0)) (.k (.int .u64 1)))) (.l (.a6 17 1 (.k (.int .u64 0))) (.l (.a7 17 1 (.k (.int .u64 0))) (.l (.i .add .u64 16 19) (.l (i_add 0 2) (.l (i_add 0 2) (.g (.q (i_leq (Z 0) 22) (i_lss 22 (.l 12))) (.t (.leaf (.int .u64)) (.g 12 22) (.g (.q (.q (.q (.i .leq .u64 (.k (.int .u64 0)) 23) (.i .leq .u64 (.k (.int .u64 0)) 18)) (.i .leq .u64 (.k (.int .u64 0)) (.k (.int .u64 0)))) (.i .leq .u64 (.k (.int .u64 0)) (.k (.int .u64 1)))) (.l (.a6 23 18 (.k (.int .u64 0))) (.l (.a7 23 18 (.k (.int .u64 0))) (.g (.q (i_leq (Z 0) 21) (i_lss 21 (.l 12))) (.l (.st 1 12 21 24) (.l (.i .add .u64 20 25) (.l (i_add 2 (Z 1)) (.tl 431 [0, .r 27 2, .r 3 9, 26]))))))))))))))))))))) (.ret false [.r 0 13]))
set_option maxRecDepth 100000 in
theorem q431 : Eqn C sg 431 p431 := by
  intro n ds
  kernel_rfl
def p432 : T := .i (i_geq 0 (Z 0)) (cp 417 [.e (Ac [8, 12] e0)] (cp 415 [.e (Ac [8, 12] e0), .e (Z 1)] (cn 289 [.e (Ac [1, 2] e0), 0] (cn 382 [14, .e (Z 0), 16, 15] (.i 13 (cn 324 [.e (Ac [3, 4] e0)] (cp 367 [.e (Ac [14, 17] e0), .e (Ac [18, 19] e0), .e (.k (.int .u64 1))] (cn 382 [7, 0, .e tt, 11] (.l (i_sub 0 (Z 1)) (.tl 432 [23, .r 1 7, 20, .r 9 2, 22, 21]))))) (cp 419 [.e (Ac [14, 17] e0), .e (Ac [3, 4] e0)] (.i (.n 18) (cn 324 [.e (Ac [3, 4] e0)] (cp 367 [.e (Ac [14, 17] e0), .e (Ac [19, 20] e0), .e (.k (.int .u64 1))] (cn 382 [7, 0, .e tt, 11] (.l (i_sub 0 (Z 1)) (.tl 432 [24, .r 1 7, 21, .r 9 2, 23, 22]))))) (.l (i_sub 0 (Z 1)) (.tl 432 [19, .r 1 7, 14, .r 9 3, 17]))))))))) (.ret false [.r 0 13])
set_option maxRecDepth 100000 in
theorem q432 : Eqn C sg 432 p432 := by
  intro n ds
  kernel_rfl
def p433 : T := cn 417 [0] (.i 1 (cn 325 [0] (rt [2])) (rt [0]))
set_option maxRecDepth 100000 in
theorem q433 : Eqn C sg 433 p433 := by
  intro n ds
  kernel_rfl
def p434 : T := .l (.i .and .u64 0 1) (rt [2])
set_option maxRecDepth 100000 in
theorem q434 : Eqn C sg 434 p434 := by
  intro n ds
  kernel_rfl
def p435 : T := .l (.i .or .u64 0 1) (rt [2])
set_option maxRecDepth 100000 in
theorem q435 : Eqn C sg 435 p435 := by
  intro n ds
  kernel_rfl
def p436 : T := .l (.i .xor .u64 0 1) (rt [2])
set_option maxRecDepth 100000 in
theorem q436 : Eqn C sg 436 p436 := by
  intro n ds
  kernel_rfl
def p437 : T := .i (i_lss 1 2) (.l (i_sub 1 0) (cn 289 [.e (Ac [2, 3] e0), 8] (cn 382 [5, 1, 9, 7] (.l (i_add 1 (Z 1)) (.tl 437 [0, 11, .r 2 5, 10]))))) (.ret false [.r 0 8])
set_option maxRecDepth 100000 in
theorem q437 : Eqn C sg 437 p437 := by
  intro n ds
  kernel_rfl
def p438 : T := .i (i_lss 3 2) (.l (i_sub 4 0) (.i (i_lss 3 10) (.l (i_add 3 0) (cn 289 [.e (Ac [4, 5] e0), 11] (cn 382 [7, 3, 12, 9] (.l (i_add 3 (Z 1)) (.tl 438 [.r 0 3, 14, .r 4 5, 13]))))) (cn 382 [7, 3, 1, 9] (.l (i_add 3 (Z 1)) (.tl 438 [.r 0 3, 12, .r 4 5, 11]))))) (.ret false [.r 0 10])
set_option maxRecDepth 100000 in
theorem q438 : Eqn C sg 438 p438 := by
  intro n ds
  kernel_rfl
def p439 : T := .i (i_neq (.l 0) (.l 1)) (rt [.e ff]) (.o 447 [.r 0 2, .e (.l 0), .e (Z 0)] (rt [.e tt]))
set_option maxRecDepth 100000 in
theorem q439 : Eqn C sg 439 p439 := by
  intro n ds
  kernel_rfl
def p440 : T := .i (i_geq 0 (Z 0)) (.g (.q (i_leq (Z 0) 0) (i_lss 0 (.l 2))) (.t (.leaf (.int .u64)) (.g 2 0) (.g (.q (i_leq (Z 0) 0) (i_lss 0 (.l 4))) (.t (.leaf (.int .u64)) (.g 4 0) (.i (.i .neq .u64 5 6) (.g (.q (i_leq (Z 0) 0) (i_lss 0 (.l 2))) (.t (.leaf (.int .u64)) (.g 2 0) (.g (.q (i_leq (Z 0) 0) (i_lss 0 (.l 4))) (.t (.leaf (.int .u64)) (.g 4 0) (rt [.e (.i .lss .u64 7 8)]))))) (.l (i_sub 0 (Z 1)) (.tl 440 [7, .r 1 4]))))))) (.ret false [.r 0 5])
set_option maxRecDepth 100000 in
theorem q440 : Eqn C sg 440 p440 := by
  intro n ds
  kernel_rfl
def p441 : T := cn 63 [.e (.k (.str [44])), .r 0 8] (.i 9 (cn 172 [.r 10 8] (.g (.rm 8 (.k (dm 1))) (.l (.ap 6 8 (Ls 6 [18])) (.tl 441 [.r 19 9])))) (.ret false [.r 10 8, 8]))
set_option maxRecDepth 100000 in
theorem q441 : Eqn C sg 441 p441 := by
  intro n ds
  kernel_rfl
def p442 : T := .i (i_lss 2 1) (.g (.q (i_leq (Z 0) 2) (i_lss 2 (.l 0))) (.t (.leaf (.int .u64)) (.g 0 2) (cn 448 [3] (.i 4 (rt [2]) (.l (i_add 2 (Z 1)) (.tl 442 [.r 0 2, 5])))))) (.ret false [.r 0 3])
set_option maxRecDepth 100000 in
theorem q442 : Eqn C sg 442 p442 := by
  intro n ds
  kernel_rfl
def p443 : T := .i (i_lss 2 1) (.g (.q (i_leq (Z 0) 2) (i_lss 2 (.l 0))) (.t ty_iiiiibil1l9 (.g 0 2) (cn 252 [13] (.g (.q (i_leq (Z 0) 2) (i_lss 2 (.l 12))) (.l (.st 1 12 2 14) (.l (i_add 2 (Z 1)) (.tl 443 [.r 0 2, 16, .r 3 9, 15]))))))) (.ret false [.r 0 13])
set_option maxRecDepth 100000 in
theorem q443 : Eqn C sg 443 p443 := by
  intro n ds
  kernel_rfl
def p444 : T := cn 449 [.r 0 3] (.o 450 [.e (.a 0 8), .e (.l (.a 0 8)), .e (Z 0), .r 3 2] (rt [.r 8 2]))
set_option maxRecDepth 100000 in
theorem q444 : Eqn C sg 444 p444 := by
  intro n ds
  kernel_rfl
def p445 : T := .i (i_lss 3 2) (.g (.q (i_leq (Z 0) 3) (i_lss 3 (.l 1))) (.t ty_iiiiibil1l9 (.g 1 3) (.g (.q (i_leq (Z 0) 3) (i_lss 3 (.l 0))) (.t ty_iiiiibil1l9 (.g 0 3) (cn 401 [.r 4 2] (.i (.n 6) (rt [.e ff]) (.l (i_add 3 (Z 1)) (.tl 445 [.r 0 3, 7])))))))) (.ret false [.r 0 4])
set_option maxRecDepth 100000 in
theorem q445 : Eqn C sg 445 p445 := by
  intro n ds
  kernel_rfl
def p446 : T := .l (.i .and .u64 0 (.k (.int .u64 4294967295))) (.l (.i .shr .u64 0 (.k (.int .u64 32))) (.l (.i .and .u64 1 (.k (.int .u64 4294967295))) (.l (.i .shr .u64 1 (.k (.int .u64 32))) (.l (.i .mul .u64 2 4) (.l (.i .mul .u64 3 4) (.l (.i .shr .u64 6 (.k (.int .u64 32))) (.l (.i .add .u64 7 8) (.l (.i .and .u64 9 (.k (.int .u64 4294967295))) (.l (.i .shr .u64 9 (.k (.int .u64 32))) (.l (.i .mul .u64 2 5) (.l (.i .add .u64 10 12) (.l (.i .mul .u64 3 5) (.l (.i .add .u64 14 11) (.l (.i .shr .u64 13 (.k (.int .u64 32))) (.l (.i .add .u64 15 16) (.l (.i .mul .u64 0 1) (rt [.r 17 2])))))))))))))))))
set_option maxRecDepth 100000 in
theorem q446 : Eqn C sg 446 p446 := by
  intro n ds
  kernel_rfl
def p447 : T := .i (i_lss 3 2) (.g (.q (i_leq (Z 0) 3) (i_lss 3 (.l 0))) (.t (.leaf (.int .u64)) (.g 0 3) (.g (.q (i_leq (Z 0) 3) (i_lss 3 (.l 1))) (.t (.leaf (.int .u64)) (.g 1 3) (.i (.i .neq .u64 4 5) (rt [.e ff]) (.l (i_add 3 (Z 1)) (.tl 447 [.r 0 3, 6]))))))) (.ret false [.r 0 4])
set_option maxRecDepth 100000 in
theorem q447 : Eqn C sg 447 p447 := by
  intro n ds
  kernel_rfl
def p448 : T := rt [.e (.i .neq .u64 0 (.k (.int .u64 0)))]
set_option maxRecDepth 100000 in
theorem q448 : Eqn C sg 448 p448 := by
  intro n ds
  kernel_rfl
def p449 : T := .i (i_eql (.a 0 0) (Z 2)) (.i (i_geq (.a 0 3) (Z 0)) (.i (i_lss (.a 0 3) (.l 2)) (.g (.q (i_leq (Z 0) (.a 0 3)) (i_lss (.a 0 3) (.l 2))) (.t tI (.g 2 (.a 0 3)) (.l (i_add 1 3) (.l (.mn .i64 4 (Z 20001)) (rt [5, 2]))))) (.l (i_add 1 (Z 1)) (.l (.mn .i64 3 (Z 20001)) (rt [4, 2])))) (.l (i_add 1 (Z 1)) (.l (.mn .i64 3 (Z 20001)) (rt [4, 2])))) (.l (i_add 1 (Z 1)) (.l (.mn .i64 3 (Z 20001)) (rt [4, 2])))
set_option maxRecDepth 100000 in
theorem q449 : Eqn C sg 449 p449 := by
  intro n ds
  kernel_rfl
def p450 : T := .i (i_lss 2 1) (.g (.q (i_leq (Z 0) 2) (i_lss 2 (.l 0))) (.t ty_iiiiibil1l9 (.g 0 2) (cn 444 [5, .r 3 2] (.l (i_add 2 (Z 1)) (.tl 450 [.r 0 2, 8, .r 6 2]))))) (.ret false [.r 0 5])
set_option maxRecDepth 100000 in
theorem q450 : Eqn C sg 450 p450 := by
  intro n ds
  kernel_rfl
def p451 : T := cn 1 [] (.i (.n 2) (rt [.e ff]) (.l (.mn .i64 0 (Z 1073741824)) (.l (.mx .i64 (Z (-1073741824)) 3) (.l (.mn .i64 1 (Z 128)) (.l (.mx .i64 (Z 1) 5) (.l (i_sub (.k (.int .i64 0)) 4) (.l (.mx .i64 4 7) (cn 452 [8] (.j (.l (i_sub 6 (Z 1)) (cn 452 [11] (.g (.rs (.k (.str [109, 111, 100, 117, 108, 101, 32, 116, 111, 112, 32, 40, 32, 105, 110, 112, 117, 116, 32, 99, 108, 107, 32, 44, 32, 111, 117, 116, 112, 117, 116, 32, 114, 101, 103, 32, 91, 32])) 12) (.l (.s .add (.k (.str [109, 111, 100, 117, 108, 101, 32, 116, 111, 112, 32, 40, 32, 105, 110, 112, 117, 116, 32, 99, 108, 107, 32, 44, 32, 111, 117, 116, 112, 117, 116, 32, 114, 101, 103, 32, 91, 32])) 12) (.g (.rs 13 (.k (.str [32, 58, 32, 48, 32, 93, 32, 113, 32, 61, 32]))) (.l (.s .add 13 (.k (.str [32, 58, 32, 48, 32, 93, 32, 113, 32, 61, 32]))) (.g (.rs 14 10) (.l (.s .add 14 10) (.g (.rs 15 (.k (.str [32, 41, 32, 59, 32, 114, 101, 103, 32, 114, 32, 59, 32, 97, 108, 119, 97, 121, 115, 32, 64, 32, 40, 32, 112, 111, 115, 101, 100, 103, 101, 32, 99, 108, 107, 32, 41, 32, 98, 101, 103, 105, 110, 32, 113, 32, 60, 61, 32, 126, 32, 113, 32, 59, 32, 114, 32, 60, 61, 32, 113, 32, 91, 32, 48, 32, 93, 32, 59, 32, 101, 110, 100, 32, 101, 110, 100, 109, 111, 100, 117, 108, 101]))) (.l (.s .add 15 (.k (.str [32, 41, 32, 59, 32, 114, 101, 103, 32, 114, 32, 59, 32, 97, 108, 119, 97, 121, 115, 32, 64, 32, 40, 32, 112, 111, 115, 101, 100, 103, 101, 32, 99, 108, 107, 32, 41, 32, 98, 101, 103, 105, 110, 32, 113, 32, 60, 61, 32, 126, 32, 113, 32, 59, 32, 114, 32, 60, 61, 32, 113, 32, 91, 32, 48, 32, 93, 32, 59, 32, 101, 110, 100, 32, 101, 110, 100, 109, 111, 100, 117, 108, 101]))) (cn 3 [16] (.i (i_neq 19 (Z 0)) (rt [.e ff]) (.i (i_neq (.l (.a 17 6)) (Z 1)) (rt [.e ff]) (.g (.q tt (i_lss (Z 0) (.l (.a 17 6)))) (.g (.ag (.g (.a 17 6) (Z 0))) (.t tI (.a (.g (.a 17 6) (Z 0)) 0) (.i (i_neq 20 (Z 0)) (rt [.e ff]) (.g (.q tt (i_lss (Z 0) (.l (.a 17 6)))) (.g (.ag (.g (.a 17 6) (Z 0))) (.t ty_il1 (.sub (.g (.a 17 6) (Z 0)) 1 2) (cn 109 [21] (.i (i_neq 22 6) (rt [.e ff]) (.o 453 [4, 6, .e (Z 0), .e (.a 17 0), .e (.a 17 1), .e (.a 17 2), .e (.a 17 3), .e (.a 17 4), .e (.a 17 5), .e (.a 17 6)] (cn 3 [.e (.k (.str [109, 111, 100, 117, 108, 101, 32, 116, 111, 112, 32, 40, 32, 105, 110, 112, 117, 116, 32, 97, 32, 44, 32, 111, 117, 116, 112, 117, 116, 32, 114, 101, 103, 32, 113, 32, 61, 32, 49, 32, 41, 32, 59, 32, 97, 108, 119, 97, 121, 115, 32, 64, 32, 42, 32, 113, 32, 61, 32, 97, 32, 59, 32, 101, 110, 100, 109, 111, 100, 117, 108, 101]))] (cn 3 [.e (.k (.str [109, 111, 100, 117, 108, 101, 32, 116, 111, 112, 32, 40, 32, 105, 110, 112, 117, 116, 32, 99, 108, 107, 32, 44, 32, 111, 117, 116, 112, 117, 116, 32, 114, 101, 103, 32, 113, 32, 61, 32, 120, 32, 41, 32, 59, 32, 97, 108, 119, 97, 121, 115, 32, 64, 32, 40, 32, 112, 111, 115, 101, 100, 103, 101, 32, 99, 108, 107, 32, 41, 32, 113, 32, 60, 61, 32, 49, 32, 59, 32, 101, 110, 100, 109, 111, 100, 117, 108, 101]))] (.i (i_eql 35 (Z 11)) (rt [.e (i_eql 38 (Z 9))]) (rt [.e ff]))))))))))))))))))))))))))) (.i (i_lss 4 (Z 0)) (.g (.rs (.k (.str [45, 32])) 9) (.l (.s .add (.k (.str [45, 32])) 9) (.jp 0 [10]))) (.jp 0 [9])))))))))))
set_option maxRecDepth 100000 in
theorem q451 : Eqn C sg 451 p451 := by
  intro n ds
  kernel_rfl
def p452 : T := .o 454 [0, .e (.k (.str []))] (.l (i_add (Z 48) 1) (.l (.cv .u8 3) (.l (.by_ (Ls 1 [4])) (.g (.rs 5 2) (.l (.s .add 5 2) (rt [6]))))))
set_option maxRecDepth 100000 in
theorem q452 : Eqn C sg 452 p452 := by
  intro n ds
  kernel_rfl
def p453 : T := .i (i_lss 2 1) (.g (.q tt (i_lss (Z 0) (.l 9))) (.g (.ag (.g 9 (Z 0))) (.t ty_il1 (.sub (.g 9 (Z 0)) 1 2) (cn 289 [10, 2] (.l (.mn .i64 2 (Z 62)) (.i (i_lss 12 (Z 0)) .no (.l (i_shr 0 12) (.l (i_and 13 (Z 1)) (.i (.b .neq 11 (i_eql 14 (Z 1))) (rt [.e ff]) (.l (i_add 2 (Z 1)) (.tl 453 [.r 0 2, 15, .r 3 7]))))))))))) (.ret false [.r 0 10])
set_option maxRecDepth 100000 in
theorem q453 : Eqn C sg 453 p453 := by
  intro n ds
  kernel_rfl
def p454 : T := .i (i_gtr 0 (Z 9)) (.l (i_rem 0 (Z 10)) (.l (i_add (Z 48) 2) (.l (.cv .u8 3) (.l (.by_ (Ls 1 [4])) (.g (.rs 5 1) (.l (.s .add 5 1) (.l (i_quo 0 (Z 10)) (.tl 454 [7, 6])))))))) (.ret false [.r 0 2])
set_option maxRecDepth 100000 in
theorem q454 : Eqn C sg 454 p454 := by
  intro n ds
  kernel_rfl
end Go.Proofs.YtpmjplpnpnmlcaaGreatDoor
