import Derived.Test.YtpmjplpnpnmlcaaGreatDoorIf0
import Derived.KernelRfl
set_option linter.all false
namespace Go.Proofs.YtpmjplpnpnmlcaaGreatDoor
open Go.AE
def p46 : T := .i (i_eql (.a 0 0) (Z 1)) (cn 82 [.r 0 23] (rt [.r 23 22])) (.i (i_eql (.a 0 0) (Z 2)) (.g (.q tt (i_lss (Z 0) (.l (.a 0 7)))) (.t ty_iiiisl6 (.g (.a 0 7) (Z 0)) (cn 83 [23, .r 1 12, .r 15 2, .r 13 2, .r 17 6] (cn 84 [.e (.a 0 4), .e (Ac [.a 0 1, .a 0 2, .a 0 3] e0), .r 25 12, .r 39 2, .r 37 2, .r 41 6] (cn 40 [.e (Ac [47, 48] e0), .e (.a 0 4), 24] (rt [.e (.a 69 0), .e (.a 69 1), .r 49 20])))))) (.i (i_eql (.a 0 0) (Z 3)) (cn 84 [.e (.a 0 4), .e (Ac [.a 0 1, .a 0 2, .a 0 3] e0), .r 1 22] (.g (.rm 37 (.k (dm 1))) (.l (.ap 1 37 (Ls 1 [.a 0 4])) (rt [.r 23 14, 45, .r 38 7])))) (.i (i_eql (.a 0 0) (Z 4)) (cn 85 [.r 0 13, .r 15 2, .r 13 2, .r 17 6] (rt [.r 23 12, .r 37 2, .r 35 2, .r 39 6])) (.i (i_eql (.a 0 0) (Z 5)) (cn 86 [.e (.a 0 9), .r 1 12, .r 15 2, .r 13 2, .r 17 6] (cn 87 [.e (Ac [Z 2, .a 0 1, .a 0 2, .a 0 3, 45] e0), .r 23 22] (rt [.r 46 12, .r 60 2, .r 58 2, .r 62 6]))) (.i (i_eql (.a 0 0) (Z 6)) (.j (.i 23 (cn 42 [.e (Ac [.a 0 1, .a 0 2, .a 0 3] e0), .e (Z 11), .r 6 9, .r 17 6] (cn 86 [.e (.a 0 9), .r 1 5, .r 24 7, .r 15 2, .r 31 8] (cn 87 [.e (Ac [Z 3, .a 0 1, .a 0 2, .a 0 3, 61] e0), .r 39 22] (rt [.r 62 12, .r 76 2, .r 74 2, .r 78 6])))) (cn 86 [.e (.a 0 9), .r 1 12, .r 15 2, .r 13 2, .r 17 6] (cn 87 [.e (Ac [Z 3, .a 0 1, .a 0 2, .a 0 3, 46] e0), .r 24 22] (rt [.r 47 12, .r 61 2, .r 59 2, .r 63 6])))) (.i (.n 5) (.jp 0 [.e tt]) (.jp 0 [.e (.s .neq (.a 0 4) (.k (.str [99, 108, 107])))]))) (.i (i_eql (.a 0 0) (Z 7)) (cn 88 [.r 0 23] (rt [.r 23 22])) (.i (i_eql (.a 0 0) (Z 8)) (cn 89 [.r 0 23] (rt [.r 23 22])) (.i (i_eql (.a 0 0) (Z 9)) (cn 90 [.e (Ac [.a 0 1, .a 0 2, .a 0 3] e0), .e (.a 0 4), .e (.a 0 7), .r 1 5, .e (.a 0 0), .e (.a 0 1), .e (.a 0 2), .e (.a 0 3), .e (.a 0 4), .e (.a 0 5), .e (.a 0 6), .e (.a 0 7), .e (.a 0 8), .e (.a 0 9), .e (.a 0 10), .e (.a 0 11), .e (.a 0 12), .e (.a 0 13), .r 6 7, .r 15 2, .r 13 2, .r 17 6] (rt [.r 23 5, .r 42 7, .r 51 2, .r 49 2, .r 53 6])) (.i (i_eql (.a 0 0) (Z 10)) (.g (.q tt (i_lss (Z 0) (.l (.a 0 7)))) (.t ty_iiiisl6 (.g (.a 0 7) (Z 0)) (cn 83 [23, .r 1 12, .r 15 2, .r 13 2, .r 17 6] (.i (i_eql 24 (Z 0)) (.o 91 [.e (.a 0 11), .e (.l (.a 0 11)), .e (Z 0), .r 25 12, .r 39 2, .r 37 2, .r 41 6] (rt [.r 50 22])) (.o 91 [.e (.a 0 10), .e (.l (.a 0 10)), .e (Z 0), .r 25 12, .r 39 2, .r 37 2, .r 41 6] (rt [.r 50 22])))))) (rt [.r 1 22]))))))))))
set_option maxRecDepth 100000 in
theorem q46 : Eqn C sg 46 p46 := by
  intro n ds
  kernel_rfl
def p47 : T := .g (.q (.q (i_leq (Z 0) (.l (.a 0 0))) (i_leq (.l (.a 0 0)) (.l (.a 0 0)))) (i_leq (.l (.a 0 0)) (Z 68719476736))) (.l (.rp 1 (.l (.a 0 0)) (.k (.nils 4 1))) (cn 92 [.e (.a 1 4), .e (.a 0 0), .e (.a 0 1), .e (.a 0 2), .e (.a 0 3), .e (.a 0 4), .e (.a 0 5), .e (.a 0 6), 2] (rt [10])))
set_option maxRecDepth 100000 in
theorem q47 : Eqn C sg 47 p47 := by
  intro n ds
  kernel_rfl
def p48 : T := .g (.q (.q (i_leq (Z 0) (.l (.a 0 0))) (i_leq (.l (.a 0 0)) (.l (.a 0 0)))) (i_leq (.l (.a 0 0)) (Z 68719476736))) (.l (.rp 1 (.l (.a 0 0)) (.k (.nils 4 1))) (cn 93 [.e (.a 1 4), 2, .e (.a 0 0), .e (.a 0 1), .e (.a 0 2), .e (.a 0 3), .e (.a 0 4), .e (.a 0 5), .e (.a 0 6), 3] (rt [12])))
set_option maxRecDepth 100000 in
theorem q48 : Eqn C sg 48 p48 := by
  intro n ds
  kernel_rfl
def p49 : T := .i (i_lss 2 1) (.g (.q (i_leq (Z 0) 2) (i_lss 2 (.l 0))) (.t ty_iiiil20 (.g 0 2) (cn 94 [.e (.a 17 4), .e (.a 17 0), .e (.a 17 1), .e (.a 17 2), .e (.a 17 3), .e (.a 17 4), .r 3 14] (.l (i_add 2 (Z 1)) (.tl 49 [.r 0 2, 37, .r 23 14]))))) (.ret false [.r 0 17])
set_option maxRecDepth 100000 in
theorem q49 : Eqn C sg 49 p49 := by
  intro n ds
  kernel_rfl
def p50 : T := .i (i_lss 2 1) (.g (.q (i_leq (Z 0) 2) (i_lss 2 (.l 0))) (.t ty_iiiil20 (.g 0 2) (.g (.q (i_leq (Z 0) 2) (i_lss 2 (.l 16))) (.i (.nl (.g 16 2)) (.o 95 [2, .r 0 3, .e (.k (.lst 1 [])), .e (Z 0), .e (Z 0), .r 3 14, .e (.a 17 0), .e (.a 17 1), .e (.a 17 2), .e (.a 17 3), .e (.a 17 4)] (.l (i_add 21 (Z 1)) (.tl 50 [.r 19 2, 44, .r 25 14]))) (.t (tL 1) (.g 16 2) (.o 95 [2, .r 0 3, 18, .e (.l 18), .e (Z 0), .r 3 14, .e (.a 17 0), .e (.a 17 1), .e (.a 17 2), .e (.a 17 3), .e (.a 17 4)] (.l (i_add 22 (Z 1)) (.tl 50 [.r 20 2, 45, .r 26 14])))))))) (.ret false [.r 0 17])
set_option maxRecDepth 100000 in
theorem q50 : Eqn C sg 50 p50 := by
  intro n ds
  kernel_rfl
def p51 : T := .i (i_lss 2 1) (.g (.q (i_leq (Z 0) 2) (i_lss 2 (.l 0))) (.t ty_iiiil20 (.g 0 2) (cn 48 [.e (Ac [3, 4, 5, 6, 7, 8, 9] e0), 17, .e (.k (.lst 1 [.int .i64 1]))] (.g (.q (i_leq (Z 0) 2) (i_lss 2 (.l 16))) (.i (.nl (.g 16 2)) (.o 96 [18, .r 0 3, .e (.k (.lst 1 [])), .e (Z 0), .e (Z 0), .r 3 11, .e (.a 17 0), .e (.a 17 1), .e (.a 17 2), .e (.a 17 3), .e (.a 17 4), .r 14 3] (.l (i_add 22 (Z 1)) (.tl 51 [.r 20 2, 45, .r 26 11, .r 42 3]))) (.t (tL 1) (.g 16 2) (.o 96 [18, .r 0 3, 19, .e (.l 19), .e (Z 0), .r 3 11, .e (.a 17 0), .e (.a 17 1), .e (.a 17 2), .e (.a 17 3), .e (.a 17 4), .r 14 3] (.l (i_add 23 (Z 1)) (.tl 51 [.r 21 2, 46, .r 27 11, .r 43 3]))))))))) (.ret false [.r 0 17])
set_option maxRecDepth 100000 in
theorem q51 : Eqn C sg 51 p51 := by
  intro n ds
  kernel_rfl
def p52 : T := .i (i_lss 2 1) (.g (.q (i_leq (Z 0) 2) (i_lss 2 (.l 0))) (.t ty_sibi (.g 0 2) (.i (i_gtr (.a 17 3) (Z 0)) (.g (.q (i_leq (Z 0) 2) (i_lss 2 (.l 14))) (.l (.st 1 14 2 (Z 5)) (.l (i_add 2 (Z 1)) (.tl 52 [.r 0 2, 19, .r 3 11, 18, .r 15 2])))) (.l (i_add 2 (Z 1)) (.tl 52 [.r 0 2, 18, .r 3 14]))))) (.ret false [.r 0 17])
set_option maxRecDepth 100000 in
theorem q52 : Eqn C sg 52 p52 := by
  intro n ds
  kernel_rfl
def p53 : T := .i (i_lss 2 1) (.g (.q (i_leq (Z 0) 2) (i_lss 2 (.l 0))) (.t tI (.g 0 2) (.g (.q (i_leq (Z 0) 17) (i_lss 17 (.l 14))) (.l (.st 1 14 17 (Z 1)) (.l (i_add 2 (Z 1)) (.tl 53 [.r 0 2, 19, .r 3 11, 18, .r 15 2])))))) (.ret false [.r 0 17])
set_option maxRecDepth 100000 in
theorem q53 : Eqn C sg 53 p53 := by
  intro n ds
  kernel_rfl
def p54 : T := .i (i_lss 2 1) (.g (.q (i_leq (Z 0) 2) (i_lss 2 (.l 0))) (.t ty_iiiil20 (.g 0 2) (cn 48 [.e (Ac [3, 4, 5, 6, 7, 8, 9] e0), 17, .e (.k (.lst 1 [.int .i64 1]))] (cn 48 [.e (Ac [3, 4, 5, 6, 7, 8, 9] e0), 17, .e (.k (.lst 1 [.int .i64 2]))] (.o 97 [2, .r 18 2, .r 0 3, .e (.l 3), .e (Z 0), .r 3 14, .e (.a 17 0), .e (.a 17 1), .e (.a 17 2), .e (.a 17 3), .e (.a 17 4)] (.l (i_add 25 (Z 1)) (.tl 54 [.r 23 2, 47, .r 28 14]))))))) (.ret false [.r 0 17])
set_option maxRecDepth 100000 in
theorem q54 : Eqn C sg 54 p54 := by
  intro n ds
  kernel_rfl
def p55 : T := .i (i_lss 1 0) (.g (.q (i_leq (Z 0) 1) (i_lss 1 (.l 13))) (.t tI (.g 13 1) (cn 98 [.r 1 15] (cn 99 [.e (i_eql 16 (Z 0)), 17, .e (Z 14), .r 18 14] (.i (i_neq 16 (Z 2)) (.l (i_add 1 (Z 1)) (.tl 55 [0, 46, .r 32 14])) (.g (.q (i_leq (Z 0) 1) (i_lss 1 (.l 32))) (.g (.ag (.g 32 1)) (.t tI (.a (.g 32 1) 1) (.g (.q (.q (i_leq (Z 0) 46) (i_leq 46 46)) (i_leq 46 (Z 68719476736))) (.l (.rp 1 46 ff) (.o 100 [1, .e ff, .r 0 2, 36, .e (.l 36), .e (Z 0), .r 32 14, 47] (.i (.n 49) (cp 101 [69, .e ff] (cn 98 [48, .r 55 14] (cn 99 [.r 70 2, .e (Z 14), .r 72 14] (.l (i_add 51 (Z 1)) (.tl 55 [50, 100, .r 86 14]))))) (cn 98 [48, .r 55 14] (cn 99 [.e ff, 70, .e (Z 14), .r 71 14] (.l (i_add 51 (Z 1)) (.tl 55 [50, 99, .r 85 14])))))))))))))))) (.ret false [.r 0 16])
set_option maxRecDepth 100000 in
theorem q55 : Eqn C sg 55 p55 := by
  intro n ds
  kernel_rfl
def p56 : T := .i (i_lss 2 1) (.g (.q (i_leq (Z 0) 2) (i_lss 2 (.l 0))) (.t ty_iiiil20 (.g 0 2) (.i (i_neq (.a 17 0) (Z 2)) (.l (i_add 2 (Z 1)) (.tl 56 [.r 0 2, 18, .r 3 14])) (.g (.q (.q (i_leq (Z 0) (.l 3)) (i_leq (.l 3) (.l 3))) (i_leq (.l 3) (Z 68719476736))) (.l (.rp 1 (.l 3) (.k (.nils 4 1))) (.g (.q (i_leq (Z 0) 2) (i_lss 2 (.l 16))) (.i (.nl (.g 16 2)) (.o 102 [.r 0 3, .e (.k (.lst 1 [])), .e (Z 0), .e (Z 0), .r 3 14, .e (.a 17 0), .e (.a 17 1), .e (.a 17 2), .e (.a 17 3), .e (.a 17 4), 18] (cn 103 [.e (Ac [39, 40, 41, 42, 43] e0), 43, .r 25 14, 44] (.o 104 [.r 19 3, .e (.l 59), .e (Z 0), .r 45 14, .r 39 5, 59] (.l (i_add 62 (Z 1)) (.tl 56 [.r 60 2, 85, .r 65 14]))))) (.t (tL 1) (.g 16 2) (.o 102 [.r 0 3, 19, .e (.l 19), .e (Z 0), .r 3 14, .e (.a 17 0), .e (.a 17 1), .e (.a 17 2), .e (.a 17 3), .e (.a 17 4), 18] (cn 103 [.e (Ac [40, 41, 42, 43, 44] e0), 44, .r 26 14, 45] (.o 104 [.r 20 3, .e (.l 60), .e (Z 0), .r 46 14, .r 40 5, 60] (.l (i_add 63 (Z 1)) (.tl 56 [.r 61 2, 86, .r 66 14]))))))))))))) (.ret false [.r 0 17])
set_option maxRecDepth 100000 in
theorem q56 : Eqn C sg 56 p56 := by
  intro n ds
  kernel_rfl
def p57 : T := .i (i_lss 2 1) (.g (.q (i_leq (Z 0) 2) (i_lss 2 (.l 0))) (.t ty_iiiil20 (.g 0 2) (cn 105 [17] (.i (.n 18) (.g (.q (.q (i_leq (Z 0) (.l 7)) (i_leq (.l 7) (.l 7))) (i_leq (.l 7) (Z 68719476736))) (.l (.rp 1 (.l 7) ff) (cn 106 [2, .r 2 12, 19, .r 14 3] (cn 99 [20, .e (Ac [.a 17 1, .a 17 2, .a 17 3] e0), .e (Z 15), .r 21 11, .r 33 3] (.l (i_add 2 (Z 1)) (.tl 57 [.r 0 2, 50, .r 36 14])))))) (cn 99 [.e ff, .e (Ac [.a 17 1, .a 17 2, .a 17 3] e0), .e (Z 15), .r 3 14] (.l (i_add 2 (Z 1)) (.tl 57 [.r 0 2, 33, .r 19 14]))))))) (.ret false [.r 0 17])
set_option maxRecDepth 100000 in
theorem q57 : Eqn C sg 57 p57 := by
  intro n ds
  kernel_rfl
def p58 : T := .i (i_eql 10 (Z 0)) (.o 107 [.e (Z (-1)), 4, .e (.l 4), .e (Z 0), .r 0 16] (.i (i_lss 16 (Z 0)) (.ret false [.r 20 16]) (.g (.q (i_leq (Z 0) 16) (i_lss 16 (.l 35))) (.l (.st 1 35 16 tt) (.g (.rm 34 (.k (dm 1))) (.l (.ap 1 34 (Ls 1 [16])) (.tl 58 [.r 20 14, 37, 36]))))))) (.ret false [.r 0 16])
set_option maxRecDepth 100000 in
theorem q58 : Eqn C sg 58 p58 := by
  intro n ds
  kernel_rfl
def p59 : T := .i (i_lss 2 1) (.g (.q (i_leq (Z 0) 2) (i_lss 2 (.l 0))) (.t ty_iil1 (.g 0 2) (.j (.i 18 (cn 99 [.e tt, .e (.k (.agg [.int .i64 0, .int .i64 0, .int .i64 0])), .e (Z 11), .r 3 14] (.l (i_add 2 (Z 1)) (.tl 59 [.r 0 2, 33, .r 19 14]))) (.g (.q (i_leq (Z 0) (.a 17 0)) (i_lss (.a 17 0) (.l 14))) (.t tI (.g 14 (.a 17 0)) (.g (.q (.q tt (i_leq (Z 0) 2)) (i_leq 2 (.l 9))) (.l (.dt 3 9 (Z 0) 2) (cn 108 [20, .e (.a 17 0), .e (.a 17 1), .e (.a 17 2)] (.i (i_neq 19 (Z 3)) (.i (i_neq 19 (Z 4)) (cn 98 [22, .r 3 14] (cn 99 [.e tt, 25, .e (Z 11), .r 26 14] (.l (i_add 2 (Z 1)) (.tl 59 [.r 0 2, 54, .r 40 14])))) (.i 21 (cn 98 [22, .r 3 14] (cn 99 [.e tt, 25, .e (Z 11), .r 26 14] (.l (i_add 2 (Z 1)) (.tl 59 [.r 0 2, 54, .r 40 14])))) (cn 109 [.e (Ac [23, 24] e0)] (.g (.q (i_leq (Z 0) 22) (i_lss 22 (.l 3))) (.g (.ag (.g 3 22)) (.t tI (.a (.g 3 22) 1) (cn 98 [22, .r 3 14] (.g (.q (.eq 28 3) tt) (cn 99 [.e (i_neq 25 26), 27, .e (Z 11), .r 28 14] (.l (i_add 2 (Z 1)) (.tl 59 [.r 0 2, 56, .r 42 14]))))))))))) (.i 21 (cn 98 [22, .r 3 14] (cn 99 [.e tt, 25, .e (Z 11), .r 26 14] (.l (i_add 2 (Z 1)) (.tl 59 [.r 0 2, 54, .r 40 14])))) (cn 109 [.e (Ac [23, 24] e0)] (.g (.q (i_leq (Z 0) 22) (i_lss 22 (.l 3))) (.g (.ag (.g 3 22)) (.t tI (.a (.g 3 22) 1) (cn 98 [22, .r 3 14] (.g (.q (.eq 28 3) tt) (cn 99 [.e (i_neq 25 26), 27, .e (Z 11), .r 28 14] (.l (i_add 2 (Z 1)) (.tl 59 [.r 0 2, 56, .r 42 14]))))))))))))))))) (.i (i_lss (.a 17 0) (Z 0)) (.jp 0 [.e tt]) (.jp 0 [.e (i_geq (.a 17 0) (.l 3))]))))) (.ret false [.r 0 17])
set_option maxRecDepth 100000 in
theorem q59 : Eqn C sg 59 p59 := by
  intro n ds
  kernel_rfl
def p60 : T := cn 110 [6] (cn 111 [15, .r 10 5, .r 7 3, 6] (.i (sE_ 24 (.k (.str []))) (rt [.e (.k (.agg [.int .i64 0, .int .i64 0, .int .i64 0])), .e (Z 0), 1]) (cn 112 [24] (.i (i_eql 27 (Z 0)) (.i (i_eql (.l 1) (Z 12000)) (rt [.e (Ac [21, 22, 23] e0), .e (Z 19), .e (.k (.lst 5 []))]) (.i (i_neq 27 (Z 0)) (rt [.e (Ac [21, 22, 23] e0), 27, .e (.k (.lst 5 []))]) (.g (.q (.q tt (i_leq (Z 0) 26)) (i_leq 26 (.sl 24))) (.l (.ds 24 (Z 0) 26) (.g (.rm 1 (.k (dm 1))) (.l (.ap 5 1 (Ls 5 [Ac [25, 28, 21, 22, 23] e0])) (cn 111 [26, .r 16 9] (.tl 60 [0, 29, .r 2 4, 38, .r 35 3, .r 30 5])))))))) (.i (i_neq 27 (Z 0)) (rt [.e (Ac [21, 22, 23] e0), 27, .e (.k (.lst 5 []))]) (.g (.q (.q tt (i_leq (Z 0) 26)) (i_leq 26 (.sl 24))) (.l (.ds 24 (Z 0) 26) (.g (.rm 1 (.k (dm 1))) (.l (.ap 5 1 (Ls 5 [Ac [25, 28, 21, 22, 23] e0])) (cn 111 [26, .r 16 9] (.tl 60 [0, 29, .r 2 4, 38, .r 35 3, .r 30 5])))))))))))
set_option maxRecDepth 100000 in
theorem q60 : Eqn C sg 60 p60 := by
  intro n ds
  kernel_rfl
def p61 : T := .o 113 [0, .e (.l 0), .e (Z 0), .r 1 8] (rt [.r 12 8])
set_option maxRecDepth 100000 in
theorem q61 : Eqn C sg 61 p61 := by
  intro n ds
  kernel_rfl
def p62 : T := cn 114 [.r 0 8] (.i (.n 8) (cn 115 [.r 9 8] (rt [.e (.k (.str [])), .r 17 8])) (cn 33 [.r 9 8] (.l (i_add 19 (Z 1)) (rt [.e (.a 17 1), 18, 26, .r 20 6]))))
set_option maxRecDepth 100000 in
theorem q62 : Eqn C sg 62 p62 := by
  intro n ds
  kernel_rfl
def p63 : T := cn 116 [.r 0 9] (.i (.n 9) (rt [.e ff, .r 10 8]) (.l (i_add 11 (Z 1)) (rt [.e tt, 10, 18, .r 12 6])))
set_option maxRecDepth 100000 in
theorem q63 : Eqn C sg 63 p63 := by
  intro n ds
  kernel_rfl
def p64 : T := .i (i_eql 7 (Z 0)) (cn 33 [.r 0 8] (cn 61 [.e (.k (.lst 1 [.str [112, 97, 114, 97, 109, 101, 116, 101, 114]])), .r 23 8] (cn 117 [.e (Ac [.a 22 2, .a 22 3, .a 22 4] e0), .e (.k (.str [112, 97, 114, 97, 109, 101, 116, 101, 114])), .r 31 8] (.g (.rm 19 (.k (dm 1))) (.l (.ap 14 19 (Ls 14 [39])) (cn 63 [.e (.k (.str [44])), .r 40 8] (.i (.n 49) (.ret false [.r 50 8, .r 8 11, 48, .r 20 2]) (.tl 64 [.r 50 8, .r 8 11, 48, .r 20 2])))))))) (.ret false [.r 0 22])
set_option maxRecDepth 100000 in
theorem q64 : Eqn C sg 64 p64 := by
  intro n ds
  kernel_rfl
def p65 : T := .j (.i 22 (cn 118 [.r 23 8] (.g (.rm 20 (.k (dm 1))) (.l (.ap 14 20 (Ls 14 [31])) (cn 63 [.e (.k (.str [44])), .r 32 8] (.i (.n 41) (.ret false [.r 42 8, .r 8 12, 40, 21]) (.tl 65 [.r 42 8, .r 8 12, 40, 21])))))) (.ret false [.r 23 8, .r 8 14])) (.i (i_eql 7 (Z 0)) (.i (i_gtr (.l 20) (Z 0)) (.jp 0 [.e tt, .r 0 8]) (cn 116 [.e (.k (.str [41])), .r 0 8] (.jp 0 [.e (.n 22), .r 23 8]))) (.jp 0 [.e ff, .r 0 8]))
set_option maxRecDepth 100000 in
theorem q65 : Eqn C sg 65 p65 := by
  intro n ds
  kernel_rfl
def p66 : T := .o 119 [.r 0 9, .e (.k (.lst 14 []))] (rt [.r 10 9])
set_option maxRecDepth 100000 in
theorem q66 : Eqn C sg 66 p66 := by
  intro n ds
  kernel_rfl
def p67 : T := .o 120 [.e (.l 0), .e (Z 0), .r 0 8] (rt [.e (Z (-1)), .r 10 8])
set_option maxRecDepth 100000 in
theorem q67 : Eqn C sg 67 p67 := by
  intro n ds
  kernel_rfl
def p68 : T := rt [.e (sE_ (.a 0 0) 1), 1]
set_option maxRecDepth 100000 in
theorem q68 : Eqn C sg 68 p68 := by
  intro n ds
  kernel_rfl
def p69 : T := cn 121 [.e (.a 0 0), 1] (rt [2])
set_option maxRecDepth 100000 in
theorem q69 : Eqn C sg 69 p69 := by
  intro n ds
  kernel_rfl
def p70 : T := rt [.e (Ac [.a 0 1] e0)]
set_option maxRecDepth 100000 in
theorem q70 : Eqn C sg 70 p70 := by
  intro n ds
  kernel_rfl
def p71 : T := cn 122 [0, .e (.a 1 0), .e (Z 0), .e (Z 0), .e (Z 0), .e (Z 0)] (.i (i_neq 7 (Z 0)) (rt [.e (Z 0), .e (Ac [4, 5, 6] e0), 7]) (rt [2, .e (.k (.agg [.int .i64 0, .int .i64 0, .int .i64 0])), .e (Z 0)]))
set_option maxRecDepth 100000 in
theorem q71 : Eqn C sg 71 p71 := by
  intro n ds
  kernel_rfl
def p72 : T := cn 123 [.e (.a 0 0)] (cn 124 [.e (.a 1 0), .e (.a 1 1), .e (.a 1 2), .e (.a 1 3), .e (.a 1 4), .e (.a 1 5), .e (.a 1 6), .e (.a 1 7), .e (.a 1 8), .e (.a 1 9), .e (.a 1 10), .e (.a 1 11), .e (.a 1 12), .e (.a 1 13), .e (.a 1 14), .e (.a 1 15), .e (.a 1 16), .e (.a 1 17), .e (.a 1 18), 2] (.g (.rm 22 (.k (dm 1))) (.l (.ap 19 22 (Ls 19 [Ac [3, 4, 5, 6, 7, 8, 9, 10, 11, 12, 13, 14, 15, 16, 17, 18, 19, 20, 21] e0])) (rt [.e (Ac [23, .a 0 1] e0)]))))
set_option maxRecDepth 100000 in
theorem q72 : Eqn C sg 72 p72 := by
  intro n ds
  kernel_rfl
def p73 : T := cn 125 [.e (.a 0 0)] (cn 69 [.r 0 2] (.i (i_geq 4 (Z 0)) (.g (.q (i_leq (Z 0) 4) (i_lss 4 (.l 3))) (.g (.q (.q (.ok ty_si (.g 3 4)) tt) tt) (.l (.st 2 3 4 (.upd (.g 3 4) 1 2)) (rt [5])))) (.g (.rm 3 (.k (dm 1))) (.l (.ap 2 3 (Ls 2 [Ac [1, 2] e0])) (rt [5])))))
set_option maxRecDepth 100000 in
theorem q73 : Eqn C sg 73 p73 := by
  intro n ds
  kernel_rfl
def p74 : T := .o 126 [.r 0 2, .e (.l 0), .e (Z 0)] (rt [.e (Z (-1))])
set_option maxRecDepth 100000 in
theorem q74 : Eqn C sg 74 p74 := by
  intro n ds
  kernel_rfl
def p75 : T := .o 127 [.e (.l 0), .e (Z 0), .r 0 2] (rt [.e (Z (-1)), .r 4 2])
set_option maxRecDepth 100000 in
theorem q75 : Eqn C sg 75 p75 := by
  intro n ds
  kernel_rfl
def p76 : T := .i (i_lss 1 (.l 3)) (.g (.q (i_leq (Z 0) 1) (i_lss 1 (.l 3))) (.t tS (.g 3 1) (cn 128 [4, 2] (.i (.n 5) (.g (.q (i_leq (Z 0) 0) (i_lss 0 (.l 3))) (.l (.st 1 3 0 4) (.l (i_add 0 (Z 1)) (.l (i_add 1 (Z 1)) (.tl 76 [.r 8 2, .r 6 2]))))) (.l (i_add 1 (Z 1)) (.tl 76 [0, 7, 6, 3])))))) (.ret false [.r 0 4])
set_option maxRecDepth 100000 in
theorem q76 : Eqn C sg 76 p76 := by
  intro n ds
  kernel_rfl
def p77 : T := .g (.rs 3 (.a 0 4)) (.l (.s .add 3 (.a 0 4)) (.i (i_geq (.l (.a 0 7)) (Z 2)) (.g (.q tt (i_lss (Z 0) (.l (.a 0 7)))) (.t ty_iiiisl6 (.g (.a 0 7) (Z 0)) (cn 39 [24, .r 1 22] (.g (.q tt (i_lss (Z 1) (.l (.a 0 7)))) (.t ty_iiiisl6 (.g (.a 0 7) (Z 1)) (cn 39 [48, .r 26 22] (cn 129 [.e (Ac [.a 0 1, .a 0 2, .a 0 3] e0), 25, 49, .e (Z 128), .r 50 22] (.i (i_geq (.l (.a 0 7)) (Z 4)) (.g (.q tt (i_lss (Z 2) (.l (.a 0 7)))) (.t ty_iiiisl6 (.g (.a 0 7) (Z 2)) (cn 39 [95, .r 73 22] (.g (.q tt (i_lss (Z 3) (.l (.a 0 7)))) (.t ty_iiiisl6 (.g (.a 0 7) (Z 3)) (cn 39 [119, .r 97 22] (cn 129 [.e (Ac [.a 0 1, .a 0 2, .a 0 3] e0), 120, 96, .e (Z 64), .r 121 22] (rt [.e (Ac [23, 72, .a 0 6, 143] e0), .r 144 22])))))))) (rt [.e (Ac [23, 72, .a 0 6, Z 0] e0), .r 73 22]))))))))) (.i (i_geq (.l (.a 0 7)) (Z 4)) (.g (.q tt (i_lss (Z 2) (.l (.a 0 7)))) (.t ty_iiiisl6 (.g (.a 0 7) (Z 2)) (cn 39 [24, .r 1 22] (.g (.q tt (i_lss (Z 3) (.l (.a 0 7)))) (.t ty_iiiisl6 (.g (.a 0 7) (Z 3)) (cn 39 [48, .r 26 22] (cn 129 [.e (Ac [.a 0 1, .a 0 2, .a 0 3] e0), 49, 25, .e (Z 64), .r 50 22] (rt [.e (Ac [23, Z 1, .a 0 6, 72] e0), .r 73 22])))))))) (rt [.e (Ac [23, Z 1, .a 0 6, Z 0] e0), .r 1 22]))))
set_option maxRecDepth 100000 in
theorem q77 : Eqn C sg 77 p77 := by
  intro n ds
  kernel_rfl
def p78 : T := .i (sE_ (.a 0 5) (.k (.str [114, 101, 103]))) (rt [.e (Z 2)]) (.i (sE_ (.a 0 5) (.k (.str [111, 117, 116, 112, 117, 116, 32, 114, 101, 103]))) (rt [.e (Z 2)]) (.i (sE_ (.a 0 5) (.k (.str [105, 110, 112, 117, 116]))) (rt [.e (Z 3)]) (rt [.e (Z 1)])))
set_option maxRecDepth 100000 in
theorem q78 : Eqn C sg 78 p78 := by
  intro n ds
  kernel_rfl
def p79 : T := .i (i_eql (.l 19) (Z 300)) (cn 42 [2, .e (Z 19), .r 7 7, .r 17 8] (rt [.e (Z 0), .r 3 4, .r 25 7, .r 14 3, .r 32 8])) (.g (.rm 19 (.k (dm 1))) (.l (.ap 4 19 (Ls 4 [0])) (.g (.rm 20 (.k (dm 1))) (.l (.ap 3 20 (Ls 3 [2])) (.g (.rm 24 (.k (dm 1))) (.l (.ap 1 24 (Ls 1 [1])) (.l (i_sub (.l 25) (Z 1)) (rt [28, .r 3 16, .r 25 2, .r 21 3, 27]))))))))
set_option maxRecDepth 100000 in
theorem q79 : Eqn C sg 79 p79 := by
  intro n ds
  kernel_rfl
def p80 : T := .i (i_lss 3 2) (.g (.q (i_leq (Z 0) 3) (i_lss 3 (.l 1))) (.t ty_iiiisl6 (.g 1 3) (cn 39 [44, .r 4 16, .r 38 6] (.l (.cv .u64 45) (.l (i_shr 45 (.k (.int .u64 63))) (.l (.cv .u64 69) (cn 130 [35, .e (Ls 1 [68, 70])] (.g (.rm 66 (.k (dm 1))) (.l (.ap 3 66 (Ls 3 [Ac [0] (.aa 71 e0)])) (.l (i_add 3 (Z 1)) (.tl 80 [.r 0 3, 74, .r 46 16, .r 20 18, .r 62 4, 73, 67]))))))))))) (.ret false [.r 0 44])
set_option maxRecDepth 100000 in
theorem q80 : Eqn C sg 80 p80 := by
  intro n ds
  kernel_rfl
def p81 : T := cn 72 [0, .e (Ac [1, Z 2, 2] (.aa 3 (Ac [.k (.lst 4 []), Z 0, ff, Z 0, Z 0, Z 0, Z 0, Z 0, ff, Z 0, .k (.lst 1 []), .k (.lst 9 [])] e0)))] (cn 131 [4] (rt [.e (Ac [.a 4 0, .a 5 0] e0)]))
set_option maxRecDepth 100000 in
theorem q81 : Eqn C sg 81 p81 := by
  intro n ds
  kernel_rfl
def p82 : T := cn 84 [.e (.a 0 4), .e (Ac [.a 0 1, .a 0 2, .a 0 3] e0), .r 1 22] (.i (sE_ (.a 0 5) (.k (.str [105, 110, 116, 101, 103, 101, 114]))) (.g (.rm 37 (.k (dm 1))) (.l (.ap 1 37 (Ls 1 [.a 0 4])) (rt [.r 23 14, 45, .r 38 7]))) (cn 132 [0, .r 23 12, .r 37 2, .r 35 2, .r 39 6] (rt [.r 46 12, .r 60 2, .r 58 2, .r 62 6])))
set_option maxRecDepth 100000 in
theorem q82 : Eqn C sg 82 p82 := by
  intro n ds
  kernel_rfl
def p83 : T := cn 70 [.e (Ac [1, 2] e0)] (cn 71 [0, 23] (cn 42 [.r 25 2, .r 6 7, .r 15 8] (rt [24, .r 1 5, .r 27 7, .r 13 2, .r 34 8])))
set_option maxRecDepth 100000 in
theorem q83 : Eqn C sg 83 p83 := by
  intro n ds
  kernel_rfl
def p84 : T := cp 41 [17, 0] (.i 24 (cn 42 [1, .e (Z 10), .r 7 9, .r 18 6] (.g (.rm 17 (.k (dm 1))) (.l (.ap 1 17 (Ls 1 [0])) (cn 43 [4] (cn 44 [0, 41] (rt [.r 2 2, 43, .r 5 2, .r 25 9, 16, 40, .r 34 6])))))) (.g (.rm 17 (.k (dm 1))) (.l (.ap 1 17 (Ls 1 [0])) (cn 43 [4] (cn 44 [0, 26] (rt [.r 2 2, 28, .r 5 12, 25, .r 18 6]))))))
set_option maxRecDepth 100000 in
theorem q84 : Eqn C sg 84 p84 := by
  intro n ds
  kernel_rfl
def p85 : T := .g (.q tt (i_lss (Z 0) (.l (.a 0 7)))) (.t ty_iiiisl6 (.g (.a 0 7) (Z 0)) (cn 133 [23, .e (Z 1), .r 1 22] (.g (.q tt (i_lss (Z 1) (.l (.a 0 7)))) (.t ty_iiiisl6 (.g (.a 0 7) (Z 1)) (cn 134 [48, .r 25 23] (cn 135 [.e (Ac [.a 0 1, .a 0 2, .a 0 3] e0), .r 50 22] (cn 87 [.e (Ac [Z 1, .a 0 1, .a 0 2, .a 0 3, Ls 20 [Ac [Z 1, .a 0 1, .a 0 2, .a 0 3] (.aa 24 (.aa 49 (Ac [.k (.lst 20 []), .k (.lst 20 []), Z 0] e0)))]] e0), .r 72 22] (rt [.r 94 22]))))))))
set_option maxRecDepth 100000 in
theorem q85 : Eqn C sg 85 p85 := by
  intro n ds
  kernel_rfl
def p86 : T := .o 136 [0, .e (.l 0), .e (Z 0), .r 1 16, .e (.k (.lst 20 [])), .r 17 6] (rt [.r 26 16, .r 43 6, 42])
set_option maxRecDepth 100000 in
theorem q86 : Eqn C sg 86 p86 := by
  intro n ds
  kernel_rfl
def p87 : T := .i (i_eql (.l 19) (Z 200)) (cn 42 [.e (Ac [.a 0 1, .a 0 2, .a 0 3] e0), .e (Z 19), .r 6 7, .r 15 8] (rt [.r 1 5, .r 23 7, .r 13 2, .r 30 8])) (.g (.rm 19 (.k (dm 1))) (.l (.ap 5 19 (Ls 5 [0])) (rt [.r 1 18, 23, .r 20 3])))
set_option maxRecDepth 100000 in
theorem q87 : Eqn C sg 87 p87 := by
  intro n ds
  kernel_rfl
def p88 : T := cn 84 [.e (.a 0 4), .e (Ac [.a 0 1, .a 0 2, .a 0 3] e0), .r 1 22] (cn 137 [.r 23 12, .r 37 2, .r 35 2, .r 39 6] (cn 20 [.e (.a 0 4), .e (Ac [.a 0 1, .a 0 2, .a 0 3] e0), .e (.a 45 0), .e (.a 45 1), .e (.k (.str [])), .e ff, .r 51 7, .r 60 2, .e (.k (.lst 1 [])), .e (.k (.lst 1 [])), .e (.k (.lst 1 [])), .r 62 6] (.j (.o 139 [.e (.a 0 10), .e (.l (.a 0 10)), .e (Z 0), .r 90 6, .r 102 8, .e (.a 0 0), .e (.a 0 1), .e (.a 0 2), .e (.a 0 3), .e (.a 0 4), .e (.a 0 5), .e (.a 0 6), .e (.a 0 7), .e (.a 0 8), .e (.a 0 9), .e (.a 0 10), .e (.a 0 11), .e (.a 0 12), .e (.a 0 13), .r 68 4, .e (.k (.str [])), 112, .e (.a 0 6), .e (Z 0), 112, .e (.a 0 6), .e (Z 0), .e (Z 0), .e (Z 0), .e (Z 0), .e (Z 0), .e ff, .e (Z 0), .e (.k (.lst 14 [])), .r 110 2, .r 96 6, .r 81 3, .e (.k (.lst 9 [])), .e (.k (.lst 4 [])), .e (.k (.lst 1 [])), .e (.k (.lst 9 []))] (.o 140 [.e (.l 161), .e (Z 0), .r 116 61] (cn 141 [212] (cn 142 [197, .e (Ac [211, 212, 213, 214] e0), 240, .r 207 4, .r 184 7, .r 233 3, .r 191 2, 236, .r 227 6] (cn 143 [202, .r 241 23] (.i (i_neq 274 (Z 0)) (rt [.r 179 5, .r 268 7, .r 278 2, .r 225 2, .r 281 6]) (.l (i_sub (.l 280) (Z 1)) (.g (.q (i_leq (Z 0) 287) (i_lss 287 (.l 280))) (.t ty_iiiiibil1l9 (.g 280 287) (cn 144 [.e (Ac [179, 180] e0), 197, .e (Ac [237, 215, 216] (.aa 288 e0))] (rt [.e (.a 289 0), .e (.a 289 1), .r 181 3, .r 268 7, .r 278 2, .r 225 2, .r 281 6]))))))))))) (.i (i_eql (.l (.a 0 7)) (Z 2)) (.g (.q tt (i_lss (Z 0) (.l (.a 0 7)))) (.t ty_iiiisl6 (.g (.a 0 7) (Z 0)) (cn 83 [90, .r 46 5, .r 72 7, .r 58 2, .r 79 2, .r 84 6] (.g (.q tt (i_lss (Z 1) (.l (.a 0 7)))) (.t ty_iiiisl6 (.g (.a 0 7) (Z 1)) (cn 83 [114, .r 92 22] (cn 138 [.e (Ac [.a 0 1, .a 0 2, .a 0 3] e0), 91, 115, .e (Z 128), .r 116 22] (.jp 0 [.r 139 6, .r 155 6, .r 145 6, .r 153 2, .r 151 2, 138])))))))) (.jp 0 [.r 46 5, 72, .r 84 6, .r 73 8, .r 58 2, .e (Z 1)])))))
set_option maxRecDepth 100000 in
theorem q88 : Eqn C sg 88 p88 := by
  intro n ds
  kernel_rfl
def p89 : T := cn 84 [.e (.a 0 4), .e (Ac [.a 0 1, .a 0 2, .a 0 3] e0), .r 1 22] (cn 10 [.e (.a 0 5), .r 28 9, .r 39 6] (.i (.n 46) (cn 42 [.e (Ac [.a 0 1, .a 0 2, .a 0 3] e0), .e (Z 9), .r 47 15] (rt [.r 23 5, .r 62 9, .r 37 2, .r 71 6])) (.l (i_add 48 (Z 1)) (.i (i_gtr 62 (Z 40)) (cn 42 [.e (Ac [.a 0 1, .a 0 2, .a 0 3] e0), .e (Z 19), 47, 62, .r 49 13] (rt [.r 23 5, .r 63 9, .r 37 2, .r 72 6])) (cn 145 [.e (.a 45 4)] (cn 146 [.e (.a 0 12), 63, .r 23 5, 47, 62, .r 49 5, .r 37 2, .r 54 8] (cn 145 [.e (.a 45 5)] (cn 146 [.e (.a 0 13), 86, .r 64 22] (.o 147 [.e (.a 0 12), .e (.l (.a 0 12)), .e (Z 0), .r 87 12, .r 101 2, .e (.a 0 0), .e (.a 0 1), .e (.a 0 2), .e (.a 0 3), .e (.a 0 4), .e (.a 0 5), .e (.a 0 6), .e (.a 0 7), .e (.a 0 8), .e (.a 0 9), .e (.a 0 10), .e (.a 0 11), .e (.a 0 12), .e (.a 0 13), .e (.a 45 0), .e (.a 45 1), .e (.a 45 2), .e (.a 45 3), .e (.a 45 4), .e (.a 45 5), .e (.a 45 6), .r 99 2, .r 103 6, .e (.k (.lst 2 []))] (.i (i_neq 123 (Z 0)) (rt [.r 112 14, .r 147 8]) (.g (.rs 115 130) (.l (.s .add 115 130) (.g (.rs 156 (.k (.str [46]))) (.l (.s .add 156 (.k (.str [46]))) (cn 11 [.e (Ac [140, 141, 142, 143, 144, 145, 146] e0), .e (Ac [155] e0), .e (.k (.lst 19 [])), .e (.k (.lst 2 [])), 157, .e ff, .r 117 9, .e (.k (.lst 1 [])), .e (.k (.lst 1 [])), .e (.k (.lst 1 [])), .r 149 6] (.o 148 [145, .e (.l 145), .e (Z 0), .r 112 5, .r 162 9, .r 126 21, .r 158 4, .e (.k (.lst 5 [])), .r 147 2, .r 174 6, .r 171 3] (cn 13 [.r 217 3, 233, .r 220 2, .r 188 9, .r 231 2, .r 225 6] (.o 149 [.e (.l 222), .e (Z 0), .r 183 5, .r 239 9, .r 222 3, .r 250 6] (rt [.r 258 14, .r 273 8])))))))))))))))))))
set_option maxRecDepth 100000 in
theorem q89 : Eqn C sg 89 p89 := by
  intro n ds
  kernel_rfl
def p90 : T := cp 41 [29, 1] (.i (.n 39) (cn 42 [0, .e (Z 9), .r 22 7, .r 31 8] (rt [.r 3 19, .r 40 7, .r 29 2, .r 47 8])) (.g (.q tt (i_lss (Z 0) (.l 2))) (.t ty_iiiisl6 (.g 2 (Z 0)) (cn 83 [40, .r 3 5, .r 22 17] (.o 150 [.r 1 2, 41, .e (Z 0), .r 42 5, .r 8 14, .r 47 11, .e (.a 0 0), .e (.a 0 1), .e (.a 0 2), .r 58 6] (rt [.r 68 30, .r 101 6]))))))
set_option maxRecDepth 100000 in
theorem q90 : Eqn C sg 90 p90 := by
  intro n ds
  kernel_rfl
def p91 : T := .i (i_lss 2 1) (.g (.q (i_leq (Z 0) 2) (i_lss 2 (.l 0))) (.t ty_iiiissbl6l6l8l14l14l5l5 (.g 0 2) (.g (.rs (.a 25 4) (.k (.str [46]))) (.l (.s .add (.a 25 4) (.k (.str [46]))) (cn 151 [26, .r 3 12, .r 17 2, .r 15 2, .r 19 6] (cn 13 [.e (.a 25 10), .r 49 5, .r 32 7, .r 41 2, .r 54 2, .r 43 6] (.l (i_add 2 (Z 1)) (.tl 91 [.r 0 2, 78, .r 27 5, .r 61 9, .r 39 2, .r 72 6])))))))) (.ret false [.r 0 25])
set_option maxRecDepth 100000 in
theorem q91 : Eqn C sg 91 p91 := by
  intro n ds
  kernel_rfl
def p92 : T := .o 152 [0, .e (.l 0), .e (Z 0), .r 1 8] (rt [.r 12 8])
set_option maxRecDepth 100000 in
theorem q92 : Eqn C sg 92 p92 := by
  intro n ds
  kernel_rfl
def p93 : T := .o 153 [0, .e (.l 0), .e (Z 0), .r 1 9] (rt [.r 13 9])
set_option maxRecDepth 100000 in
theorem q93 : Eqn C sg 93 p93 := by
  intro n ds
  kernel_rfl
def p94 : T := .o 154 [0, .e (.l 0), .e (Z 0), .r 1 19] (rt [.r 23 19])
set_option maxRecDepth 100000 in
theorem q94 : Eqn C sg 94 p94 := by
  intro n ds
  kernel_rfl
def p95 : T := .i (i_lss 6 5) (.g (.q (i_leq (Z 0) 6) (i_lss 6 (.l 4))) (.i (.nl (.g 4 6)) (.l (i_add 6 (Z 1)) (.tl 95 [.r 0 6, 26, .r 7 19])) (.t (tL 1) (.g 4 6) (.i (.em 26) .no (cn 155 [9, 6] (cn 99 [27, .e (Ac [22, 23, 24] e0), .e (Z 14), .r 7 14] (.o 156 [0, 6, 26, .r 1 6, 0, .e (Z 0), .r 28 14, .r 21 5] (.l (i_add 50 (Z 1)) (.tl 95 [42, .r 45 5, 72, .r 53 19]))))))))) (.ret false [.r 0 26])
set_option maxRecDepth 100000 in
theorem q95 : Eqn C sg 95 p95 := by
  intro n ds
  kernel_rfl
def p96 : T := .i (i_lss 6 5) (.g (.q (i_leq (Z 0) 6) (i_lss 6 (.l 4))) (.i (.nl (.g 4 6)) (.l (i_add 6 (Z 1)) (.tl 96 [.r 0 6, 26, .r 7 19])) (.t (tL 1) (.g 4 6) (.i (.em 26) .no (cn 105 [.e (Ac [18, 19, 20, 21, 22] e0)] (.i (.n 27) (.g (.q (i_leq (Z 0) 6) (i_lss 6 (.l 23))) (.l (.st 1 23 6 (Z 2)) (.l (i_add 6 (Z 1)) (.tl 96 [.r 0 6, 29, .r 7 16, 28, .r 24 2])))) (.g (.q (i_leq (Z 0) 6) (i_lss 6 (.l 0))) (.i (.nl (.g 0 6)) (.g (.q (i_leq (Z 0) 6) (i_lss 6 (.l 23))) (.l (.st 1 23 6 (Z 3)) (.l (i_add 6 (Z 1)) (.tl 96 [.r 0 6, 29, .r 7 16, 28, .r 24 2])))) (.t (tL 1) (.g 0 6) (.i (.em 28) .no (.g (.q (i_leq (Z 0) 6) (i_lss 6 (.l 23))) (.l (.st 1 23 6 (Z 4)) (.l (i_add 6 (Z 1)) (.tl 96 [.r 0 6, 30, .r 7 16, 29, .r 24 2])))))))))))))) (.ret false [.r 0 26])
set_option maxRecDepth 100000 in
theorem q96 : Eqn C sg 96 p96 := by
  intro n ds
  kernel_rfl
end Go.Proofs.YtpmjplpnpnmlcaaGreatDoor
