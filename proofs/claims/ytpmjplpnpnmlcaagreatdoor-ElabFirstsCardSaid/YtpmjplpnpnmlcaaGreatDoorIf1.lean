import Derived.Test.YtpmjplpnpnmlcaaGreatDoorIf0
import Derived.KernelRfl
set_option linter.all false
namespace Go.Proofs.YtpmjplpnpnmlcaaGreatDoor
open Go.AE
def p0 : T := cn 1 [] (.i (.n 2) (rt [.e ff]) (.l (.mn .i64 0 (Z 20)) (.l (.mx .i64 (Z 0) 3) (cn 2 [4] (.i (.ez (.l 5)) .no (.l (i_rem 1 (.l 5)) (.l (i_add 6 (.l 5)) (.i (.ez (.l 5)) .no (.l (i_rem 7 (.l 5)) (.g (.q (i_leq (Z 0) 8) (i_lss 8 (.l 5))) (.t ty_siii (.g 5 8) (cn 3 [.e (.a 9 0)] (.i (i_eql 12 (.a 9 3)) (.i (.w .eql 11 (Ac [Z 1, .a 9 1, .a 9 2] e0)) (.i (i_eql (.l (.a 10 0)) (Z 0)) (rt [.e (i_eql (.l (.a 10 4)) (Z 0))]) (rt [.e ff])) (rt [.e ff])) (rt [.e ff]))))))))))))))
set_option maxRecDepth 100000 in
theorem q0 : Eqn C sg 0 p0 := by
  intro n ds
  kernel_rfl
def p1 : T := cn 3 [.e (.k (.str [109, 111, 100, 117, 108, 101, 32, 116, 111, 112, 32, 40, 32, 105, 110, 112, 117, 116, 32, 97, 32, 44, 32, 111, 117, 116, 112, 117, 116, 32, 121, 32, 41, 32, 59, 32, 97, 115, 115, 105, 103, 110, 32, 121, 32, 61, 32, 126, 32, 97, 32, 59, 32, 101, 110, 100, 109, 111, 100, 117, 108, 101]))] (.i (i_eql 2 (Z 0)) (.i (i_eql (.l (.a 0 0)) (Z 2)) (.g (.q tt (i_lss (Z 1) (.l (.a 0 0)))) (.g (.ag (.g (.a 0 0) (Z 1))) (.t tS (.a (.g (.a 0 0) (Z 1)) 0) (.i (sE_ 3 (.k (.str [121]))) (.i (i_eql (.l (.a 0 2)) (Z 1)) (.i (i_eql (.l (.a 0 3)) (Z 1)) (rt [.e (i_eql (.l (.a 0 4)) (Z 1))]) (rt [.e ff])) (rt [.e ff])) (rt [.e ff]))))) (rt [.e ff])) (rt [.e ff]))
set_option maxRecDepth 100000 in
theorem q1 : Eqn C sg 1 p1 := by
  intro n ds
  kernel_rfl
def p2 : T := .o 4 [0, .e (.k (.str [])), .e (Z 0)] (.g (.rs 2 (.k (.str [109, 111, 100, 117, 108, 101, 32, 115, 117, 98, 32, 40, 32, 105, 110, 112, 117, 116, 32, 99, 108, 107, 32, 44, 32, 105, 110, 112, 117, 116, 32, 91, 32, 51, 32, 58, 32, 48, 32, 93, 32, 97, 32, 44, 32, 111, 117, 116, 112, 117, 116, 32, 91, 32, 51, 32, 58, 32, 48, 32, 93, 32, 121, 32, 41, 32, 59, 32, 97, 115, 115, 105, 103, 110, 32, 121, 32, 61, 32, 97, 32, 59, 32, 101, 110, 100, 109, 111, 100, 117, 108, 101, 10]))) (.l (.s .add 2 (.k (.str [109, 111, 100, 117, 108, 101, 32, 115, 117, 98, 32, 40, 32, 105, 110, 112, 117, 116, 32, 99, 108, 107, 32, 44, 32, 105, 110, 112, 117, 116, 32, 91, 32, 51, 32, 58, 32, 48, 32, 93, 32, 97, 32, 44, 32, 111, 117, 116, 112, 117, 116, 32, 91, 32, 51, 32, 58, 32, 48, 32, 93, 32, 121, 32, 41, 32, 59, 32, 97, 115, 115, 105, 103, 110, 32, 121, 32, 61, 32, 97, 32, 59, 32, 101, 110, 100, 109, 111, 100, 117, 108, 101, 10]))) (.o 5 [1, 4, .e (.k (.str [109, 111, 100, 117, 108, 101, 32, 116, 111, 112, 32, 40, 32, 105, 110, 112, 117, 116, 32, 99, 108, 107, 32, 44, 32, 105, 110, 112, 117, 116, 32, 91, 32, 51, 32, 58, 32, 48, 32, 93, 32, 97, 32, 44, 32, 111, 117, 116, 112, 117, 116, 32, 91, 32, 51, 32, 58, 32, 48, 32, 93, 32, 121, 32, 44, 32, 111, 117, 116, 112, 117, 116, 32, 114, 101, 103, 32, 91, 32, 51, 32, 58, 32, 48, 32, 93, 32, 114, 32, 41, 32, 59, 10])), .e (.k (.str [10, 97, 115, 115, 105, 103, 110, 32, 121, 32, 61, 32, 97, 32, 59, 32, 97, 108, 119, 97, 121, 115, 32, 64, 32, 40, 32, 112, 111, 115, 101, 100, 103, 101, 32, 99, 108, 107, 32, 41, 32, 114, 32, 60, 61, 32, 97, 32, 59, 32, 101, 110, 100, 109, 111, 100, 117, 108, 101, 10])), .e (Z 0), .e (.k (.lst 4 [.agg [.str [119, 105, 114, 101, 32, 97, 32, 59], .int .i64 3, .int .i64 1, .int .i64 10], .agg [.str [119, 105, 114, 101, 32, 91, 32, 51, 32, 58, 32, 49, 32, 93, 32, 119, 32, 59], .int .i64 3, .int .i64 1, .int .i64 3], .agg [.str [119, 105, 114, 101, 32, 91, 32, 49, 50, 56, 32, 58, 32, 48, 32, 93, 32, 119, 32, 59], .int .i64 3, .int .i64 1, .int .i64 3], .agg [.str [114, 101, 103, 32, 91, 32, 49, 32, 58, 32, 48, 32, 93, 32, 109, 32, 91, 32, 48, 32, 58, 32, 54, 52, 32, 93, 32, 59], .int .i64 3, .int .i64 1, .int .i64 3], .agg [.str [97, 115, 115, 105, 103, 110, 32, 113, 32, 61, 32, 97, 32, 59], .int .i64 3, .int .i64 8, .int .i64 9], .agg [.str [97, 115, 115, 105, 103, 110, 32, 114, 32, 61, 32, 97, 32, 59], .int .i64 3, .int .i64 8, .int .i64 11], .agg [.str [97, 108, 119, 97, 121, 115, 32, 64, 32, 42, 32, 121, 32, 61, 32, 97, 32, 59], .int .i64 3, .int .i64 12, .int .i64 11], .agg [.str [97, 115, 115, 105, 103, 110, 32, 97, 32, 61, 32, 49, 32, 59], .int .i64 3, .int .i64 8, .int .i64 14], .agg [.str [97, 115, 115, 105, 103, 110, 32, 121, 32, 91, 32, 52, 32, 93, 32, 61, 32, 49, 32, 59], .int .i64 3, .int .i64 8, .int .i64 3], .agg [.str [119, 105, 114, 101, 32, 119, 32, 59, 32, 97, 115, 115, 105, 103, 110, 32, 119, 32, 61, 32, 98, 32, 59], .int .i64 3, .int .i64 21, .int .i64 9], .agg [.str [97, 108, 119, 97, 121, 115, 32, 64, 32, 40, 32, 112, 111, 115, 101, 100, 103, 101, 32, 97, 32, 41, 32, 114, 32, 60, 61, 32, 49, 32, 59], .int .i64 3, .int .i64 1, .int .i64 11], .agg [.str [110, 111, 32, 117, 32, 40, 32, 41, 32, 59], .int .i64 3, .int .i64 1, .int .i64 9], .agg [.str [115, 117, 98, 32, 117, 32, 40, 32, 46, 32, 99, 108, 107, 32, 40, 32, 99, 108, 107, 32, 41, 32, 44, 32, 46, 32, 121, 32, 40, 32, 41, 32, 41, 32, 59], .int .i64 3, .int .i64 1, .int .i64 13], .agg [.str [115, 117, 98, 32, 117, 32, 40, 32, 46, 32, 99, 108, 107, 32, 40, 32, 97, 32, 41, 32, 44, 32, 46, 32, 97, 32, 40, 32, 97, 32, 41, 32, 41, 32, 59], .int .i64 3, .int .i64 9, .int .i64 13], .agg [.str [115, 117, 98, 32, 117, 32, 40, 32, 46, 32, 99, 108, 107, 32, 40, 32, 99, 108, 107, 32, 41, 32, 44, 32, 46, 32, 97, 32, 40, 32, 97, 32, 41, 32, 44, 32, 46, 32, 98, 32, 40, 32, 97, 32, 41, 32, 41, 32, 59], .int .i64 3, .int .i64 37, .int .i64 13], .agg [.str [115, 117, 98, 32, 35, 40, 32, 46, 32, 75, 32, 40, 32, 49, 32, 41, 32, 41, 32, 117, 32, 40, 32, 46, 32, 99, 108, 107, 32, 40, 32, 99, 108, 107, 32, 41, 32, 44, 32, 46, 32, 97, 32, 40, 32, 97, 32, 41, 32, 41, 32, 59], .int .i64 3, .int .i64 8, .int .i64 13], .agg [.str [115, 117, 98, 32, 117, 32, 40, 32, 46, 32, 99, 108, 107, 32, 40, 32, 99, 108, 107, 32, 41, 32, 44, 32, 46, 32, 97, 32, 40, 32, 97, 32, 41, 32, 44, 32, 46, 32, 121, 32, 40, 32, 114, 32, 41, 32, 41, 32, 59], .int .i64 3, .int .i64 43, .int .i64 11], .agg [.str [119, 105, 114, 101, 32, 119, 32, 59], .int .i64 3, .int .i64 1, .int .i64 14], .agg [.str [119, 105, 114, 101, 32, 119, 32, 59, 32, 97, 115, 115, 105, 103, 110, 32, 119, 32, 61, 32, 119, 32, 59], .int .i64 3, .int .i64 10, .int .i64 15], .agg [.str [114, 101, 103, 32, 113, 32, 59, 32, 97, 108, 119, 97, 121, 115, 32, 64, 32, 42, 32, 105, 102, 32, 40, 32, 97, 32, 41, 32, 113, 32, 61, 32, 49, 32, 59], .int .i64 3, .int .i64 9, .int .i64 16], .agg [.str [114, 101, 103, 32, 113, 32, 59, 32, 97, 108, 119, 97, 121, 115, 32, 64, 32, 42, 32, 113, 32, 60, 61, 32, 49, 32, 59], .int .i64 3, .int .i64 9, .int .i64 11], .agg [.str [114, 101, 103, 32, 113, 32, 59, 32, 119, 105, 114, 101, 32, 119, 32, 59, 32, 97, 108, 119, 97, 121, 115, 32, 64, 32, 40, 32, 112, 111, 115, 101, 100, 103, 101, 32, 99, 108, 107, 32, 41, 32, 113, 32, 61, 32, 49, 32, 59, 32, 97, 115, 115, 105, 103, 110, 32, 119, 32, 61, 32, 113, 32, 59], .int .i64 3, .int .i64 51, .int .i64 17], .agg [.str [114, 101, 103, 32, 113, 32, 59, 32, 97, 108, 119, 97, 121, 115, 32, 64, 32, 40, 32, 112, 111, 115, 101, 100, 103, 101, 32, 99, 108, 107, 32, 41, 32, 98, 101, 103, 105, 110, 32, 113, 32, 61, 32, 49, 32, 59, 32, 113, 32, 60, 61, 32, 49, 32, 59, 32, 101, 110, 100], .int .i64 3, .int .i64 9, .int .i64 17], .agg [.str [114, 101, 103, 32, 113, 32, 59, 32, 97, 108, 119, 97, 121, 115, 32, 64, 32, 40, 32, 112, 111, 115, 101, 100, 103, 101, 32, 99, 108, 107, 32, 41, 32, 102, 111, 114, 32, 40, 32, 106, 32, 61, 32, 48, 32, 59, 32, 106, 32, 60, 32, 50, 32, 59, 32, 106, 32, 61, 32, 106, 32, 43, 32, 49, 32, 41, 32, 113, 32, 60, 61, 32, 49, 32, 59], .int .i64 3, .int .i64 34, .int .i64 9], .agg [.str [105, 110, 116, 101, 103, 101, 114, 32, 106, 32, 59, 32, 114, 101, 103, 32, 113, 32, 59, 32, 97, 108, 119, 97, 121, 115, 32, 64, 32, 40, 32, 112, 111, 115, 101, 100, 103, 101, 32, 99, 108, 107, 32, 41, 32, 102, 111, 114, 32, 40, 32, 106, 32, 61, 32, 48, 32, 59, 32, 106, 32, 60, 32, 54, 53, 32, 59, 32, 106, 32, 61, 32, 106, 32, 43, 32, 49, 32, 41, 32, 113, 32, 60, 61, 32, 49, 32, 59], .int .i64 3, .int .i64 46, .int .i64 19], .agg [.str [119, 105, 114, 101, 32, 119, 32, 59, 32, 97, 115, 115, 105, 103, 110, 32, 119, 32, 61, 32, 99, 108, 107, 32, 59], .int .i64 3, .int .i64 21, .int .i64 9], .agg [.str [102, 117, 110, 99, 116, 105, 111, 110, 32, 102, 32, 59, 32, 105, 110, 112, 117, 116, 32, 112, 32, 59, 32, 102, 32, 60, 61, 32, 112, 32, 59, 32, 101, 110, 100, 102, 117, 110, 99, 116, 105, 111, 110], .int .i64 3, .int .i64 24, .int .i64 11], .agg [.str [102, 117, 110, 99, 116, 105, 111, 110, 32, 102, 32, 59, 32, 105, 110, 112, 117, 116, 32, 112, 32, 59, 32, 102, 32, 61, 32, 97, 32, 59, 32, 101, 110, 100, 102, 117, 110, 99, 116, 105, 111, 110], .int .i64 3, .int .i64 28, .int .i64 9], .agg [.str [114, 101, 103, 32, 91, 32, 49, 32, 58, 32, 48, 32, 93, 32, 109, 32, 91, 32, 48, 32, 58, 32, 51, 32, 93, 32, 59, 32, 119, 105, 114, 101, 32, 119, 32, 59, 32, 97, 115, 115, 105, 103, 110, 32, 119, 32, 61, 32, 109, 32, 59], .int .i64 3, .int .i64 49, .int .i64 11], .agg [.str [108, 111, 99, 97, 108, 112, 97, 114, 97, 109, 32, 80, 32, 61, 32, 97, 32, 59], .int .i64 3, .int .i64 16, .int .i64 9], .agg [.str [114, 101, 103, 32, 113, 32, 59, 32, 97, 108, 119, 97, 121, 115, 32, 64, 32, 40, 32, 112, 111, 115, 101, 100, 103, 101, 32, 99, 108, 107, 32, 41, 32, 99, 97, 115, 101, 32, 40, 32, 97, 32, 41, 32, 100, 101, 102, 97, 117, 108, 116, 32, 58, 32, 113, 32, 60, 61, 32, 49, 32, 59, 32, 100, 101, 102, 97, 117, 108, 116, 32, 58, 32, 113, 32, 60, 61, 32, 48, 32, 59, 32, 101, 110, 100, 99, 97, 115, 101], .int .i64 3, .int .i64 34, .int .i64 10], .agg [.str [119, 105, 114, 101, 32, 91, 32, 55, 32, 58, 32, 48, 32, 93, 32, 119, 32, 59, 32, 97, 115, 115, 105, 103, 110, 32, 119, 32, 61, 32, 123, 32, 51, 51, 32, 123, 32, 97, 32, 125, 32, 125, 32, 59], .int .i64 3, .int .i64 31, .int .i64 2]])), .e (.k (.lst 4 []))] (rt [11]))))
set_option maxRecDepth 100000 in
theorem q2 : Eqn C sg 2 p2 := by
  intro n ds
  kernel_rfl
def p3 : T := cn 6 [0] (.i (i_neq 4 (Z 0)) (rt [.e (.k (.agg [.lst 4 [], .lst 3 [], .lst 1 [], .lst 1 [], .lst 5 [], .lst 1 [], .lst 3 []])), .r 3 2]) (cn 7 [1, .e (.k (.str [116, 111, 112]))] (rt [.r 5 3])))
set_option maxRecDepth 100000 in
theorem q3 : Eqn C sg 3 p3 := by
  intro n ds
  kernel_rfl
def p4 : T := .i (i_lss 2 0) (.g (.rs 1 (.k (.str [10]))) (.l (.s .add 1 (.k (.str [10]))) (.l (i_add 2 (Z 1)) (.tl 4 [0, .r 3 2])))) (.ret false [.r 0 3])
set_option maxRecDepth 100000 in
theorem q4 : Eqn C sg 4 p4 := by
  intro n ds
  kernel_rfl
def p5 : T := .i (i_lss 4 (.l 5)) (.g (.rs 1 2) (.l (.s .add 1 2) (.g (.q (i_leq (Z 0) 4) (i_lss 4 (.l 5))) (.g (.ag (.g 5 4)) (.t tS (.a (.g 5 4) 0) (.g (.rs 7 8) (.l (.s .add 7 8) (.g (.rs 9 3) (.l (.s .add 9 3) (.g (.q (i_leq (Z 0) 4) (i_lss 4 (.l 5))) (.g (.ag (.g 5 4)) (.t tI (.a (.g 5 4) 1) (.l (i_add 0 11) (.g (.q (i_leq (Z 0) 4) (i_lss 4 (.l 5))) (.g (.ag (.g 5 4)) (.t tI (.a (.g 5 4) 2) (.g (.q (i_leq (Z 0) 4) (i_lss 4 (.l 5))) (.g (.ag (.g 5 4)) (.t tI (.a (.g 5 4) 3) (.g (.rm 6 (.k (dm 1))) (.l (.ap 4 6 (Ls 4 [Ac [10, 12, 13, 14] e0])) (.l (i_add 4 (Z 1)) (.tl 5 [.r 0 4, 16, 5, 15]))))))))))))))))))))))) (.ret false [.r 0 7])
set_option maxRecDepth 100000 in
theorem q5 : Eqn C sg 5 p5 := by
  intro n ds
  kernel_rfl
def p6 : T := cp 8 [.e (Ls 5 [Ac [0, Z 1, Z 1, Z 1, ff] e0])] (.i (i_neq 2 (Z 0)) (rt [.e (.k (.lst 7 [])), .e (.k (.lst 5 [])), .r 1 2]) (cn 9 [3] (rt [6, .r 3 3])))
set_option maxRecDepth 100000 in
theorem q6 : Eqn C sg 6 p6 := by
  intro n ds
  kernel_rfl
def p7 : T := cn 10 [1, 0, .e (Z 0), .e (Z 0), .e (Z 0), .e (Z 0), .e (Z 0), .e (Z 0), .e (.k (.lst 1 [])), .e (.k (.lst 1 [])), .e (.k (.lst 4 [])), .e (.k (.lst 3 [])), .e (.k (.lst 5 [])), .e (.k (.lst 1 [])), .e (.k (.lst 3 [])), .e (.k (.lst 1 []))] (.i (.n 3) (rt [.e (.k (.agg [.lst 4 [], .lst 3 [], .lst 1 [], .lst 1 [], .lst 5 [], .lst 1 [], .lst 3 []])), .e (.k (.agg [.int .i64 0, .int .i64 0, .int .i64 0])), .e (Z 9)]) (cn 11 [2, .e (.k (.agg [.lst 2 []])), .e (.k (.lst 19 [])), .e (.k (.lst 2 [])), .e (.k (.str [])), .e ff, .r 4 9, .e (.k (.lst 1 [])), .e (.k (.lst 1 [])), .e (.k (.lst 1 [])), .r 13 6] (.o 12 [.e (.a 2 5), .e (.l (.a 2 5)), .e (Z 0), .e (Z 0), .e (Z 0), .e (Z 0), .r 23 7, .e (.a 2 0), .e (.a 2 1), .e (.a 2 2), .e (.a 2 3), .e (.a 2 4), .e (.a 2 5), .e (.a 2 6), .r 19 4, .e (.k (.lst 4 [])), .e (.k (.lst 3 [])), .e (.k (.lst 1 [])), .e (.k (.lst 1 [])), .e (.k (.lst 5 [])), .e (.k (.lst 1 [])), .e (.k (.lst 3 [])), .r 35 2, .r 30 2, .r 37 4, .r 32 3] (cn 13 [.r 60 3, 82, .r 63 2, .r 47 7, .r 74 2, .r 80 2, .r 72 2, .r 76 4] (.i (i_neq 94 (Z 0)) (rt [.e (.k (.agg [.lst 4 [], .lst 3 [], .lst 1 [], .lst 1 [], .lst 5 [], .lst 1 [], .lst 3 []])), .e (Ac [91, 92, 93] e0), 94]) (cn 14 [.e (Ac [99, 100, 95, 96, 101, 102, 103] e0)] (.i (i_neq 107 (Z 0)) (rt [.e (.k (.agg [.lst 4 [], .lst 3 [], .lst 1 [], .lst 1 [], .lst 5 [], .lst 1 [], .lst 3 []])), .r 106 2]) (rt [.e (Ac [99, 100, 95, 96, 101, 102, 103] e0), .e (.k (.agg [.int .i64 0, .int .i64 0, .int .i64 0])), .e (Z 0)]))))))))
set_option maxRecDepth 100000 in
theorem q7 : Eqn C sg 7 p7 := by
  intro n ds
  kernel_rfl
def p8 : T := .o 15 [0, .e (.l 0), .e (Z 0), .e (Z 0), .e (Z 0), .e (Z 0), .e (.k (.lst 5 []))] (rt [.e (.k (.agg [.int .i64 0, .int .i64 0, .int .i64 0])), .e (Z 0), 7])
set_option maxRecDepth 100000 in
theorem q8 : Eqn C sg 8 p8 := by
  intro n ds
  kernel_rfl
def p9 : T := .o 16 [.e (Z 0), .e (Z 0), .e (Z 0), 0, .e (Z 0), .e (Z 0), .e (Z 0), .e (Z 0), .e (Z 0), .e (Z 0), .e (Z 0), .e (.k (.lst 7 []))] (.i (i_neq 11 (Z 0)) (rt [.e (Ac [8, 9, 10] e0), 11, .e (.k (.lst 7 []))]) (rt [.e (.k (.agg [.int .i64 0, .int .i64 0, .int .i64 0])), .e (Z 0), 12]))
set_option maxRecDepth 100000 in
theorem q9 : Eqn C sg 9 p9 := by
  intro n ds
  kernel_rfl
def p10 : T := cn 17 [1, 0] (.i (i_lss 16 (Z 0)) (rt [.e (.k (.agg [.str [], .int .i64 0, .int .i64 0, .int .i64 0, .lst 14 [], .lst 14 [], .lst 14 []])), .e ff, .r 1 15]) (.g (.q (i_leq (Z 0) 16) (i_lss 16 (.l 1))) (.t ty_siiil14l14l14 (.g 1 16) (rt [18, .e tt, .r 1 15]))))
set_option maxRecDepth 100000 in
theorem q10 : Eqn C sg 10 p10 := by
  intro n ds
  kernel_rfl
def p11 : T := .o 18 [.e (.a 0 4), .e (.l (.a 0 4)), .e (Z 0), .r 2 13, .e (.a 1 0), .r 15 9] (rt [.r 27 13, .r 41 9])
set_option maxRecDepth 100000 in
theorem q11 : Eqn C sg 11 p11 := by
  intro n ds
  kernel_rfl
def p12 : T := .i (i_lss 2 1) (.g (.q (i_leq (Z 0) 2) (i_lss 2 (.l 0))) (.t ty_iiiissbl6l6l8l14l14l5l5 (.g 0 2) (.i (i_neq 12 (Z 0)) (.l (i_add 2 (Z 1)) (.tl 12 [.r 0 2, 43, .r 3 39])) (cn 19 [42] (.i 43 (cn 20 [.e (.a 42 4), .e (Ac [.a 42 1, .a 42 2, .a 42 3] e0), .r 20 4, .r 6 7, .r 33 2, .r 39 3, .r 31 2, .r 35 4] (.l (i_add 2 (Z 1)) (.tl 12 [.r 0 2, 66, .r 3 3, .r 48 7, .r 13 7, .r 44 3, .e tt, .r 24 7, .r 60 2, .r 55 2, .r 62 4, .r 57 3]))) (.i (sE_ (.a 42 5) (.k (.str [105, 110, 112, 117, 116]))) (cn 21 [42, .r 20 4, .r 6 7, .r 33 2, .r 39 3, .r 31 2, .r 35 4] (.g (.rm 56 (.k (dm 1))) (.l (.ap 1 56 (Ls 1 [44])) (.l (i_add 2 (Z 1)) (.tl 12 [.r 0 2, 68, .r 3 3, .r 49 7, .r 13 7, .r 45 4, .r 24 7, .r 61 2, 67, 57, .r 63 4, .r 58 3]))))) (cn 21 [42, .r 20 4, .r 6 7, .r 33 2, .r 39 3, .r 31 2, .r 35 4] (.g (.rm 57 (.k (dm 1))) (.l (.ap 1 57 (Ls 1 [44])) (.l (i_add 2 (Z 1)) (.tl 12 [.r 0 2, 68, .r 3 3, .r 49 7, .r 13 7, .r 45 4, .r 24 7, .r 61 2, 56, 67, .r 63 4, .r 58 3]))))))))))) (.ret false [.r 0 42])
set_option maxRecDepth 100000 in
theorem q12 : Eqn C sg 12 p12 := by
  intro n ds
  kernel_rfl
def p13 : T := .o 22 [0, .e (.l 0), .e (Z 0), .r 1 22] (rt [.r 26 22])
set_option maxRecDepth 100000 in
theorem q13 : Eqn C sg 13 p13 := by
  intro n ds
  kernel_rfl
def p14 : T := .o 23 [.e (.a 0 4), .e (.l (.a 0 4)), .e (Z 0), .e (.a 0 0), .e (.a 0 1), .e (.a 0 2), .e (.a 0 3), .e (.a 0 4), .e (.a 0 5), .e (.a 0 6), .e (Z 0), .e (Z 0), .e (Z 0), .e (.a 0 0), .e (.a 0 1), .e (.a 0 2), .e (.a 0 3), .e (.a 0 4), .e (.a 0 5), .e (.a 0 6), .e (Z 0), .e (Z 0), .e (Z 0), .e (Z 0), .e (.k (.lst 1 [])), .e (.k (.lst 1 [])), .e (.k (.lst 1 [])), .e (.k (.lst 1 [])), .e (.k (.lst 1 []))] (cn 24 [.r 14 11, .r 27 3] (cn 25 [.r 30 14] (cn 26 [.r 44 14] (cn 27 [.r 58 14] (cn 28 [.r 72 14] (cn 29 [.r 86 14] (.i (i_neq 110 (Z 0)) (rt [.e (.k (.agg [.lst 1 [], .lst 1 []])), .e (Ac [107, 108, 109] e0), 110]) (cn 30 [.r 100 14] (cn 31 [.r 114 14] (.i (i_neq 139 (Z 0)) (rt [.e (.k (.agg [.lst 1 [], .lst 1 []])), .e (Ac [136, 137, 138] e0), 139]) (rt [.e (Ac [140, 128] e0), .e (.k (.agg [.int .i64 0, .int .i64 0, .int .i64 0])), .e (Z 0)])))))))))))
set_option maxRecDepth 100000 in
theorem q14 : Eqn C sg 14 p14 := by
  intro n ds
  kernel_rfl
def p15 : T := .i (i_lss 2 1) (.g (.q (i_leq (Z 0) 2) (i_lss 2 (.l 0))) (.t ty_siiib (.g 0 2) (cn 32 [7, 6] (.i (i_neq 9 (Z 0)) (rt [.r 8 2, .e (.k (.lst 5 []))]) (.l (i_add 2 (Z 1)) (.tl 15 [.r 0 2, 11, .r 3 3, 10])))))) (.ret false [.r 0 7])
set_option maxRecDepth 100000 in
theorem q15 : Eqn C sg 15 p15 := by
  intro n ds
  kernel_rfl
def p16 : T := .j (.i 12 (.i (i_eql (.l 11) (Z 40)) (cn 33 [.r 3 8] (cn 34 [.e (Ac [.a 13 2, .a 13 3, .a 13 4] e0), .e (Z 19), .r 14 8] (cn 35 [.r 22 8] (cn 36 [11, .e (.a 30 0), .e (.a 30 1), .e (.a 30 2), .e (.a 30 3), .e (.a 30 4), .e (.a 30 5), .e (.a 30 6)] (.i 39 (cn 34 [.e (Ac [42, 43, 44] e0), .e (Z 10), .r 31 8] (.g (.rm 40 (.k (dm 1))) (.l (.ap 7 40 (Ls 7 [Ac [41, 42, 43, 44, 45, 46, 47] e0])) (.tl 16 [.r 0 3, .r 48 9])))) (.g (.rm 40 (.k (dm 1))) (.l (.ap 7 40 (Ls 7 [Ac [41, 42, 43, 44, 45, 46, 47] e0])) (.tl 16 [.r 0 3, .r 31 8, 48])))))))) (cn 35 [.r 3 8] (cn 36 [11, .e (.a 13 0), .e (.a 13 1), .e (.a 13 2), .e (.a 13 3), .e (.a 13 4), .e (.a 13 5), .e (.a 13 6)] (.i 22 (cn 34 [.e (Ac [25, 26, 27] e0), .e (Z 10), .r 14 8] (.g (.rm 23 (.k (dm 1))) (.l (.ap 7 23 (Ls 7 [Ac [24, 25, 26, 27, 28, 29, 30] e0])) (.tl 16 [.r 0 3, .r 31 9])))) (.g (.rm 23 (.k (dm 1))) (.l (.ap 7 23 (Ls 7 [Ac [24, 25, 26, 27, 28, 29, 30] e0])) (.tl 16 [.r 0 3, .r 14 8, 31]))))))) (.ret false [.r 0 12])) (.i (i_eql 10 (Z 0)) (.jp 0 [.e (i_lss 4 (.l 3))]) (.jp 0 [.e ff]))
set_option maxRecDepth 100000 in
theorem q16 : Eqn C sg 16 p16 := by
  intro n ds
  kernel_rfl
def p17 : T := .o 37 [0, .e (.l 0), .e (Z 0), 1] (rt [.e (Z (-1)), 5])
set_option maxRecDepth 100000 in
theorem q17 : Eqn C sg 17 p17 := by
  intro n ds
  kernel_rfl
def p18 : T := .i (i_lss 2 1) (.g (.q (i_leq (Z 0) 2) (i_lss 2 (.l 0))) (.t ty_iiiissbl6l6l8l14l14l5l5 (.g 0 2) (cn 38 [.e (Ac [16] e0), .e (.a 26 4)] (.i (.n 28) (.g (.q tt (i_lss (Z 0) (.l (.a 26 7)))) (.t ty_iiiisl6 (.g (.a 26 7) (Z 0)) (cn 39 [29, .r 3 11, .r 17 3, .r 14 2, .r 20 6] (cn 20 [.e (.a 26 4), .e (Ac [.a 26 1, .a 26 2, .a 26 3] e0), .r 31 11, .r 45 2, .r 42 3, .r 47 6] (cn 40 [.e (Ac [53, 54] e0), .e (.a 26 4), 30] (.l (i_add 2 (Z 1)) (.tl 18 [.r 0 2, 76, .e (.a 75 0), .e (.a 75 1), .r 55 11, 16, .r 66 9]))))))) (cn 20 [.e (.a 26 4), .e (Ac [.a 26 1, .a 26 2, .a 26 3] e0), .r 3 13, .r 17 9] (cn 40 [.e (Ac [29, 30] e0), .e (.a 26 4), 27] (.l (i_add 2 (Z 1)) (.tl 18 [.r 0 2, 52, .e (.a 51 0), .e (.a 51 1), .r 31 11, 16, .r 42 9])))))))) (.ret false [.r 0 26])
set_option maxRecDepth 100000 in
theorem q18 : Eqn C sg 18 p18 := by
  intro n ds
  kernel_rfl
def p19 : T := .i (sE_ (.a 0 4) (.k (.str [99, 108, 107]))) (.i (sE_ (.a 0 5) (.k (.str [105, 110, 112, 117, 116]))) (rt [.e (i_eql (.l (.a 0 7)) (Z 0))]) (rt [.e ff])) (rt [.e ff])
set_option maxRecDepth 100000 in
theorem q19 : Eqn C sg 19 p19 := by
  intro n ds
  kernel_rfl
def p20 : T := cp 41 [16, 0] (.i 24 (cn 42 [1, .e (Z 10), .r 6 9, .r 18 6] (.g (.rm 16 (.k (dm 1))) (.l (.ap 1 16 (Ls 1 [0])) (cp 43 [17] (cn 44 [0, 41] (rt [.r 2 4, .r 25 9, 15, 40, 43, .r 34 6])))))) (.g (.rm 16 (.k (dm 1))) (.l (.ap 1 16 (Ls 1 [0])) (cp 43 [17] (cn 44 [0, 26] (rt [.r 2 14, 25, 28, .r 18 6]))))))
set_option maxRecDepth 100000 in
theorem q20 : Eqn C sg 20 p20 := by
  intro n ds
  kernel_rfl
def p21 : T := cn 20 [.e (.a 0 4), .e (Ac [.a 0 1, .a 0 2, .a 0 3] e0), .r 1 22] (cn 45 [0, .r 23 11, .r 36 3, .r 34 2, .r 39 6] (rt [.r 45 12, .r 60 2, .r 57 3, .r 62 6]))
set_option maxRecDepth 100000 in
theorem q21 : Eqn C sg 21 p21 := by
  intro n ds
  kernel_rfl
def p22 : T := .i (i_lss 2 1) (.g (.q (i_leq (Z 0) 2) (i_lss 2 (.l 0))) (.t ty_iiiissbl6l6l8l14l14l5l5 (.g 0 2) (.i (i_neq 14 (Z 0)) (rt [.r 3 22]) (cn 46 [25, .r 3 22] (.l (i_add 2 (Z 1)) (.tl 22 [.r 0 2, 48, .r 26 22])))))) (.ret false [.r 0 25])
set_option maxRecDepth 100000 in
theorem q22 : Eqn C sg 22 p22 := by
  intro n ds
  kernel_rfl
def p23 : T := .i (i_lss 2 1) (.g (.q (i_leq (Z 0) 2) (i_lss 2 (.l 0))) (.t ty_iiiil20 (.g 0 2) (cn 47 [.e (Ac [3, 4, 5, 6, 7, 8, 9] e0), 29] (.g (.rm 27 (.k (dm 1))) (.l (.ap 1 27 (Ls 1 [30])) (cn 48 [.e (Ac [3, 4, 5, 6, 7, 8, 9] e0), 29, .e (.k (.lst 1 [.int .i64 1, .int .i64 2]))] (.g (.rm 28 (.k (dm 1))) (.l (.ap 1 28 (Ls 1 [32])) (.l (i_add 2 (Z 1)) (.tl 23 [.r 0 2, 34, .r 3 24, 31, 33])))))))))) (.ret false [.r 0 29])
set_option maxRecDepth 100000 in
theorem q23 : Eqn C sg 23 p23 := by
  intro n ds
  kernel_rfl
def p24 : T := .o 49 [4, .e (.l 4), .e (Z 0), .r 0 14] (rt [.r 17 14])
set_option maxRecDepth 100000 in
theorem q24 : Eqn C sg 24 p24 := by
  intro n ds
  kernel_rfl
def p25 : T := .o 50 [4, .e (.l 4), .e (Z 0), .r 0 14] (rt [.r 17 14])
set_option maxRecDepth 100000 in
theorem q25 : Eqn C sg 25 p25 := by
  intro n ds
  kernel_rfl
def p26 : T := .g (.q (.q (i_leq (Z 0) (.l 0)) (i_leq (.l 0) (.l 0))) (i_leq (.l 0) (Z 68719476736))) (.l (.rp 1 (.l 0) (Z 0)) (.o 51 [4, .e (.l 4), .e (Z 0), .r 0 11, 14, .r 12 2] (.o 52 [18, .e (.l 18), .e (Z 0), .r 18 14] (.o 53 [37, .e (.l 37), .e (Z 0), .r 35 14] (rt [.r 52 14])))))
set_option maxRecDepth 100000 in
theorem q26 : Eqn C sg 26 p26 := by
  intro n ds
  kernel_rfl
def p27 : T := .o 54 [4, .e (.l 4), .e (Z 0), .r 0 14] (rt [.r 17 14])
set_option maxRecDepth 100000 in
theorem q27 : Eqn C sg 27 p27 := by
  intro n ds
  kernel_rfl
def p28 : T := .o 55 [.e (.l 11), .e (Z 0), .r 0 14] (rt [.r 16 14])
set_option maxRecDepth 100000 in
theorem q28 : Eqn C sg 28 p28 := by
  intro n ds
  kernel_rfl
def p29 : T := .o 56 [4, .e (.l 4), .e (Z 0), .r 0 14] (rt [.r 17 14])
set_option maxRecDepth 100000 in
theorem q29 : Eqn C sg 29 p29 := by
  intro n ds
  kernel_rfl
def p30 : T := .o 57 [4, .e (.l 4), .e (Z 0), .r 0 14] (.g (.q (.q (i_leq (Z 0) (.l 21)) (i_leq (.l 21) (.l 21))) (i_leq (.l 21) (Z 68719476736))) (.l (.rp 1 (.l 21) ff) (.o 58 [.r 17 14, .e (.k (.lst 1 [])), 31] (rt [.r 32 15]))))
set_option maxRecDepth 100000 in
theorem q30 : Eqn C sg 30 p30 := by
  intro n ds
  kernel_rfl
def p31 : T := .o 59 [6, .e (.l 6), .e (Z 0), .r 0 14] (rt [.r 17 14])
set_option maxRecDepth 100000 in
theorem q31 : Eqn C sg 31 p31 := by
  intro n ds
  kernel_rfl
def p32 : T := .o 60 [.e (Z 0), 1, .e (.k (.lst 5 [])), .e (Z 0), .e (Z 0), .e (Z 0), .e (.a 0 0), .e (.a 0 1), .e (.a 0 2), .e (.a 0 3), .e (.a 0 0), .e (.a 0 1), .e (.a 0 2), .e (.a 0 3), .e (.a 0 4)] (rt [.e (Ac [5, 6, 7] e0), 2, 4])
set_option maxRecDepth 100000 in
theorem q32 : Eqn C sg 32 p32 := by
  intro n ds
  kernel_rfl
def p33 : T := .i (i_neq 7 (Z 0)) (rt [.e (.k (.agg [.int .i64 0, .str [], .int .i64 0, .int .i64 0, .int .i64 0])), .r 0 8]) (.i (i_geq 1 (.l 0)) (rt [.e (.k (.agg [.int .i64 0, .str [], .int .i64 0, .int .i64 0, .int .i64 0])), .r 0 8]) (.g (.q (i_leq (Z 0) 1) (i_lss 1 (.l 0))) (.t ty_isiii (.g 0 1) (rt [8, .r 0 8]))))
set_option maxRecDepth 100000 in
theorem q33 : Eqn C sg 33 p33 := by
  intro n ds
  kernel_rfl
def p34 : T := .i (i_eql 9 (Z 0)) (rt [.r 2 4, .e (.a 0 0), .e (.a 0 1), .e (.a 0 2), 1]) (rt [.r 2 8])
set_option maxRecDepth 100000 in
theorem q34 : Eqn C sg 34 p34 := by
  intro n ds
  kernel_rfl
def p35 : T := cn 33 [.r 0 8] (cn 61 [.e (.k (.lst 1 [.str [109, 111, 100, 117, 108, 101]])), .r 9 8] (cn 62 [.r 17 8] (cn 63 [.e (.k (.str [35])), .r 26 8] (.i 34 (cn 61 [.e (.k (.lst 1 [.str [40]])), .r 35 8] (.o 64 [.r 43 8, .e (.k (.str [])), .e (Z 0), .e (Z 0), .e (Z 0), 25, .e (.a 8 2), .e (.a 8 3), .e (.a 8 4), .e (.k (.lst 14 [])), .e (.k (.lst 14 [])), .e (.k (.lst 14 [])), .e (.k (.lst 14 [])), .e (.k (.lst 14 [])), .e (.k (.lst 14 []))] (cn 61 [.e (.k (.lst 1 [.str [41]])), .r 51 8] (cn 61 [.e (.k (.lst 1 [.str [40]])), .r 73 8] (.o 65 [.r 81 8, .r 59 14] (cn 61 [.e (.k (.lst 1 [.str [41], .str [59]])), .r 89 8] (cn 66 [.e (.k (.str [101, 110, 100, 109, 111, 100, 117, 108, 101])), .r 111 8] (rt [.e (Ac [101, 102, 103, 104, 108, 109, 127] e0), .r 119 8])))))))) (cn 61 [.e (.k (.lst 1 [.str [40]])), .r 35 8] (.o 65 [.r 43 8, .e (.k (.str [])), .e (Z 0), .e (Z 0), .e (Z 0), 25, .e (.a 8 2), .e (.a 8 3), .e (.a 8 4), .e (.k (.lst 14 [])), .e (.k (.lst 14 [])), .e (.k (.lst 14 [])), .e (.k (.lst 14 [])), .e (.k (.lst 14 [])), .e (.k (.lst 14 []))] (cn 61 [.e (.k (.lst 1 [.str [41], .str [59]])), .r 51 8] (cn 66 [.e (.k (.str [101, 110, 100, 109, 111, 100, 117, 108, 101])), .r 73 8] (rt [.e (Ac [63, 64, 65, 66, 70, 71, 89] e0), .r 81 8])))))))))
set_option maxRecDepth 100000 in
theorem q35 : Eqn C sg 35 p35 := by
  intro n ds
  kernel_rfl
def p36 : T := cn 67 [.r 0 8] (rt [.e (i_geq 8 (Z 0)), .r 9 8])
set_option maxRecDepth 100000 in
theorem q36 : Eqn C sg 36 p36 := by
  intro n ds
  kernel_rfl
def p37 : T := .i (i_lss 2 1) (.g (.q (i_leq (Z 0) 2) (i_lss 2 (.l 0))) (.t ty_siiil14l14l14 (.g 0 2) (cn 68 [4, 3] (.i 5 (rt [2, 6]) (.l (i_add 2 (Z 1)) (.tl 37 [.r 0 2, 7, 6])))))) (.ret false [.r 0 4])
set_option maxRecDepth 100000 in
theorem q37 : Eqn C sg 37 p37 := by
  intro n ds
  kernel_rfl
def p38 : T := cn 69 [.r 0 2] (.i (i_geq 2 (Z 0)) (.g (.q (i_leq (Z 0) 2) (i_lss 2 (.l (.a 0 0)))) (.g (.ag (.g (.a 0 0) 2)) (.t tI (.a (.g (.a 0 0) 2) 1) (rt [3, .e tt])))) (rt [.e (Z 0), .e ff]))
set_option maxRecDepth 100000 in
theorem q38 : Eqn C sg 38 p38 := by
  intro n ds
  kernel_rfl
def p39 : T := cn 70 [.e (Ac [1, 2] e0)] (cn 71 [0, 23] (cn 42 [.r 25 2, .r 5 7, .r 15 8] (rt [24, .r 1 4, .r 27 7, .r 12 3, .r 34 8])))
set_option maxRecDepth 100000 in
theorem q39 : Eqn C sg 39 p39 := by
  intro n ds
  kernel_rfl
def p40 : T := cn 72 [0, .e (Ac [1, Z 1, 2, .k (.str []), Z 0, ff, Z 0, .k (.lst 4 []), Z 0, ff, Z 0, Z 0, Z 0, Z 0, Z 0, ff, Z 0, .k (.lst 1 []), .k (.lst 9 [])] e0)] (cn 73 [.e (Ac [.a 0 1] e0), .r 1 2] (rt [.e (Ac [.a 3 0, 4] e0)]))
set_option maxRecDepth 100000 in
theorem q40 : Eqn C sg 40 p40 := by
  intro n ds
  kernel_rfl
def p41 : T := cn 74 [.r 0 2] (rt [.e (i_geq 2 (Z 0))])
set_option maxRecDepth 100000 in
theorem q41 : Eqn C sg 41 p41 := by
  intro n ds
  kernel_rfl
def p42 : T := .i (i_eql 8 (Z 0)) (.i (i_neq 1 (Z 0)) (rt [.r 2 3, .e (.a 0 0), .e (.a 0 1), .e (.a 0 2), 1, .r 9 8]) (rt [.r 2 15])) (rt [.r 2 15])
set_option maxRecDepth 100000 in
theorem q42 : Eqn C sg 42 p42 := by
  intro n ds
  kernel_rfl
def p43 : T := .i (.em 0) (.ag (rt [.e (.k (.lst 1 []))]) (.g (.rm (.k (dm 0)) 0) (.l (.ap 1 (.k (.lst 1 [])) 0) (rt [1])))) (.g (.rm (.k (dm 0)) 0) (.l (.ap 1 (.k (.lst 1 [])) 0) (rt [1])))
set_option maxRecDepth 100000 in
theorem q43 : Eqn C sg 43 p43 := by
  intro n ds
  kernel_rfl
def p44 : T := cn 75 [1, 0] (.i (i_eql 2 (Z (-1))) (rt [4, 3]) (.l (i_add 2 (Z 1)) (.o 76 [2, 5, 4, 3] (.g (.q (.q (i_leq (Z 0) 6) (i_leq 6 (.l 9))) (i_leq (.l 9) (.l 9))) (.g (.nz (.na 6 (.ns (.l 9) 6)) 9) (.l (.cl 1 9 6 (.ns (.l 9) 6) (.k (.str []))) (.g (.q (i_leq (Z 0) 6) (i_leq 6 (.l 10))) (.l (.tk 1 10 6) (rt [8, 11])))))))))
set_option maxRecDepth 100000 in
theorem q44 : Eqn C sg 44 p44 := by
  intro n ds
  kernel_rfl
def p45 : T := cn 77 [.r 0 23] (.i (i_neq 34 (Z 0)) (rt [.e (Z 0), .r 24 22]) (cn 78 [0] (cn 79 [23, 46, .e (Ac [.a 0 1, .a 0 2, .a 0 3] e0), .r 24 22] (.o 80 [47, .e (.a 0 8), .e (.l (.a 0 8)), .e (Z 0), .r 48 16, .e (.a 0 0), .e (.a 0 1), .e (.a 0 2), .e (.a 0 3), .e (.a 0 4), .e (.a 0 5), .e (.a 0 6), .e (.a 0 7), .e (.a 0 8), .e (.a 0 9), .e (.a 0 10), .e (.a 0 11), .e (.a 0 12), .e (.a 0 13), .e (.a 23 0), .e (.a 23 1), .e (.a 23 2), .e (.a 23 3), .r 64 6] (cn 81 [.e (Ac [74, 75] e0), 94, 70, .e (Ac [104, 105, 106, 107] e0)] (rt [70, .e (.a 114 0), .e (.a 114 1), .r 76 14, .r 108 6]))))))
set_option maxRecDepth 100000 in
theorem q45 : Eqn C sg 45 p45 := by
  intro n ds
  kernel_rfl
end Go.Proofs.YtpmjplpnpnmlcaaGreatDoor
