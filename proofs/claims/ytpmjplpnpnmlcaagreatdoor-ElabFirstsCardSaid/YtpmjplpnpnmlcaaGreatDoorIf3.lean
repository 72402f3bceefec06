import Derived.Test.YtpmjplpnpnmlcaaGreatDoorIf0
import Derived.KernelRfl
set_option linter.all false
namespace Go.Proofs.YtpmjplpnpnmlcaaGreatDoor
open Go.AE
def p97 : T := .i (i_lss 7 6) (.g (.q (i_leq (Z 0) 7) (i_lss 7 (.l 1))) (.i (.nl (.g 1 7)) (cn 99 [.e ff, .e (Ac [23, 24, 25] e0), .e (Z 17), .r 8 14] (.g (.q (i_leq (Z 0) 7) (i_lss 7 (.l 38))) (.t tI (.g 38 7) (.i (i_eql 41 (Z 4)) (.g (.q (i_leq (Z 0) 0) (i_lss 0 (.l 39))) (.i (.nl (.g 39 0)) .no (.t (tL 1) (.g 39 0) (.g (.q (i_leq (Z 0) 7) (i_lss 7 (.l 42))) (.i (.nl (.g 42 7)) (cn 99 [.e ff, .e (Ac [23, 24, 25] e0), .e (Z 17), .r 27 14] (.l (i_add 7 (Z 1)) (.tl 97 [.r 0 7, 57, .r 43 14, .r 22 5]))) (.t (tL 1) (.g 42 7) (.i (.em 43) .no (.g (.q (i_leq (Z 0) 0) (i_lss 0 (.l 40))) (.i (.nl (.g 40 0)) .no (.t (tL 1) (.g 40 0) (.g (.q (i_leq (Z 0) 7) (i_lss 7 (.l 44))) (.i (.nl (.g 44 7)) (cn 99 [.e tt, .e (Ac [23, 24, 25] e0), .e (Z 17), .r 27 14] (.l (i_add 7 (Z 1)) (.tl 97 [.r 0 7, 59, .r 45 14, .r 22 5]))) (.t (tL 1) (.g 44 7) (.i (.em 45) .no (cn 99 [.e ff, .e (Ac [23, 24, 25] e0), .e (Z 17), .r 27 14] (.l (i_add 7 (Z 1)) (.tl 97 [.r 0 7, 60, .r 46 14, .r 22 5]))))))))))))))))) (cn 99 [.e ff, .e (Ac [23, 24, 25] e0), .e (Z 17), .r 27 14] (.l (i_add 7 (Z 1)) (.tl 97 [.r 0 7, 56, .r 42 14, .r 22 5]))))))) (.t (tL 1) (.g 1 7) (.i (.em 27) .no (.g (.q (i_leq (Z 0) 7) (i_lss 7 (.l 2))) (.i (.nl (.g 2 7)) (cn 99 [.e ff, .e (Ac [23, 24, 25] e0), .e (Z 17), .r 8 14] (.g (.q (i_leq (Z 0) 7) (i_lss 7 (.l 39))) (.t tI (.g 39 7) (.i (i_eql 42 (Z 4)) (.g (.q (i_leq (Z 0) 0) (i_lss 0 (.l 40))) (.i (.nl (.g 40 0)) .no (.t (tL 1) (.g 40 0) (.g (.q (i_leq (Z 0) 7) (i_lss 7 (.l 43))) (.i (.nl (.g 43 7)) (cn 99 [.e ff, .e (Ac [23, 24, 25] e0), .e (Z 17), .r 28 14] (.l (i_add 7 (Z 1)) (.tl 97 [.r 0 7, 58, .r 44 14, .r 22 5]))) (.t (tL 1) (.g 43 7) (.i (.em 44) .no (.g (.q (i_leq (Z 0) 0) (i_lss 0 (.l 41))) (.i (.nl (.g 41 0)) .no (.t (tL 1) (.g 41 0) (.g (.q (i_leq (Z 0) 7) (i_lss 7 (.l 45))) (.i (.nl (.g 45 7)) (cn 99 [.e tt, .e (Ac [23, 24, 25] e0), .e (Z 17), .r 28 14] (.l (i_add 7 (Z 1)) (.tl 97 [.r 0 7, 60, .r 46 14, .r 22 5]))) (.t (tL 1) (.g 45 7) (.i (.em 46) .no (cn 99 [.e ff, .e (Ac [23, 24, 25] e0), .e (Z 17), .r 28 14] (.l (i_add 7 (Z 1)) (.tl 97 [.r 0 7, 61, .r 47 14, .r 22 5]))))))))))))))))) (cn 99 [.e ff, .e (Ac [23, 24, 25] e0), .e (Z 17), .r 28 14] (.l (i_add 7 (Z 1)) (.tl 97 [.r 0 7, 57, .r 43 14, .r 22 5]))))))) (.t (tL 1) (.g 2 7) (.i (.em 28) .no (cn 99 [.e tt, .e (Ac [23, 24, 25] e0), .e (Z 17), .r 8 14] (.g (.q (i_leq (Z 0) 7) (i_lss 7 (.l 40))) (.t tI (.g 40 7) (.i (i_eql 43 (Z 4)) (.g (.q (i_leq (Z 0) 0) (i_lss 0 (.l 41))) (.i (.nl (.g 41 0)) .no (.t (tL 1) (.g 41 0) (.g (.q (i_leq (Z 0) 7) (i_lss 7 (.l 44))) (.i (.nl (.g 44 7)) (cn 99 [.e ff, .e (Ac [23, 24, 25] e0), .e (Z 17), .r 29 14] (.l (i_add 7 (Z 1)) (.tl 97 [.r 0 7, 59, .r 45 14, .r 22 5]))) (.t (tL 1) (.g 44 7) (.i (.em 45) .no (.g (.q (i_leq (Z 0) 0) (i_lss 0 (.l 42))) (.i (.nl (.g 42 0)) .no (.t (tL 1) (.g 42 0) (.g (.q (i_leq (Z 0) 7) (i_lss 7 (.l 46))) (.i (.nl (.g 46 7)) (cn 99 [.e tt, .e (Ac [23, 24, 25] e0), .e (Z 17), .r 29 14] (.l (i_add 7 (Z 1)) (.tl 97 [.r 0 7, 61, .r 47 14, .r 22 5]))) (.t (tL 1) (.g 46 7) (.i (.em 47) .no (cn 99 [.e ff, .e (Ac [23, 24, 25] e0), .e (Z 17), .r 29 14] (.l (i_add 7 (Z 1)) (.tl 97 [.r 0 7, 62, .r 48 14, .r 22 5]))))))))))))))))) (cn 99 [.e ff, .e (Ac [23, 24, 25] e0), .e (Z 17), .r 29 14] (.l (i_add 7 (Z 1)) (.tl 97 [.r 0 7, 58, .r 44 14, .r 22 5]))))))))))))))) (.ret false [.r 0 27])
set_option maxRecDepth 100000 in
theorem q97 : Eqn C sg 97 p97 := by
  intro n ds
  kernel_rfl
def p98 : T := .i (i_lss 0 (.l 2)) (.g (.q (i_leq (Z 0) 0) (i_lss 0 (.l 2))) (.t ty_iii (.g 2 0) (rt [15, .r 1 14]))) (rt [.e (.k (.agg [.int .i64 0, .int .i64 0, .int .i64 0])), .r 1 14])
set_option maxRecDepth 100000 in
theorem q98 : Eqn C sg 98 p98 := by
  intro n ds
  kernel_rfl
def p99 : T := .i 0 (.i (i_eql 13 (Z 0)) (rt [.r 3 7, .e (.a 1 0), .e (.a 1 1), .e (.a 1 2), 2, .r 14 3]) (rt [.r 3 14])) (rt [.r 3 14])
set_option maxRecDepth 100000 in
theorem q99 : Eqn C sg 99 p99 := by
  intro n ds
  kernel_rfl
def p100 : T := .i (i_lss 6 5) (.g (.q (i_leq (Z 0) 6) (i_lss 6 (.l 4))) (.t ty_iiiil20 (.g 4 6) (.g (.q (i_leq (Z 0) 6) (i_lss 6 (.l 20))) (.i (.nl (.g 20 6)) .no (.t (tL 1) (.g 20 6) (.g (.q (i_leq (Z 0) 0) (i_lss 0 (.l 23))) (.i (.nl (.g 23 0)) (.l (i_add 6 (Z 1)) (.tl 100 [.r 0 6, 24, .r 7 15])) (.t (tL 1) (.g 23 0) (.i (.em 24) .no (.i 1 (.o 157 [0, .e tt, .r 2 5, 24, .e (.l 24), .e (Z 0), .r 7 15] (.l (i_add 31 (Z 1)) (.tl 100 [.r 25 6, 50, .r 35 15]))) (.o 157 [0, .e (i_neq (.a 22 0) (Z 1)), .r 2 5, 24, .e (.l 24), .e (Z 0), .r 7 15] (.l (i_add 31 (Z 1)) (.tl 100 [.r 25 6, 50, .r 35 15]))))))))))))) (.ret false [.r 0 22])
set_option maxRecDepth 100000 in
theorem q100 : Eqn C sg 100 p100 := by
  intro n ds
  kernel_rfl
def p101 : T := cn 158 [.r 0 2] (rt [.e (i_geq 2 (Z 0))])
set_option maxRecDepth 100000 in
theorem q101 : Eqn C sg 101 p101 := by
  intro n ds
  kernel_rfl
def p102 : T := .i (i_lss 5 4) (.g (.q (i_leq (Z 0) 5) (i_lss 5 (.l 3))) (.i (.nl (.g 3 5)) (.l (i_add 5 (Z 1)) (.tl 102 [.r 0 5, 26, .r 6 20])) (.t (tL 1) (.g 3 5) (.i (.em 26) .no (.g (.q (.q (i_leq (Z 0) (.l 26)) (i_leq (.l 26) (.l 26))) (i_leq (.l 26) (Z 68719476736))) (.l (.rp 1 (.l 26) ff) (.g (.q (i_leq (Z 0) 5) (i_lss 5 (.l 25))) (.g (.q (.nt 5 25) (.nl (.g 25 5))) (.g (.n (.em 27)) (.l (.st 1 25 5 27) (.l (i_add 5 (Z 1)) (.tl 102 [.r 0 5, 29, .r 6 19, 28])))))))))))) (.ret false [.r 0 26])
set_option maxRecDepth 100000 in
theorem q102 : Eqn C sg 102 p102 := by
  intro n ds
  kernel_rfl
def p103 : T := .o 159 [1, .e (.l 1), .e (Z 0), .r 2 15, .e (.a 0 0), .e (.a 0 1), .e (.a 0 2), .e (.a 0 3), .e (.a 0 4)] (rt [.r 20 15])
set_option maxRecDepth 100000 in
theorem q103 : Eqn C sg 103 p103 := by
  intro n ds
  kernel_rfl
def p104 : T := .i (i_lss 4 3) (.g (.q (i_leq (Z 0) 4) (i_lss 4 (.l 24))) (.i (.nl (.g 24 4)) (cn 101 [.e (.k (.lst 1 [])), .e ff] (cn 99 [25, .e (Ac [20, 21, 22] e0), .e (Z 16), .r 5 14] (.l (i_add 4 (Z 1)) (.tl 104 [.r 0 4, 40, .r 26 14, .r 19 6])))) (cp 101 [.e (.ls 1 (.g 24 4)), .e ff] (cn 99 [25, .e (Ac [20, 21, 22] e0), .e (Z 16), .r 5 14] (.l (i_add 4 (Z 1)) (.tl 104 [.r 0 4, 40, .r 26 14, .r 19 6])))))) (.ret false [.r 0 25])
set_option maxRecDepth 100000 in
theorem q104 : Eqn C sg 104 p104 := by
  intro n ds
  kernel_rfl
def p105 : T := rt [.e (i_eql (.a 0 0) (Z 3))]
set_option maxRecDepth 100000 in
theorem q105 : Eqn C sg 105 p105 := by
  intro n ds
  kernel_rfl
def p106 : T := .o 160 [.r 0 2, .e (.l 6), .e (Z 0), .r 2 15] (rt [.e ff, .r 21 15])
set_option maxRecDepth 100000 in
theorem q106 : Eqn C sg 106 p106 := by
  intro n ds
  kernel_rfl
def p107 : T := .i (i_lss 3 2) (.g (.q (i_leq (Z 0) 3) (i_lss 3 (.l 1))) (.t ty_iiiil20 (.g 1 3) (.g (.q (i_leq (Z 0) 3) (i_lss 3 (.l 19))) (.t tB (.g 19 3) (.i (.n 21) (cn 105 [20] (.o 161 [0, 3, .e (.n 22), .r 1 3, .e (.l 8), .e (Z 0), .r 4 16] (.i 25 (.ret false [24, .r 26 3, .r 31 16]) (.l (i_add 28 (Z 1)) (.tl 107 [23, .r 26 2, 47, .r 31 16]))))) (.o 161 [0, 3, .e ff, .r 1 3, .e (.l 8), .e (Z 0), .r 4 16] (.i 24 (.ret false [23, .r 25 3, .r 30 16]) (.l (i_add 27 (Z 1)) (.tl 107 [22, .r 25 2, 46, .r 30 16]))))))))) (.ret false [.r 0 20])
set_option maxRecDepth 100000 in
theorem q107 : Eqn C sg 107 p107 := by
  intro n ds
  kernel_rfl
def p108 : T := cn 162 [.r 0 4] (rt [.e (i_geq 4 (Z 0)), .r 5 3])
set_option maxRecDepth 100000 in
theorem q108 : Eqn C sg 108 p108 := by
  intro n ds
  kernel_rfl
def p109 : T := rt [.e (.a 0 0)]
set_option maxRecDepth 100000 in
theorem q109 : Eqn C sg 109 p109 := by
  intro n ds
  kernel_rfl
def p110 : T := .o 163 [0, .e (Z 0)] (rt [2])
set_option maxRecDepth 100000 in
theorem q110 : Eqn C sg 110 p110 := by
  intro n ds
  kernel_rfl
def p111 : T := .i (.n 5) (.g (.q (.q tt (i_leq (Z 0) 0)) (i_leq 0 (.sl 9))) (.l (.ds 9 (Z 0) 0) (cn 164 [.e (Ac [6, 7, 8] e0), 10] (.g (.q (.q (i_leq (Z 0) 0) (i_leq 0 (.sl 9))) (i_leq (.sl 9) (.sl 9))) (.l (.ds 9 0 (.sl 9)) (rt [.r 1 5, .e (.a 11 0), .e (.a 11 1), .e (.a 11 2), 12])))))) (.g (.q (.q (i_leq (Z 0) 0) (i_leq 0 (.sl 9))) (i_leq (.sl 9) (.sl 9))) (.l (.ds 9 0 (.sl 9)) (rt [.r 1 8, 10])))
set_option maxRecDepth 100000 in
theorem q111 : Eqn C sg 111 p111 := by
  intro n ds
  kernel_rfl
def p112 : T := .g (.q tt (i_lss (Z 0) (.sl 0))) (.l (.sb 0 (Z 0)) (.j (.i 2 (.g (.q (.q tt (i_leq (Z 1) (.sl 0))) (i_leq (.sl 0) (.sl 0))) (.l (.ds 0 (Z 1) (.sl 0)) (cn 166 [3] (.l (i_add (Z 1) 4) (.i (i_gtr 5 (Z 40)) (rt [.e (Z 0), .e (Z 0), .e (Z 9)]) (.g (.q (.q tt (i_leq (Z 0) 5)) (i_leq 5 (.sl 0))) (.l (.ds 0 (Z 0) 5) (.i (sE_ 6 (.k (.str [36]))) (rt [.e (Z 0), .e (Z 0), .e (Z 9)]) (rt [.e (Z 1), 5, .e (Z 0)]))))))))) (cn 167 [1] (.i 3 (cn 168 [0] (.g (.q (.q tt (i_leq (Z 0) 4)) (i_leq 4 (.sl 0))) (.l (.ds 0 (Z 0) 4) (cn 169 [5] (.i (i_neq 7 (Z 0)) (rt [.e (Z 0), .e (Z 0), .e (Z 7)]) (rt [.e (Z 2), 4, .e (Z 0)])))))) (.i (.i .eql .u8 1 (.k (.int .u8 39))) (cn 168 [0] (.g (.q (.q tt (i_leq (Z 0) 4)) (i_leq 4 (.sl 0))) (.l (.ds 0 (Z 0) 4) (cn 169 [5] (.i (i_neq 7 (Z 0)) (rt [.e (Z 0), .e (Z 0), .e (Z 7)]) (rt [.e (Z 2), 4, .e (Z 0)])))))) (cn 170 [0] (.i (i_eql 4 (Z 0)) (rt [.e (Z 0), .e (Z 0), .e (Z 7)]) (rt [.e (Z 3), 4, .e (Z 0)]))))))) (cn 165 [1] (.i 2 (.jp 0 [.e tt]) (.jp 0 [.e (.i .eql .u8 1 (.k (.int .u8 36)))])))))
set_option maxRecDepth 100000 in
theorem q112 : Eqn C sg 112 p112 := by
  intro n ds
  kernel_rfl
def p113 : T := .i (i_lss 2 1) (.g (.q (i_leq (Z 0) 2) (i_lss 2 (.l 0))) (.t tS (.g 0 2) (cn 63 [11, .r 3 8] (.i (.n 12) (cn 115 [.r 13 8] (rt [.r 21 8])) (.l (i_add 2 (Z 1)) (.tl 113 [.r 0 2, 21, .r 13 8])))))) (.ret false [.r 0 11])
set_option maxRecDepth 100000 in
theorem q113 : Eqn C sg 113 p113 := by
  intro n ds
  kernel_rfl
def p114 : T := cn 33 [.r 0 8] (.i (i_eql (.a 8 0) (Z 1)) (.g (.q tt (i_lss (Z 0) (.sl (.a 8 1)))) (.l (.sb (.a 8 1) (Z 0)) (.i (.i .neq .u8 17 (.k (.int .u8 36))) (.g (.rs (.k (.str [32])) (.a 8 1)) (.l (.s .add (.k (.str [32])) (.a 8 1)) (.g (.rs 18 (.k (.str [32]))) (.l (.s .add 18 (.k (.str [32]))) (cn 171 [.e (.k (.str [32, 109, 111, 100, 117, 108, 101, 32, 101, 110, 100, 109, 111, 100, 117, 108, 101, 32, 112, 97, 114, 97, 109, 101, 116, 101, 114, 32, 108, 111, 99, 97, 108, 112, 97, 114, 97, 109, 32, 105, 110, 112, 117, 116, 32, 111, 117, 116, 112, 117, 116, 32, 114, 101, 103, 32, 119, 105, 114, 101, 32, 115, 105, 103, 110, 101, 100, 32, 105, 110, 116, 101, 103, 101, 114, 32, 103, 101, 110, 118, 97, 114, 32, 103, 101, 110, 101, 114, 97, 116, 101, 32, 101, 110, 100, 103, 101, 110, 101, 114, 97, 116, 101, 32, 97, 115, 115, 105, 103, 110, 32, 97, 108, 119, 97, 121, 115, 32, 112, 111, 115, 101, 100, 103, 101, 32, 102, 117, 110, 99, 116, 105, 111, 110, 32, 101, 110, 100, 102, 117, 110, 99, 116, 105, 111, 110, 32, 102, 111, 114, 32, 105, 102, 32, 101, 108, 115, 101, 32, 98, 101, 103, 105, 110, 32, 101, 110, 100, 32, 99, 97, 115, 101, 32, 101, 110, 100, 99, 97, 115, 101, 32, 100, 101, 102, 97, 117, 108, 116, 32, 97, 115, 115, 101, 114, 116, 32])), 19] (rt [.e (.n 20), .r 9 8])))))) (rt [.e ff, .r 9 8])))) (rt [.e ff, .r 9 8]))
set_option maxRecDepth 100000 in
theorem q114 : Eqn C sg 114 p114 := by
  intro n ds
  kernel_rfl
def p115 : T := .i (i_lss 1 (.l 0)) (.g (.q (i_leq (Z 0) 1) (i_lss 1 (.l 0))) (.g (.ag (.g 0 1)) (.t ty_iii (.sub (.g 0 1) 2 3) (cn 34 [8, .e (Z 5), .r 0 8] (rt [.r 9 8]))))) (.i (i_gtr (.l 0) (Z 0)) (.l (i_sub (.l 0) (Z 1)) (.g (.q (i_leq (Z 0) 8) (i_lss 8 (.l 0))) (.g (.ag (.g 0 8)) (.t ty_iii (.sub (.g 0 8) 2 3) (cn 34 [9, .e (Z 6), .r 0 8] (rt [.r 10 8])))))) (cn 34 [.e (.k (.agg [.int .i64 0, .int .i64 0, .int .i64 0])), .e (Z 6), .r 0 8] (rt [.r 8 8])))
set_option maxRecDepth 100000 in
theorem q115 : Eqn C sg 115 p115 := by
  intro n ds
  kernel_rfl
def p116 : T := cn 33 [.r 1 8] (.i (sE_ (.a 9 1) 0) (cn 33 [.r 10 8] (rt [.e (i_neq (.a 18 0) (Z 2)), .r 19 8])) (rt [.e ff, .r 10 8]))
set_option maxRecDepth 100000 in
theorem q116 : Eqn C sg 116 p116 := by
  intro n ds
  kernel_rfl
def p117 : T := cn 62 [.r 2 8] (cn 61 [.e (.k (.lst 1 [.str [61]])), .r 11 8] (cn 172 [.r 19 8] (rt [.e (Ac [Z 2] (.aa 0 (Ac [10, 1, ff, Ls 6 [27], .k (.lst 6 []), .k (.lst 8 []), .k (.lst 14 []), .k (.lst 14 []), .k (.lst 5 []), .k (.lst 5 [])] e0))), .r 28 8])))
set_option maxRecDepth 100000 in
theorem q117 : Eqn C sg 117 p117 := by
  intro n ds
  kernel_rfl
def p118 : T := cn 33 [.r 0 8] (cn 63 [.e (.k (.str [105, 110, 112, 117, 116])), .r 9 8] (.i 17 (cn 173 [.e (Ac [.a 8 2, .a 8 3, .a 8 4] e0), .e (.k (.str [105, 110, 112, 117, 116])), .r 18 8] (rt [.r 26 9])) (cn 61 [.e (.k (.lst 1 [.str [111, 117, 116, 112, 117, 116]])), .r 18 8] (cn 63 [.e (.k (.str [114, 101, 103])), .r 26 8] (.i 34 (cn 173 [.e (Ac [.a 8 2, .a 8 3, .a 8 4] e0), .e (.k (.str [111, 117, 116, 112, 117, 116, 32, 114, 101, 103])), .r 35 8] (rt [.r 43 9])) (cn 173 [.e (Ac [.a 8 2, .a 8 3, .a 8 4] e0), .e (.k (.str [111, 117, 116, 112, 117, 116])), .r 35 8] (rt [.r 43 9])))))))
set_option maxRecDepth 100000 in
theorem q118 : Eqn C sg 118 p118 := by
  intro n ds
  kernel_rfl
def p119 : T := .i (i_eql 8 (Z 0)) (cn 63 [.r 0 9] (.i (.n 10) (cn 174 [.r 11 8] (.g (.rm 9 27) (.l (.ap 14 9 27) (.tl 119 [0, .r 19 8, 28])))) (.ret false [0, .r 11 8, 9]))) (.ret false [.r 0 10])
set_option maxRecDepth 100000 in
theorem q119 : Eqn C sg 119 p119 := by
  intro n ds
  kernel_rfl
def p120 : T := .i (i_lss 1 0) (.g (.q (i_leq (Z 0) 1) (i_lss 1 (.l 2))) (.t ty_siiil14l14l14 (.g 2 1) (cn 175 [10, .r 3 7] (.i 11 (rt [.r 1 2, .r 12 7]) (.l (i_add 1 (Z 1)) (.tl 120 [0, 19, 2, .r 12 7])))))) (.ret false [.r 0 10])
set_option maxRecDepth 100000 in
theorem q120 : Eqn C sg 120 p120 := by
  intro n ds
  kernel_rfl
def p121 : T := .o 176 [0, .e (.l 0), .e (Z 0), 1] (rt [.e (Z (-1)), 5])
set_option maxRecDepth 100000 in
theorem q121 : Eqn C sg 121 p121 := by
  intro n ds
  kernel_rfl
def p122 : T := .j (.i (i_eql 11 (Z 0)) (.i (i_lss 6 (Z (-2147483648))) (cn 178 [.e (Ac [.a 0 1, .a 0 2, .a 0 3] e0), .e (Z 3), .r 7 5] (rt [.r 12 6])) (.i (i_gtr 6 (Z 2147483647)) (cn 178 [.e (Ac [.a 0 1, .a 0 2, .a 0 3] e0), .e (Z 3), .r 7 5] (rt [.r 12 6])) (rt [.r 6 6]))) (rt [.r 6 6])) (.i (i_eql (.a 0 0) (Z 1)) (cn 177 [.r 0 6] (.jp 0 [.r 6 6])) (.i (i_eql (.a 0 0) (Z 2)) (cn 38 [.e (Ac [1] e0), .e (.a 0 4)] (.i (.n 7) (cn 178 [.e (Ac [.a 0 1, .a 0 2, .a 0 3] e0), .e (Z 9), .r 1 5] (rt [.r 8 6])) (.jp 0 [6, .r 1 5]))) (.i (i_eql (.a 0 0) (Z 3)) (cn 179 [.r 0 6] (.jp 0 [.r 6 6])) (.i (i_eql (.a 0 0) (Z 4)) (cn 180 [.r 0 6] (.jp 0 [.r 6 6])) (.i (i_eql (.a 0 0) (Z 5)) (.g (.q tt (i_lss (Z 0) (.l (.a 0 5)))) (.t ty_iiiisl6 (.g (.a 0 5) (Z 0)) (cn 122 [6, .r 1 5] (.i (i_neq 7 (Z 0)) (.g (.q tt (i_lss (Z 1) (.l (.a 0 5)))) (.t ty_iiiisl6 (.g (.a 0 5) (Z 1)) (cn 122 [13, .r 8 5] (rt [.r 14 6])))) (.i (i_eql 12 (Z 0)) (.g (.q tt (i_lss (Z 2) (.l (.a 0 5)))) (.t ty_iiiisl6 (.g (.a 0 5) (Z 2)) (cn 122 [13, .r 8 5] (.jp 0 [.r 14 6])))) (.jp 0 [.e (Z 0), .r 8 5])))))) (cn 178 [.e (Ac [.a 0 1, .a 0 2, .a 0 3] e0), .e (Z 12), .r 1 5] (rt [.r 6 6])))))))
set_option maxRecDepth 100000 in
theorem q122 : Eqn C sg 122 p122 := by
  intro n ds
  kernel_rfl
def p123 : T := .i (.em 0) (.ag (rt [.e (.k (.lst 19 []))]) (.g (.rm (.k (dm 0)) 0) (.l (.ap 19 (.k (.lst 19 [])) 0) (rt [1])))) (.g (.rm (.k (dm 0)) 0) (.l (.ap 19 (.k (.lst 19 [])) 0) (rt [1])))
set_option maxRecDepth 100000 in
theorem q123 : Eqn C sg 123 p123 := by
  intro n ds
  kernel_rfl
def p124 : T := cn 181 [19, .r 0 19] (.i (i_eql 20 (Z (-1))) (rt [.r 22 19, 21]) (.l (i_add 20 (Z 1)) (.o 182 [20, 41, .r 22 19, 21] (.g (.q (.q (i_leq (Z 0) 42) (i_leq 42 (.l 63))) (i_leq (.l 63) (.l 63))) (.g (.nz (.na 42 (.ns (.l 63) 42)) 63) (.l (.cl 19 63 42 (.ns (.l 63) 42) (.k (.agg [.str [], .int .i64 0, .int .i64 0, .str [], .int .i64 0, .bool false, .int .i64 0, .lst 4 [], .int .i64 0, .bool false, .int .i64 0, .int .i64 0, .int .i64 0, .int .i64 0, .int .i64 0, .bool false, .int .i64 0, .lst 1 [], .lst 9 []]))) (.g (.q (i_leq (Z 0) 42) (i_leq 42 (.l 64))) (.l (.tk 19 64 42) (rt [.r 44 19, 65])))))))))
set_option maxRecDepth 100000 in
theorem q124 : Eqn C sg 124 p124 := by
  intro n ds
  kernel_rfl
def p125 : T := .i (.em 0) (.ag (rt [.e (.k (.lst 2 []))]) (.g (.rm (.k (dm 0)) 0) (.l (.ap 2 (.k (.lst 2 [])) 0) (rt [1])))) (.g (.rm (.k (dm 0)) 0) (.l (.ap 2 (.k (.lst 2 [])) 0) (rt [1])))
set_option maxRecDepth 100000 in
theorem q125 : Eqn C sg 125 p125 := by
  intro n ds
  kernel_rfl
def p126 : T := .i (i_lss 3 2) (.g (.q (i_leq (Z 0) 3) (i_lss 3 (.l 0))) (.t tS (.g 0 3) (.i (sE_ 1 4) (rt [3]) (.l (i_add 3 (Z 1)) (.tl 126 [.r 0 3, 5]))))) (.ret false [.r 0 4])
set_option maxRecDepth 100000 in
theorem q126 : Eqn C sg 126 p126 := by
  intro n ds
  kernel_rfl
def p127 : T := .i (i_lss 1 0) (.g (.q (i_leq (Z 0) 1) (i_lss 1 (.l 2))) (.t tS (.g 2 1) (cn 128 [4, 3] (.i 5 (rt [.r 1 2, 6]) (.l (i_add 1 (Z 1)) (.tl 127 [0, 7, 2, 6])))))) (.ret false [.r 0 4])
set_option maxRecDepth 100000 in
theorem q127 : Eqn C sg 127 p127 := by
  intro n ds
  kernel_rfl
def p128 : T := rt [.e (sE_ 0 1), 1]
set_option maxRecDepth 100000 in
theorem q128 : Eqn C sg 128 p128 := by
  intro n ds
  kernel_rfl
def p129 : T := .j (.i 26 (cn 42 [0, .e (Z 3), .r 8 7, .r 18 8] (rt [.e (Z 1), .r 4 4, .r 27 7, .r 15 3, .r 34 8])) (.l (i_add 1 (Z 1)) (rt [27, .r 4 22]))) (.i (i_neq 2 (Z 0)) (.jp 0 [.e tt]) (.i (i_lss 1 (Z 0)) (.jp 0 [.e tt]) (.jp 0 [.e (i_geq 1 3)])))
set_option maxRecDepth 100000 in
theorem q129 : Eqn C sg 129 p129 := by
  intro n ds
  kernel_rfl
def p130 : T := cn 183 [0] (.i (.n 2) (rt [.e (.k (.agg [.int .i64 0, .lst 1 []])), .e (Z 2)]) (cn 184 [0] (.l (.cp 1 4 1) (cn 185 [3, 5] (rt [.e (Ac [6, 7] e0), .e (Z 0)])))))
set_option maxRecDepth 100000 in
theorem q130 : Eqn C sg 130 p130 := by
  intro n ds
  kernel_rfl
def p131 : T := .o 186 [.e (.a 0 0), .e (.l (.a 0 0)), .e (Z 0), .e (.k (.lst 2 [])), .e (.k (.lst 2 []))] (rt [.e (Ac [5] e0)])
set_option maxRecDepth 100000 in
theorem q131 : Eqn C sg 131 p131 := by
  intro n ds
  kernel_rfl
def p132 : T := cn 187 [.r 0 23] (.i (i_neq 35 (Z 0)) (rt [.e (Z 0), .r 24 22]) (cn 78 [0] (cn 188 [23, 46, .e (Ac [.a 0 1, .a 0 2, .a 0 3] e0), .r 24 22] (.o 189 [47, .e (.a 0 8), .e (.l (.a 0 8)), .e (Z 0), .r 48 16, .e (.a 0 0), .e (.a 0 1), .e (.a 0 2), .e (.a 0 3), .e (.a 0 4), .e (.a 0 5), .e (.a 0 6), .e (.a 0 7), .e (.a 0 8), .e (.a 0 9), .e (.a 0 10), .e (.a 0 11), .e (.a 0 12), .e (.a 0 13), .e (.a 23 0), .e (.a 23 1), .e (.a 23 2), .e (.a 23 3), .r 64 6] (cn 81 [.e (Ac [74, 75] e0), 94, 70, .e (Ac [104, 105, 106, 107] e0)] (rt [70, .e (.a 114 0), .e (.a 114 1), .r 76 14, .r 108 6]))))))
set_option maxRecDepth 100000 in
theorem q132 : Eqn C sg 132 p132 := by
  intro n ds
  kernel_rfl
def p133 : T := cn 190 [.e (Ac [2, 3] e0), .e (.a 0 4)] (.j (.i (i_neq 39 (Z 0)) (rt [.e (.k (.agg [.int .i64 0, .int .i64 0, .int .i64 0, .lst 9 []])), .e (Z 1), .r 2 5, 27, .r 34 6, .r 14 2, .r 40 2, .r 28 6]) (cn 191 [0, .r 25 2, .r 2 5, 27, .r 34 6, .r 14 2, .r 40 2, .r 28 6] (rt [.r 42 24]))) (.i (i_eql 24 (Z 0)) (cn 42 [.e (Ac [.a 0 1, .a 0 2, .a 0 3] e0), .e (Z 9), .r 7 7, .r 16 8] (.jp 0 [27, .r 36 6, .r 28 8])) (.i (i_neq 24 (Z 2)) (cn 42 [.e (Ac [.a 0 1, .a 0 2, .a 0 3] e0), .e (Z 11), .r 7 7, .r 16 8] (.jp 0 [27, .r 36 6, .r 28 8])) (.j (.i 27 (cn 42 [.e (Ac [.a 0 1, .a 0 2, .a 0 3] e0), .e (Z 14), .r 7 7, .r 16 8] (.jp 0 [28, .r 37 6, .r 29 8])) (.g (.q (i_leq (Z 0) 25) (i_lss 25 (.l 23))) (.t tI (.g 23 25) (.i (i_neq 28 1) (cn 42 [.e (Ac [.a 0 1, .a 0 2, .a 0 3] e0), .e (Z 11), .r 7 7, .r 16 8] (.jp 0 [29, .r 38 6, .r 30 8])) (.i (i_gtr (.a 26 3) (Z 0)) (.i (i_neq (.a 0 0) (Z 8)) (cn 42 [.e (Ac [.a 0 1, .a 0 2, .a 0 3] e0), .e (Z 11), .r 7 7, .r 16 8] (.jp 0 [29, .r 38 6, .r 30 8])) (.jp 0 [7, .r 18 6, .r 8 6, .r 16 2])) (.jp 0 [7, .r 18 6, .r 8 6, .r 16 2])))))) (.g (.q (i_leq (Z 0) 25) (i_lss 25 (.l 23))) (.t tI (.g 23 25) (.i (i_eql 27 (Z 3)) (.jp 0 [.e tt]) (cn 41 [4, .e (.a 0 4)] (.jp 0 [28])))))))))
set_option maxRecDepth 100000 in
theorem q133 : Eqn C sg 133 p133 := by
  intro n ds
  kernel_rfl
def p134 : T := cn 192 [.e (Ac [2, 3] e0), .r 0 2] (cn 42 [.r 25 2, .r 7 7, .r 16 8] (rt [24, .r 2 5, .r 27 7, .r 14 2, .r 34 8]))
set_option maxRecDepth 100000 in
theorem q134 : Eqn C sg 134 p134 := by
  intro n ds
  kernel_rfl
def p135 : T := .l (i_add 8 (Z 1)) (.i (i_gtr 23 (Z 4000)) (cn 42 [0, .e (Z 19), .r 6 2, 23, .r 9 4, .r 15 8] (rt [.r 1 5, .r 24 7, .r 13 2, .r 31 8])) (rt [.r 1 7, 23, .r 9 14]))
set_option maxRecDepth 100000 in
theorem q135 : Eqn C sg 135 p135 := by
  intro n ds
  kernel_rfl
def p136 : T := .i (i_lss 2 1) (.g (.q (i_leq (Z 0) 2) (i_lss 2 (.l 0))) (.t ty_iiiisl6l8l9 (.g 0 2) (.i (i_neq 14 (Z 0)) (rt [.r 3 16, .r 20 6, .e (.k (.lst 20 []))]) (cn 193 [26, .r 3 16, .r 20 6] (.g (.rm 19 49) (.l (.ap 20 19 49) (.l (i_add 2 (Z 1)) (.tl 136 [.r 0 2, 51, .r 27 16, 50, .r 43 6])))))))) (.ret false [.r 0 26])
set_option maxRecDepth 100000 in
theorem q136 : Eqn C sg 136 p136 := by
  intro n ds
  kernel_rfl
def p137 : T := cn 194 [.e (Ac [0, 1] e0), .e (Z 2)] (rt [22, .r 0 22])
set_option maxRecDepth 100000 in
theorem q137 : Eqn C sg 137 p137 := by
  intro n ds
  kernel_rfl
def p138 : T := .j (.i 26 (cn 42 [0, .e (Z 3), .r 9 7, .r 18 8] (rt [.e (Z 1), .r 4 5, .r 27 7, .r 16 2, .r 34 8])) (.l (i_add 1 (Z 1)) (rt [27, .r 4 22]))) (.i (i_neq 2 (Z 0)) (.jp 0 [.e tt]) (.i (i_lss 1 (Z 0)) (.jp 0 [.e tt]) (.jp 0 [.e (i_geq 1 3)])))
set_option maxRecDepth 100000 in
theorem q138 : Eqn C sg 138 p138 := by
  intro n ds
  kernel_rfl
def p139 : T := .i (i_lss 2 1) (.g (.q (i_leq (Z 0) 2) (i_lss 2 (.l 0))) (.t ty_iiiissbl6l6l8l14l14l5l5 (.g 0 2) (.i (sE_ (.a 64 5) (.k (.str [105, 110, 112, 117, 116]))) (cn 195 [64, .r 31 4, .r 8 9, .r 57 3, .r 51 6] (.g (.rm 61 (.k (dm 1))) (.l (.ap 4 61 (Ls 4 [65])) (cn 196 [.e (.l 60), 65] (cn 142 [.e (.a 64 4), 65, 89, .r 66 11, .r 79 3, .r 77 2, 60, .r 82 6] (.l (i_add 2 (Z 1)) (.tl 139 [.r 0 2, 113, .r 3 5, .r 94 7, .r 104 2, .r 17 14, .r 90 4, .r 35 16, .r 107 6, .r 101 3, 106, 88, .r 62 2]))))))) (.i (sE_ (.a 64 5) (.k (.str [105, 110, 116, 101, 103, 101, 114]))) (cn 20 [.e (.a 64 4), .e (Ac [.a 64 1, .a 64 2, .a 64 3] e0), .r 31 4, .r 8 9, .r 57 3, .r 51 6] (.g (.rm 78 (.k (dm 1))) (.l (.ap 1 78 (Ls 1 [.a 64 4])) (.l (i_add 2 (Z 1)) (.tl 139 [.r 0 2, 88, .r 3 5, .r 69 9, .r 17 14, .r 65 4, .r 35 16, .r 81 7, .r 79 2, .r 60 4]))))) (.g (.rm 48 (.k (dm 1))) (.l (.ap 14 48 (Ls 14 [64])) (.l (i_add 2 (Z 1)) (.tl 139 [.r 0 2, 66, .r 3 45, 65, .r 49 15])))))))) (.ret false [.r 0 64])
set_option maxRecDepth 100000 in
theorem q139 : Eqn C sg 139 p139 := by
  intro n ds
  kernel_rfl
def p140 : T := .i (i_lss 1 0) (.g (.q (i_leq (Z 0) 1) (i_lss 1 (.l 47))) (.t ty_iiiissbl6l6l8l14l14l5l5 (.g 47 1) (cn 195 [63, .r 30 4, .r 7 9, .r 56 3, .r 50 6] (cn 141 [.e (.a 64 1)] (cn 142 [.e (.a 63 4), 64, 87, .r 65 11, .r 78 3, .r 76 2, 59, .r 81 6] (.l (i_add 1 (Z 1)) (.tl 140 [0, 111, .r 2 5, .r 92 7, .r 102 2, .r 16 14, .r 88 4, .r 34 16, .r 105 6, .r 99 3, 104, .r 60 3]))))))) (.ret false [.r 0 63])
set_option maxRecDepth 100000 in
theorem q140 : Eqn C sg 140 p140 := by
  intro n ds
  kernel_rfl
def p141 : T := cn 130 [0, .e (.k (.lst 1 []))] (cn 197 [1] (rt [3]))
set_option maxRecDepth 100000 in
theorem q141 : Eqn C sg 141 p141 := by
  intro n ds
  kernel_rfl
def p142 : T := cn 81 [.e (Ac [3, 4] e0), 0, .e (.l 19), 1] (.g (.rm 19 (.k (dm 1))) (.l (.ap 9 19 (.k (.lst 9 [.agg [.int .i64 0, .int .i64 0, .int .i64 0, .int .i64 0, .int .i64 0, .bool false, .int .i64 0, .lst 1 [], .lst 9 []]]))) (.g (.q (i_leq (Z 0) (.l 19)) (i_lss (.l 19) (.l 27))) (.l (.st 9 27 (.l 19) 2) (rt [.e (.a 26 0), .e (.a 26 1), .r 5 14, 28, .r 20 6])))))
set_option maxRecDepth 100000 in
theorem q142 : Eqn C sg 142 p142 := by
  intro n ds
  kernel_rfl
def p143 : T := .o 198 [0, .e (.l 0), .e (Z 0), .r 1 23] (rt [.r 27 23])
set_option maxRecDepth 100000 in
theorem q143 : Eqn C sg 143 p143 := by
  intro n ds
  kernel_rfl
def p144 : T := cn 72 [0, .e (Ac [1, Z 3, Z 0, .k (.str []), Z 0, ff, Z 0] (.aa 2 e0))] (cn 131 [3] (rt [.e (Ac [.a 3 0, .a 4 0] e0)]))
set_option maxRecDepth 100000 in
theorem q144 : Eqn C sg 144 p144 := by
  intro n ds
  kernel_rfl
def p145 : T := .o 199 [0, .e (.l 0), .e (Z 0), .e (.k (.lst 1 []))] (rt [4])
set_option maxRecDepth 100000 in
theorem q145 : Eqn C sg 145 p145 := by
  intro n ds
  kernel_rfl
def p146 : T := .o 200 [.r 0 2, 0, .e (.l 0), .e (Z 0), .r 2 22] (rt [.r 29 22])
set_option maxRecDepth 100000 in
theorem q146 : Eqn C sg 146 p146 := by
  intro n ds
  kernel_rfl
def p147 : T := .i (i_lss 2 1) (.g (.q (i_leq (Z 0) 2) (i_lss 2 (.l 0))) (.t ty_siiil6 (.g 0 2) (.i (i_eql (.l (.a 47 4)) (Z 0)) (cn 42 [.e (Ac [.a 47 1, .a 47 2, .a 47 3] e0), .e (Z 13), .r 8 9, .r 40 6] (.l (i_add 2 (Z 1)) (.tl 147 [.r 0 2, 63, .r 3 5, .r 48 9, .r 17 23, .r 57 6, 46]))) (.g (.q tt (i_lss (Z 0) (.l (.a 47 4)))) (.t ty_iiiisl6 (.g (.a 47 4) (Z 0)) (cn 83 [48, .r 3 12, .r 38 2, .r 15 2, .r 40 6] (cp 73 [.e (Ac [46] e0), .e (.a 47 0), 49] (.l (i_add 2 (Z 1)) (.tl 147 [.r 0 2, 73, .r 50 12, .r 64 2, .r 17 21, .r 62 2, .r 66 7]))))))))) (.ret false [.r 0 47])
set_option maxRecDepth 100000 in
theorem q147 : Eqn C sg 147 p147 := by
  intro n ds
  kernel_rfl
def p148 : T := .i (i_lss 2 1) (.g (.q (i_leq (Z 0) 2) (i_lss 2 (.l 0))) (.t ty_iiiissbl6l6l8l14l14l5l5 (.g 0 2) (.i (i_neq 14 (Z 0)) (rt [.r 3 14, .r 43 8]) (cn 201 [30, .e (.a 54 0), .e (.a 54 1), .e (.a 54 2), .e (.a 54 3), .e (.a 54 4), .e (.a 54 5), .e (.a 54 6), .e (.a 54 7), .e (.a 54 8), .e (.a 54 9), .e (.a 54 10), .e (.a 54 11), .e (.a 54 12), .e (.a 54 13)] (.i (i_lss 55 (Z 0)) (.i (sE_ 61 (.k (.str [105, 110, 112, 117, 116]))) (cn 42 [.e (Ac [18, 19, 20] e0), .e (Z 13), .r 8 9, .r 45 6] (rt [.r 3 5, .r 70 9, .r 43 2, .r 79 6])) (cn 21 [.e (Ac [56, 57, 58, 59, 60, 61, 62, 63, 64, 65, 66, 67, 68, 69] e0), .r 38 4, .r 8 9, .r 51 3, .r 45 6] (.l (i_add 2 (Z 1)) (.tl 148 [.r 0 2, 93, .r 3 5, .r 75 9, .r 17 21, .r 71 4, .r 42 3, .r 87 6, .r 84 3])))) (.g (.q (i_leq (Z 0) 55) (i_lss 55 (.l 30))) (.t ty_siiil6 (.g 30 55) (cn 202 [.e (Ac [56, 57, 58, 59, 60, 61, 62, 63, 64, 65, 66, 67, 68, 69] e0), 70, .r 3 5, .r 38 4, .r 8 9, .r 43 2, .r 51 3, .r 45 6] (.g (.rm 42 100) (.l (.ap 5 42 100) (.l (i_add 2 (Z 1)) (.tl 148 [.r 0 2, 102, .r 71 5, .r 80 9, .r 17 21, .r 76 4, 101, .r 89 2, .r 94 6, .r 91 3])))))))))))) (.ret false [.r 0 54])
set_option maxRecDepth 100000 in
theorem q148 : Eqn C sg 148 p148 := by
  intro n ds
  kernel_rfl
def p149 : T := .i (i_lss 1 0) (.g (.q (i_leq (Z 0) 1) (i_lss 1 (.l 16))) (.t ty_iiiil20 (.g 16 1) (cn 87 [25, .r 2 12, .r 17 2, .r 14 2, .r 19 6] (.l (i_add 1 (Z 1)) (.tl 149 [0, 48, .r 26 12, .r 40 2, 16, .r 38 2, .r 42 6]))))) (.ret false [.r 0 25])
set_option maxRecDepth 100000 in
theorem q149 : Eqn C sg 149 p149 := by
  intro n ds
  kernel_rfl
def p150 : T := .i (i_eql 29 (Z 0)) (cn 40 [.e (Ac [4, 5] e0), 0, 2] (.g (.q tt (i_lss (Z 1) (.l 1))) (.t ty_iiiisl6 (.g 1 (Z 1)) (cn 83 [44, .e (.a 43 0), .e (.a 43 1), .r 6 3, .r 23 11, .r 37 6] (.i (i_eql 45 (Z 0)) (rt [.r 4 19, .r 51 17]) (.i (i_neq 57 (Z 0)) (rt [.r 4 19, .r 51 17]) (.i (i_eql 3 (Z 64)) (cn 42 [.e (Ac [34, 35, 36] e0), .e (Z 19), .r 51 7, .r 60 8] (rt [.r 4 19, .r 68 7, .r 58 2, .r 75 8])) (cn 203 [2, .r 46 5, .r 9 14, .r 51 17] (.g (.q tt (i_lss (Z 2) (.l 1))) (.t ty_iiiisl6 (.g 1 (Z 2)) (cn 83 [104, .r 68 5, .r 87 17] (.l (i_add 3 (Z 1)) (.tl 150 [.r 0 2, 105, 128, .r 4 5, .r 73 14, .r 111 11, .r 34 3, .r 122 6]))))))))))))) (.ret false [.r 0 43])
set_option maxRecDepth 100000 in
theorem q150 : Eqn C sg 150 p150 := by
  intro n ds
  kernel_rfl
def p151 : T := .g (.rs 4 0) (.l (.s .add 4 0) (cp 43 [13] (rt [.r 1 22, .r 1 3, 23, 5, 24, .e (.k (.lst 1 []))])))
set_option maxRecDepth 100000 in
theorem q151 : Eqn C sg 151 p151 := by
  intro n ds
  kernel_rfl
def p152 : T := .i (i_lss 2 1) (.g (.q (i_leq (Z 0) 2) (i_lss 2 (.l 0))) (.t ty_iiiiiiil9iiiiibil1l9l20l20i (.g 0 2) (cn 204 [11, .r 3 8] (cn 92 [.e (.a 11 17), .r 12 8] (cn 92 [.e (.a 11 18), .r 20 8] (.l (i_add 2 (Z 1)) (.tl 152 [.r 0 2, 36, .r 28 8]))))))) (.ret false [.r 0 11])
set_option maxRecDepth 100000 in
theorem q152 : Eqn C sg 152 p152 := by
  intro n ds
  kernel_rfl
def p153 : T := .i (i_lss 2 1) (.g (.q (i_leq (Z 0) 2) (i_lss 2 (.l 0))) (.t ty_iiiiiiil9iiiiibil1l9l20l20i (.g 0 2) (cn 205 [12, .r 3 9] (cn 93 [.e (.a 12 17), .r 13 9] (cn 93 [.e (.a 12 18), .r 22 9] (.l (i_add 2 (Z 1)) (.tl 153 [.r 0 2, 40, .r 31 9]))))))) (.ret false [.r 0 12])
set_option maxRecDepth 100000 in
theorem q153 : Eqn C sg 153 p153 := by
  intro n ds
  kernel_rfl
end Go.Proofs.YtpmjplpnpnmlcaaGreatDoor
