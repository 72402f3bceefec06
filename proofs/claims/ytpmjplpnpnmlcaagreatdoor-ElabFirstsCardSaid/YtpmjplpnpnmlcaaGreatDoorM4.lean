import Derived.Test.YtpmjplpnpnmlcaaGreatDoorM3
import Derived.Test.YtpmjplpnpnmlcaaGreatDoorFi0
import Derived.Test.YtpmjplpnpnmlcaaGreatDoorFi1
import Derived.Test.YtpmjplpnpnmlcaaGreatDoorFi2
import Derived.Test.YtpmjplpnpnmlcaaGreatDoorFi3
import Derived.Test.YtpmjplpnpnmlcaaGreatDoorFi4
import Derived.Test.YtpmjplpnpnmlcaaGreatDoorFi5
import Derived.Test.YtpmjplpnpnmlcaaGreatDoorFi6
import Derived.Test.YtpmjplpnpnmlcaaGreatDoorFi7
import Derived.Test.YtpmjplpnpnmlcaaGreatDoorFi8
import Derived.Test.YtpmjplpnpnmlcaaGreatDoorFi9
import Derived.Test.YtpmjplpnpnmlcaaGreatDoorFiA
import Derived.Test.YtpmjplpnpnmlcaaGreatDoorFiB
import Derived.Test.YtpmjplpnpnmlcaaGreatDoorFiC
import Derived.Test.YtpmjplpnpnmlcaaGreatDoorFiD
import Derived.Test.YtpmjplpnpnmlcaaGreatDoorFiE
import Derived.Test.YtpmjplpnpnmlcaaGreatDoorFiF
namespace Go.Proofs.YtpmjplpnpnmlcaaGreatDoor
open Go.AE
set_option linter.all false
theorem fi_all : ∀ w, 1 ≤ w → w ≤ 128 → ∀ g, Fi w g
  | 0, h, _, _ => absurd h (by omega)
  | 1, _, _, g => match g with | false => fip1 | true => fin1
  | 2, _, _, g => match g with | false => fip2 | true => fin2
  | 3, _, _, g => match g with | false => fip3 | true => fin3
  | 4, _, _, g => match g with | false => fip4 | true => fin4
  | 5, _, _, g => match g with | false => fip5 | true => fin5
  | 6, _, _, g => match g with | false => fip6 | true => fin6
  | 7, _, _, g => match g with | false => fip7 | true => fin7
  | 8, _, _, g => match g with | false => fip8 | true => fin8
  | 9, _, _, g => match g with | false => fip9 | true => fin9
  | 10, _, _, g => match g with | false => fip10 | true => fin10
  | 11, _, _, g => match g with | false => fip11 | true => fin11
  | 12, _, _, g => match g with | false => fip12 | true => fin12
  | 13, _, _, g => match g with | false => fip13 | true => fin13
  | 14, _, _, g => match g with | false => fip14 | true => fin14
  | 15, _, _, g => match g with | false => fip15 | true => fin15
  | 16, _, _, g => match g with | false => fip16 | true => fin16
  | 17, _, _, g => match g with | false => fip17 | true => fin17
  | 18, _, _, g => match g with | false => fip18 | true => fin18
  | 19, _, _, g => match g with | false => fip19 | true => fin19
  | 20, _, _, g => match g with | false => fip20 | true => fin20
  | 21, _, _, g => match g with | false => fip21 | true => fin21
  | 22, _, _, g => match g with | false => fip22 | true => fin22
  | 23, _, _, g => match g with | false => fip23 | true => fin23
  | 24, _, _, g => match g with | false => fip24 | true => fin24
  | 25, _, _, g => match g with | false => fip25 | true => fin25
  | 26, _, _, g => match g with | false => fip26 | true => fin26
  | 27, _, _, g => match g with | false => fip27 | true => fin27
  | 28, _, _, g => match g with | false => fip28 | true => fin28
  | 29, _, _, g => match g with | false => fip29 | true => fin29
  | 30, _, _, g => match g with | false => fip30 | true => fin30
  | 31, _, _, g => match g with | false => fip31 | true => fin31
  | 32, _, _, g => match g with | false => fip32 | true => fin32
  | 33, _, _, g => match g with | false => fip33 | true => fin33
  | 34, _, _, g => match g with | false => fip34 | true => fin34
  | 35, _, _, g => match g with | false => fip35 | true => fin35
  | 36, _, _, g => match g with | false => fip36 | true => fin36
  | 37, _, _, g => match g with | false => fip37 | true => fin37
  | 38, _, _, g => match g with | false => fip38 | true => fin38
  | 39, _, _, g => match g with | false => fip39 | true => fin39
  | 40, _, _, g => match g with | false => fip40 | true => fin40
  | 41, _, _, g => match g with | false => fip41 | true => fin41
  | 42, _, _, g => match g with | false => fip42 | true => fin42
  | 43, _, _, g => match g with | false => fip43 | true => fin43
  | 44, _, _, g => match g with | false => fip44 | true => fin44
  | 45, _, _, g => match g with | false => fip45 | true => fin45
  | 46, _, _, g => match g with | false => fip46 | true => fin46
  | 47, _, _, g => match g with | false => fip47 | true => fin47
  | 48, _, _, g => match g with | false => fip48 | true => fin48
  | 49, _, _, g => match g with | false => fip49 | true => fin49
  | 50, _, _, g => match g with | false => fip50 | true => fin50
  | 51, _, _, g => match g with | false => fip51 | true => fin51
  | 52, _, _, g => match g with | false => fip52 | true => fin52
  | 53, _, _, g => match g with | false => fip53 | true => fin53
  | 54, _, _, g => match g with | false => fip54 | true => fin54
  | 55, _, _, g => match g with | false => fip55 | true => fin55
  | 56, _, _, g => match g with | false => fip56 | true => fin56
  | 57, _, _, g => match g with | false => fip57 | true => fin57
  | 58, _, _, g => match g with | false => fip58 | true => fin58
  | 59, _, _, g => match g with | false => fip59 | true => fin59
  | 60, _, _, g => match g with | false => fip60 | true => fin60
  | 61, _, _, g => match g with | false => fip61 | true => fin61
  | 62, _, _, g => match g with | false => fip62 | true => fin62
  | 63, _, _, g => match g with | false => fip63 | true => fin63
  | 64, _, _, g => match g with | false => fip64 | true => fin64
  | 65, _, _, g => match g with | false => fip65 | true => fin65
  | 66, _, _, g => match g with | false => fip66 | true => fin66
  | 67, _, _, g => match g with | false => fip67 | true => fin67
  | 68, _, _, g => match g with | false => fip68 | true => fin68
  | 69, _, _, g => match g with | false => fip69 | true => fin69
  | 70, _, _, g => match g with | false => fip70 | true => fin70
  | 71, _, _, g => match g with | false => fip71 | true => fin71
  | 72, _, _, g => match g with | false => fip72 | true => fin72
  | 73, _, _, g => match g with | false => fip73 | true => fin73
  | 74, _, _, g => match g with | false => fip74 | true => fin74
  | 75, _, _, g => match g with | false => fip75 | true => fin75
  | 76, _, _, g => match g with | false => fip76 | true => fin76
  | 77, _, _, g => match g with | false => fip77 | true => fin77
  | 78, _, _, g => match g with | false => fip78 | true => fin78
  | 79, _, _, g => match g with | false => fip79 | true => fin79
  | 80, _, _, g => match g with | false => fip80 | true => fin80
  | 81, _, _, g => match g with | false => fip81 | true => fin81
  | 82, _, _, g => match g with | false => fip82 | true => fin82
  | 83, _, _, g => match g with | false => fip83 | true => fin83
  | 84, _, _, g => match g with | false => fip84 | true => fin84
  | 85, _, _, g => match g with | false => fip85 | true => fin85
  | 86, _, _, g => match g with | false => fip86 | true => fin86
  | 87, _, _, g => match g with | false => fip87 | true => fin87
  | 88, _, _, g => match g with | false => fip88 | true => fin88
  | 89, _, _, g => match g with | false => fip89 | true => fin89
  | 90, _, _, g => match g with | false => fip90 | true => fin90
  | 91, _, _, g => match g with | false => fip91 | true => fin91
  | 92, _, _, g => match g with | false => fip92 | true => fin92
  | 93, _, _, g => match g with | false => fip93 | true => fin93
  | 94, _, _, g => match g with | false => fip94 | true => fin94
  | 95, _, _, g => match g with | false => fip95 | true => fin95
  | 96, _, _, g => match g with | false => fip96 | true => fin96
  | 97, _, _, g => match g with | false => fip97 | true => fin97
  | 98, _, _, g => match g with | false => fip98 | true => fin98
  | 99, _, _, g => match g with | false => fip99 | true => fin99
  | 100, _, _, g => match g with | false => fip100 | true => fin100
  | 101, _, _, g => match g with | false => fip101 | true => fin101
  | 102, _, _, g => match g with | false => fip102 | true => fin102
  | 103, _, _, g => match g with | false => fip103 | true => fin103
  | 104, _, _, g => match g with | false => fip104 | true => fin104
  | 105, _, _, g => match g with | false => fip105 | true => fin105
  | 106, _, _, g => match g with | false => fip106 | true => fin106
  | 107, _, _, g => match g with | false => fip107 | true => fin107
  | 108, _, _, g => match g with | false => fip108 | true => fin108
  | 109, _, _, g => match g with | false => fip109 | true => fin109
  | 110, _, _, g => match g with | false => fip110 | true => fin110
  | 111, _, _, g => match g with | false => fip111 | true => fin111
  | 112, _, _, g => match g with | false => fip112 | true => fin112
  | 113, _, _, g => match g with | false => fip113 | true => fin113
  | 114, _, _, g => match g with | false => fip114 | true => fin114
  | 115, _, _, g => match g with | false => fip115 | true => fin115
  | 116, _, _, g => match g with | false => fip116 | true => fin116
  | 117, _, _, g => match g with | false => fip117 | true => fin117
  | 118, _, _, g => match g with | false => fip118 | true => fin118
  | 119, _, _, g => match g with | false => fip119 | true => fin119
  | 120, _, _, g => match g with | false => fip120 | true => fin120
  | 121, _, _, g => match g with | false => fip121 | true => fin121
  | 122, _, _, g => match g with | false => fip122 | true => fin122
  | 123, _, _, g => match g with | false => fip123 | true => fin123
  | 124, _, _, g => match g with | false => fip124 | true => fin124
  | 125, _, _, g => match g with | false => fip125 | true => fin125
  | 126, _, _, g => match g with | false => fip126 | true => fin126
  | 127, _, _, g => match g with | false => fip127 | true => fin127
  | 128, _, _, g => match g with | false => fip128 | true => fin128
  | n + 129, _, h, _ => absurd h (by omega)
theorem nthL_n (l : List D) (k : Nat) : nthL .top l k = nth l k := nthL_eq l k
theorem prj_some {o : Out} {d : D} (h : prj o = some d) : ∃ r, o = some (true, r) ∧ nrmAll (holes (sg 3).ro) r = true ∧ (nth r 2).i = 0 ∧ (nth r 0).at_ 6 = d := by
  rcases o with _ | ⟨b, r⟩
  · cases h
  · have h : cnd b (cnd (nA (holes (sg 3).ro) r) (cnd (dI_ (nthL .top r 2) == 0) (some (dA_ (nthL .top r 0) 6)) none) none) none = some d := h
    obtain ⟨h1, h⟩ := cnd_o h
    obtain ⟨h2, h⟩ := cnd_o h
    obtain ⟨h3, h⟩ := cnd_o h
    cases h
    rw [nA_eq] at h2
    rw [dI_eq, nthL_n] at h3
    exact ⟨r, by rw [h1], h2, eq_of_beq h3, by rw [dA_eq, nthL_n]⟩
set_option maxRecDepth 100000 in
theorem tx_cut (d : List UInt8) : ∀ g : Bool, txF d g = cA ++ (d ++ (cB ++ ((bif g then [45, 32] else []) ++ 249 :: cC)))
  | false => by kernel_rfl
  | true => by kernel_rfl
theorem dec_noMk {s : List UInt8} (h : ∀ b ∈ s, isDig b.toNat = true) : noMk s = true := by
  induction s with
  | nil => rfl
  | cons b s ih =>
    have hb := h b (List.mem_cons_self ..)
    unfold isDig at hb
    rw [Bool.and_eq_true] at hb
    have h2 := Nat.le_of_ble_eq_true hb.2
    show (!mkB b && noMk s) = true
    rw [ih fun u hu => h u (List.mem_cons_of_mem _ hu)]
    unfold mkB
    cases hc : Nat.ble 248 b.toNat with
    | false => rfl
    | true => have := Nat.le_of_ble_eq_true hc; omega
theorem tx_sg {d s : List UInt8} (hd : ∀ b ∈ d, isDig b.toNat = true) (g : Bool) : sgS (fun _ => s) (txF d g) = (((cA ++ d) ++ cB) ++ ((bif g then [45, 32] else []) ++ s)) ++ cC := by
  rw [tx_cut, sgS_app, sgS_app, sgS_app, sgS_app, sgS_no (s := cA) (by decide), sgS_no (s := cB) (by decide), sgS_no (dec_noMk hd)]
  have h1 : sgS (fun _ => s) (249 :: cC) = s ++ cC := by
    show s ++ sgS (fun _ => s) cC = _
    rw [sgS_no (s := cC) (by decide)]
  have h2 : sgS (fun _ => s) (bif g then [45, 32] else []) = (bif g then [45, 32] else []) := by cases g <;> rfl
  rw [h1, h2]
  simp only [List.append_assoc]
theorem dig_len3 : ∀ w, 1 ≤ w → w ≤ 128 → (dec (w - 1)).length ≤ 3 := by
  intro w _ h
  have : allLt (fun w => Nat.ble (dec (w - 1)).length 3) 129 = true := by decide +kernel
  exact Nat.le_of_ble_eq_true (allLt_at this w (by omega))
theorem ws_ok : allLt (fun w => allLt (fun g => (okWs (wsF (dec (w - 1)) (Nat.beq g 1)))) 2) 129 = true := by kernel_rfl
theorem ws_is {w : Nat} (h : w ≤ 128) : ∀ g, okWs (wsF (dec (w - 1)) g) = true
  | false => allLt_at (allLt_at ws_ok w (by omega)) 0 (by omega)
  | true => allLt_at (allLt_at ws_ok w (by omega)) 1 (by omega)
theorem tx_len {w : Nat} (h1 : 1 ≤ w) (h : w ≤ 128) (g : Bool) : (txF (dec (w - 1)) g).length ≤ 900 := by
  have := dig_len3 w h1 h
  rw [tx_cut]
  have e1 : cA.length ≤ 200 := by decide
  have e2 : cB.length ≤ 100 := by decide
  have e3 : cC.length ≤ 200 := by decide
  simp only [List.length_append, List.length_cons]
  have e4 : (bif g then [(45 : UInt8), 32] else []).length ≤ 2 := by cases g <;> decide
  omega
theorem st_sg {s : List UInt8} {w : Nat} {N : Int} : sgD (fun _ => s) (stF w N) = stF w N := by
  have : sgL (fun _ => s) (wds w N) = wds w N := by
    unfold wds
    cases Nat.blt w 64 <;> cases Nat.beq w 64 <;> cases Nat.blt w 128 <;> rfl
  show D.lst 3 [.agg [.int .i64 0, .int .i64 (w : Int), .lst 1 (sgL (fun _ => s) (wds w N))]] = _
  rw [this]; rfl
theorem design_is {w : Nat} (h1 : 1 ≤ w) (h2 : w ≤ 128) (g : Bool) {m : Nat} (hm : m ≤ 1073741824) :
    ∃ r, nrmAll (holes (sg 3).ro) r = true ∧ (nth r 2).i = 0 ∧ (nth r 0).at_ 6 = stF w (bif g then -(m : Int) else (m : Int)) ∧ Ru 3 [.str ((((cA ++ dec (w - 1)) ++ cB) ++ ((bif g then [45, 32] else []) ++ dec m)) ++ cC)] (true, r) := by
  have hd := dec_ok (m := m) (by omega)
  have hdw := dec_ok (m := w - 1) (by omega)
  have hF := fi_all w h1 h2 g (dec m).length (m : Int)
  unfold evF at hF
  rw [frcSp_eq, frcSp_eq, frhs_eq] at hF
  obtain ⟨r, hr, hn, h0, h6⟩ := prj_some hF
  obtain ⟨M, hM⟩ := tlN_is hd (x := wModule) (ws := wsF (dec (w - 1)) g) (y := wEnd) (by decide) (by decide) (by decide) (by decide) (ws_is h2 g) (tx_len h1 h2 g) (by
    cases g <;> simp [wsF, wA, wB])
  have := mgo_Ru (mk_dec hd) hM hr
  refine ⟨sgL (fun _ => dec m) r, by rw [sg_nrmAll]; exact hn, by rw [sgL_nth, sg_i]; exact h0, by rw [sgL_nth, sg_at, h6, st_sg], ?_⟩
  rw [← tx_sg hdw.dig g]
  exact this
theorem nrmLs_cons {sz : Nat} {ts : List LTy} {cs : List D} (h : nrmLs (.lst sz :: ts) cs = true) : ∃ l r, cs = .lst sz l :: r ∧ nrmLs ts r = true := by
  cases cs with
  | nil => cases h
  | cons c cs =>
    have h : (nrmL (.lst sz) c && nrmLs ts cs) = true := h
    rw [Bool.and_eq_true] at h
    cases c with
    | lst sz' l =>
      have e : Nat.beq sz sz' = true := h.1
      obtain rfl := Nat.eq_of_beq_eq_true e
      exact ⟨l, cs, rfl, h.2⟩
    | _ => exact absurd h.1 (by simp [nrmL])
theorem design_parts {r : List D} (h : nrmAll (holes (sg 3).ro) r = true) : ∃ a b c e f g h' p q, r = [.agg [.lst 4 a, .lst 3 b, .lst 1 c, .lst 1 e, .lst 5 f, .lst 1 g, .lst 3 h'], p, q] := by
  rw [show holes (sg 3).ro = [ty_l4l3l1l1l5l1l3, ty_iii, tI] by kernel_rfl] at h
  rcases r with _ | ⟨d, _ | ⟨p, _ | ⟨q, _ | ⟨x, r⟩⟩⟩⟩
  · cases h
  · rw [nrmAll, Bool.and_eq_true] at h; cases h.2
  · rw [nrmAll, nrmAll, Bool.and_eq_true, Bool.and_eq_true] at h; cases h.2.2
  · rw [nrmAll, Bool.and_eq_true] at h
    cases d with
    | agg cs =>
      have h1 : nrmLs [.lst 4, .lst 3, .lst 1, .lst 1, .lst 5, .lst 1, .lst 3] cs = true := h.1
      obtain ⟨a, cs1, rfl, h2⟩ := nrmLs_cons h1
      obtain ⟨b, cs2, rfl, h3⟩ := nrmLs_cons h2
      obtain ⟨c, cs3, rfl, h4⟩ := nrmLs_cons h3
      obtain ⟨e, cs4, rfl, h5⟩ := nrmLs_cons h4
      obtain ⟨f, cs5, rfl, h6⟩ := nrmLs_cons h5
      obtain ⟨g, cs6, rfl, h7⟩ := nrmLs_cons h6
      obtain ⟨h', cs7, rfl, h8⟩ := nrmLs_cons h7
      cases cs7 with
      | nil => exact ⟨a, b, c, e, f, g, h', p, q, rfl⟩
      | cons x y => cases h8
    | _ => exact absurd h.1 (by simp [nrm, ty_l4l3l1l1l5l1l3])
  · rw [nrmAll, nrmAll, nrmAll, Bool.and_eq_true, Bool.and_eq_true, Bool.and_eq_true] at h; cases h.2.2.2
set_option maxRecDepth 100000 in
theorem bits_loop {N : Int} (h1 : -1073741824 ≤ N) (h2 : N ≤ 1073741824) {w : Nat} (hw : w ≤ 128) {a b c e f g : List D} : ∀ (j i : Nat), i + j = w →
    Ru 453 [.int .i64 N, .int .i64 (w : Int), .int .i64 (i : Int), .lst 4 a, .lst 3 b, .lst 1 c, .lst 1 e, .lst 5 f, .lst 1 g, stF w N] (false, [.int .i64 N, .int .i64 (w : Int), .int .i64 (w : Int), .lst 4 a, .lst 3 b, .lst 1 c, .lst 1 e, .lst 5 f, .lst 1 g, stF w N])
  | 0, i, hij => by
    refine Ru_of q453 (by kernel_rfl) (l := 10) (by kernel_rfl) 0 fun k _ => ?_
    unfold p453
    refine (den_if ?_).trans ?_
    · show decide ((i : Int) < (w : Int)) = false
      exact decide_eq_false (by omega)
    show some (false, [D.int .i64 N, .int .i64 (w : Int), .int .i64 (i : Int), .lst 4 a, .lst 3 b, .lst 1 c, .lst 1 e, .lst 5 f, .lst 1 g, stF w N]) = _
    rw [show i = w by omega]
  | j + 1, i, hij => by
    obtain ⟨M, hM⟩ := bits_loop h1 h2 hw (a := a) (b := b) (c := c) (e := e) (f := f) (g := g) j (i + 1) (by omega)
    refine Ru_of q453 (by kernel_rfl) (l := 10) (by kernel_rfl) (M + 1) fun k hk => ?_
    obtain ⟨k', rfl⟩ : ∃ k', k = k' + 1 := ⟨k - 1, by omega⟩
    unfold p453
    refine (den_it ?_).trans ?_
    · show decide ((i : Int) < (w : Int)) = true
      exact decide_eq_true (by omega)
    refine (den_g rfl).trans ?_
    refine (den_g rfl).trans ?_
    refine (den_t rfl rfl).trans ?_
    refine (den_c (r := [.bool (sb N i)]) ?_ (by kernel_rfl)).trans ?_
    · show R (k' + 1) 289 [.agg [.int .i64 (w : Int), .lst 1 (wds w N)], .int .i64 (i : Int)] = _
      exact bit_of h1 h2 hw (show i < w by omega)
    rw [show (holes (sg 289).ro).length = 1 by kernel_rfl, den_l]
    refine (den_if ?_).trans ?_
    · show decide (min (i : Int) 62 < 0) = false
      exact decide_eq_false (by omega)
    rw [den_l, den_l]
    have hs : (IntKind.i64.wrap ((BitVec.ofInt (IntKind.i64).bits (N.fdiv (2 ^ (min (min (i : Int) 62).toNat (IntKind.i64).bits))) &&& BitVec.ofInt (IntKind.i64).bits 1).toNat : Int) == 1) = sb N i := by
      have e1 : min (min (i : Int) 62).toNat (IntKind.i64).bits = min i 62 := by
        show min (min (i : Int) 62).toNat 64 = min i 62
        omega
      rw [bit_i64, e1, pow_int, Int.fdiv_eq_ediv_of_nonneg _ (Int.natCast_nonneg _)]; rfl
    refine (den_if ?_).trans ?_
    · show (!(sb N i == (IntKind.i64.wrap ((BitVec.ofInt (IntKind.i64).bits (N.fdiv (2 ^ (min (min (i : Int) 62).toNat (IntKind.i64).bits))) &&& BitVec.ofInt (IntKind.i64).bits 1).toNat : Int) == 1))) = false
      rw [hs, beq_self_eq_true]; rfl
    rw [den_l]
    show R (k' + 1) 453 [.int .i64 N, .int .i64 (w : Int), .int .i64 (IntKind.i64.wrap ((i : Int) + 1)), .lst 4 a, .lst 3 b, .lst 1 c, .lst 1 e, .lst 5 f, .lst 1 g, stF w N] = _
    rw [wrap_succ (by omega)]
    exact hM _ (by omega)
set_option maxRecDepth 100000 in
theorem awake_is : Ru 1 [] (true, [.bool true]) := go_Ru (n := 1000) (by kernel_rfl)
noncomputable def errO (o : Out) : Option Int := Option.rec (motive := fun _ => Option Int) none (fun p => Prod.rec (motive := fun _ => Option Int) (fun b r => cnd b (cnd (nA (holes (sg 3).ro) r) (some (dI_ (nthL .top r 2))) none) none) p) o
theorem errO_some {f : Nat} {xs : List D} {n : Int} (h : errO (go 1000 f xs) = some n) : ∃ r, nrmAll (holes (sg 3).ro) r = true ∧ (nth r 2).i = n ∧ Ru f xs (true, r) := by
  generalize ho : go 1000 f xs = o at h
  rcases o with _ | ⟨b, r⟩
  · cases h
  · have h : cnd b (cnd (nA (holes (sg 3).ro) r) (some (dI_ (nthL .top r 2))) none) none = some n := h
    obtain ⟨h1, h⟩ := cnd_o h
    obtain ⟨h2, h⟩ := cnd_o h
    cases h
    rw [nA_eq] at h2
    exact ⟨r, h2, by rw [dI_eq, nthL_n], by rw [h1] at ho; exact go_Ru ho⟩
def t1 : List UInt8 := [109, 111, 100, 117, 108, 101, 32, 116, 111, 112, 32, 40, 32, 105, 110, 112, 117, 116, 32, 97, 32, 44, 32, 111, 117, 116, 112, 117, 116, 32, 114, 101, 103, 32, 113, 32, 61, 32, 49, 32, 41, 32, 59, 32, 97, 108, 119, 97, 121, 115, 32, 64, 32, 42, 32, 113, 32, 61, 32, 97, 32, 59, 32, 101, 110, 100, 109, 111, 100, 117, 108, 101]
def t2 : List UInt8 := [109, 111, 100, 117, 108, 101, 32, 116, 111, 112, 32, 40, 32, 105, 110, 112, 117, 116, 32, 99, 108, 107, 32, 44, 32, 111, 117, 116, 112, 117, 116, 32, 114, 101, 103, 32, 113, 32, 61, 32, 120, 32, 41, 32, 59, 32, 97, 108, 119, 97, 121, 115, 32, 64, 32, 40, 32, 112, 111, 115, 101, 100, 103, 101, 32, 99, 108, 107, 32, 41, 32, 113, 32, 60, 61, 32, 49, 32, 59, 32, 101, 110, 100, 109, 111, 100, 117, 108, 101]
set_option maxRecDepth 100000 in
theorem err1 : errO (go 1000 3 [.str t1]) = some 11 := by kernel_rfl
set_option maxRecDepth 100000 in
theorem err2 : errO (go 1000 3 [.str t2]) = some 9 := by kernel_rfl
noncomputable def b451 : T := match p451 with | .c _ _ _ (.i _ _ (.l _ (.l _ (.l _ (.l _ (.l _ (.l _ (.c _ _ _ (.j b _))))))))) => b | _ => .no
set_option maxRecDepth 100000 in
theorem body_is {N : Int} (h1 : -1073741824 ≤ N) (h2 : N ≤ 1073741824) {w : Nat} (hw1 : 1 ≤ w) (hw : w ≤ 128) {num : List UInt8} (hnum : num.length ≤ 100) {r : List D} (hr : nrmAll (holes (sg 3).ro) r = true) (hr0 : (nth r 2).i = 0) (hr6 : (nth r 0).at_ 6 = stF w N)
    (hd : Ru 3 [.str ((((cA ++ dec (w - 1)) ++ cB) ++ num) ++ cC)] (true, r)) : ∃ M, ∀ k, M ≤ k → ∀ V : Nat → D, V 4 = .int .i64 N → V 6 = .int .i64 (w : Int) → V 10 = .str num → b451.den sg (R k) [] 11 V = some (true, [.bool true]) := by
  have hdw := dec_ok (m := w - 1) (by omega)
  have hl3 := dig_len3 w hw1 hw
  obtain ⟨N1, n1⟩ := dec_is (m := w - 1) (by omega)
  obtain ⟨N2, n2⟩ := hd
  obtain ⟨a, b, c, e, f, g, h', p, q, rfl⟩ := design_parts hr
  have hst : D.lst 3 h' = stF w N := hr6
  obtain ⟨N3, n3⟩ := bits_loop h1 h2 hw (a := a) (b := b) (c := c) (e := e) (f := f) (g := g) w 0 (by omega)
  obtain ⟨r1, hr1, he1, N4, n4⟩ := errO_some err1
  obtain ⟨r2, hr2, he2, N5, n5⟩ := errO_some err2
  obtain ⟨N6, n6⟩ : Ru 109 [.agg [.int .i64 (w : Int), .lst 1 (wds w N)]] (true, [.int .i64 (w : Int)]) := Ru_of q109 (by kernel_rfl) (l := 1) (by kernel_rfl) 0 fun k _ => rfl
  refine ⟨N1 + N2 + N3 + N4 + N5 + N6, fun k hk V v4 v6 v10 => ?_⟩
  have c1 : cA.length ≤ 200 := by decide
  have c2 : cB.length ≤ 100 := by decide
  have c3 : cC.length ≤ 200 := by decide
  show T.den sg (R k) (.l _ (.c _ _ _ (.g _ (.l _ (.g _ (.l _ (.g _ (.l _ (.g _ (.l _ (.c _ _ _ _))))))))))) [] 11 V = _
  rw [den_l]
  refine (den_c (r := [.str (dec (w - 1))]) ?_ (by kernel_rfl)).trans ?_
  · show R k 452 [.int .i64 (IntKind.i64.wrap ((V 6).i - 1))] = _
    rw [v6]
    show R k 452 [.int .i64 (IntKind.i64.wrap ((w : Int) - 1))] = _
    rw [wrap_id (by omega) (by omega), show (w : Int) - 1 = ((w - 1 : Nat) : Int) by omega]
    exact n1 k (by omega)
  rw [show (holes (sg 452).ro).length = 1 by kernel_rfl]
  refine (den_g ?_).trans ?_
  · show decide (cA.length + (dec (w - 1)).length ≤ maxStr) = true
    exact decide_eq_true (by show _ ≤ 4611686018427387904; omega)
  rw [den_l]
  refine (den_g ?_).trans ?_
  · show decide ((cA ++ dec (w - 1)).length + cB.length ≤ maxStr) = true
    exact decide_eq_true (by show _ ≤ 4611686018427387904; simp only [List.length_append]; omega)
  rw [den_l]
  refine (den_g ?_).trans ?_
  · show decide (((cA ++ dec (w - 1)) ++ cB).length + (V 10).s.length ≤ maxStr) = true
    rw [v10]
    exact decide_eq_true (by show _ ≤ 4611686018427387904; simp only [List.length_append, D.s]; omega)
  rw [den_l]
  refine (den_g ?_).trans ?_
  · show decide ((((cA ++ dec (w - 1)) ++ cB) ++ (V 10).s).length + cC.length ≤ maxStr) = true
    rw [v10]
    exact decide_eq_true (by show _ ≤ 4611686018427387904; simp only [List.length_append, D.s]; omega)
  rw [den_l]
  refine (den_c (r := [.agg [.lst 4 a, .lst 3 b, .lst 1 c, .lst 1 e, .lst 5 f, .lst 1 g, .lst 3 h'], p, q]) ?_ hr).trans ?_
  · show R k 3 [.str ((((cA ++ dec (w - 1)) ++ cB) ++ (V 10).s) ++ cC)] = _
    rw [v10]; exact n2 k (by omega)
  rw [show (holes (sg 3).ro).length = 3 by kernel_rfl]
  have hq : q.i = 0 := hr0
  rw [hst]
  refine (den_if ?_).trans ?_
  · show (q.i != 0) = false
    rw [hq]; rfl
  refine (den_if rfl).trans ?_
  refine (den_g rfl).trans ?_
  refine (den_g rfl).trans ?_
  refine (den_t rfl rfl).trans ?_
  refine (den_if rfl).trans ?_
  refine (den_g rfl).trans ?_
  refine (den_g rfl).trans ?_
  refine (den_t rfl rfl).trans ?_
  refine (den_c (r := [.int .i64 (w : Int)]) (n6 k (by omega)) (by kernel_rfl)).trans ?_
  rw [show (holes (sg 109).ro).length = 1 by kernel_rfl]
  refine (den_if ?_).trans ?_
  · show ((w : Int) != (V 6).i) = false
    rw [v6]
    show ((w : Int) != (w : Int)) = false
    exact bne_self_eq_false _
  refine (den_o (r := [.int .i64 N, .int .i64 (w : Int), .int .i64 (w : Int), .lst 4 a, .lst 3 b, .lst 1 c, .lst 1 e, .lst 5 f, .lst 1 g, stF w N]) ?_ (by kernel_rfl)).trans ?_
  · show R k 453 [V 4, V 6, .int .i64 0, .lst 4 a, .lst 3 b, .lst 1 c, .lst 1 e, .lst 5 f, .lst 1 g, stF w N] = _
    rw [v4, v6]; exact n3 k (by omega)
  rw [show (holes (sg 453).ro).length = 10 by kernel_rfl]
  refine (den_c (r := r1) (n4 k (by omega)) hr1).trans ?_
  refine (den_c (r := r2) (n5 k (by omega)) hr2).trans ?_
  rw [show (holes (sg 3).ro).length = 3 by kernel_rfl]
  refine (den_it ?_).trans ?_
  · show ((nth r1 2).i == 11) = true
    rw [he1]; rfl
  show some (true, [D.bool ((nth r2 2).i == 9)]) = _
  rw [he2]; rfl
set_option maxRecDepth 100000 in
theorem elabFirsts_plain (n width : Int) : Ru 451 [.int .i64 n, .int .i64 width] (true, [.bool true]) := by
  obtain ⟨w, hw, hw1, hw2⟩ : ∃ w : Nat, (w : Int) = max 1 (min width 128) ∧ 1 ≤ w ∧ w ≤ 128 := ⟨(max 1 (min width 128)).toNat, by omega, by omega, by omega⟩
  obtain ⟨N, hN, h1, h2⟩ : ∃ N : Int, N = max (-1073741824) (min n 1073741824) ∧ -1073741824 ≤ N ∧ N ≤ 1073741824 := ⟨_, rfl, by omega, by omega⟩
  obtain ⟨m, hm, hm2⟩ : ∃ m : Nat, (m : Int) = max N (-N) ∧ m ≤ 1073741824 := ⟨(max N (-N)).toNat, by omega, by omega⟩
  obtain ⟨g, hg⟩ : ∃ g : Bool, g = decide (N < 0) := ⟨_, rfl⟩
  have hNg : (bif g then -(m : Int) else (m : Int)) = N := by
    rw [hg]
    by_cases h : N < 0
    · rw [decide_eq_true h, cond_true]; omega
    · rw [decide_eq_false h, cond_false]; omega
  obtain ⟨r, hr, hr0, hr6, hd⟩ := design_is hw1 hw2 g hm2
  rw [hNg] at hr6
  have hdm := dec_ok (m := m) (by omega)
  have hlen := hdm.len
  obtain ⟨M, hM⟩ := body_is h1 h2 hw1 hw2 (num := (bif g then [45, 32] else []) ++ dec m) (by
    rw [List.length_append]
    have : (bif g then [(45 : UInt8), 32] else []).length ≤ 2 := by cases g <;> decide
    omega) hr hr0 hr6 hd
  obtain ⟨N1, n1⟩ := awake_is
  obtain ⟨N2, n2⟩ := dec_is (m := m) (by omega)
  refine Ru_of q451 (by kernel_rfl) (l := 2) (by kernel_rfl) (N1 + N2 + M) fun k hk => ?_
  unfold p451
  refine (den_c (r := [.bool true]) (n1 k (by omega)) (by kernel_rfl)).trans ?_
  rw [show (holes (sg 1).ro).length = 1 by kernel_rfl]
  refine (den_if rfl).trans ?_
  rw [den_l, den_l, den_l, den_l, den_l, den_l]
  have e8 : max (max (-1073741824) (min n 1073741824)) (IntKind.i64.wrap (0 - max (-1073741824) (min n 1073741824))) = (m : Int) := by
    rw [← hN, wrap_id (by omega) (by omega)]; omega
  refine (den_c (r := [.str (dec m)]) ?_ (by kernel_rfl)).trans ?_
  · show R k 452 [.int .i64 (max (max (-1073741824) (min n 1073741824)) (IntKind.i64.wrap (0 - max (-1073741824) (min n 1073741824))))] = _
    rw [e8]; exact n2 k (by omega)
  rw [show (holes (sg 452).ro).length = 1 by kernel_rfl, den_j]
  have v4 : (D.int .i64 (max (-1073741824) (min n 1073741824))) = D.int .i64 N := by rw [hN]
  have v6 : (D.int .i64 (max 1 (min width 128))) = D.int .i64 (w : Int) := by rw [hw]
  cases hb : decide (N < 0) with
  | true =>
    rw [hb] at hg
    subst hg
    refine (den_it ?_).trans ?_
    · show decide (max (-1073741824) (min n 1073741824) < 0) = true
      rw [← hN]; exact hb
    refine (den_g ?_).trans ?_
    · show decide (2 + (dec m).length ≤ maxStr) = true
      exact decide_eq_true (by show _ ≤ 4611686018427387904; omega)
    rw [den_l, den_jp]
    unfold jmpTo
    exact hM k (by omega) _ v4 v6 rfl
  | false =>
    rw [hb] at hg
    subst hg
    refine (den_if ?_).trans ?_
    · show decide (max (-1073741824) (min n 1073741824) < 0) = false
      rw [← hN]; exact hb
    rw [den_jp]
    unfold jmpTo
    exact hM k (by omega) _ v4 v6 rfl
end Go.Proofs.YtpmjplpnpnmlcaaGreatDoor
