/- Literals: the four laws, plain. -/
import Derived.Test.YtkjocbdjenmegaaDoorRefD
namespace Go.Proofs.YtkjocbdjenmegaaDoor
open Go.AE
set_option linter.unusedVariables false
theorem awake02_run (n : Nat) : law02_awake (n + 60) = some (true, [.bool true]) := by kernel_rfl
theorem awake02 : Ev (fun n => law02_awake n) fun r => r = (true, [.bool true]) := by
  refine ⟨_, rfl, 60, fun n hn => ?_⟩
  obtain ⟨k, rfl⟩ : ∃ k, n = k + 60 := ⟨n - 60, by omega⟩
  exact awake02_run k
theorem plainF_ne {s : List UInt8} {e : Nat} (h : plainF s = .bad e) : e ≠ 0 := by
  cases s with
  | nil => cases h; decide
  | cons c t =>
    have h : (match digF 10 (c :: t) with | none => Num.bad 5 | some l => ofF (min (decV l) 2147483648)) = .bad e := h
    cases hF : digF 10 (c :: t) with
    | none => rw [hF] at h; cases h; decide
    | some l =>
      rw [hF] at h
      have h : (bif decide (min (decV l) 2147483648 < 2147483648) then Num.ok 32 (min (decV l) 2147483648) true false else .bad 3) = .bad e := h
      cases hd : decide (min (decV l) 2147483648 < 2147483648) with
      | true => rw [hd] at h; cases h
      | false => rw [hd] at h; cases h; decide
theorem based1_ne {t : List UInt8} {sg : Bool} {e : Nat} (h : based1 t sg = .bad e) : e ≠ 0 := by
  cases t with
  | nil => cases h; decide
  | cons c u =>
    have h : (bif baseN c == 0 then Bsd.bad 5 else .ok u (baseN c) sg) = .bad e := h
    cases hb : baseN c == 0 with
    | true => rw [hb] at h; cases h; decide
    | false => rw [hb] at h; cases h
theorem basedF_ne {s : List UInt8} {e : Nat} (h : basedF s = .bad e) : e ≠ 0 := by
  cases s with
  | nil => cases h; decide
  | cons c t =>
    have h : (bif isS c then based1 t true else based1 (c :: t) false) = .bad e := h
    cases hc : isS c with
    | true => rw [hc] at h; exact based1_ne (t := t) (sg := true) h
    | false => rw [hc] at h; exact based1_ne (t := c :: t) (sg := false) h
theorem tailN_ok (w : Nat) (sz : Bool) (b : Nat) (sg : Bool) (u : List UInt8) (hsz : sz = false → w = 32) : Num.Ok (tailN w sz b sg u) := by
  cases u with
  | nil => exact (by decide : (6 : Nat) ≠ 0)
  | cons c t =>
    show Num.Ok (match digF b (c :: t) with | none => .bad 5 | some l => bif decide (w < 1) then .bad 2 else bif decide (w > 128) then .bad 2 else .ok w (valB b l % 2 ^ w) sg sz)
    cases digF b (c :: t) with
    | none => exact (by decide : (5 : Nat) ≠ 0)
    | some l =>
      show Num.Ok (bif decide (w < 1) then .bad 2 else bif decide (w > 128) then .bad 2 else .ok w (valB b l % 2 ^ w) sg sz)
      by_cases h1 : w < 1
      · rw [decide_eq_true h1]; exact (by decide : (2 : Nat) ≠ 0)
      · rw [decide_eq_false h1]
        by_cases h2 : w > 128
        · rw [decide_eq_true h2]; exact (by decide : (2 : Nat) ≠ 0)
        · rw [decide_eq_false h2]
          exact ⟨by omega, by omega, Nat.mod_lt _ (two_pos w), hsz⟩
theorem tailF_ok (w : Nat) (sz : Bool) (r : List UInt8) (hsz : sz = false → w = 32) : Num.Ok (tailF w sz r) := by
  rw [tailF_eq]
  unfold tailB
  cases hb : basedF r with
  | bad e => exact basedF_ne hb
  | ok t b sg => exact tailN_ok w sz b sg t hsz
theorem plainF_ok (s : List UInt8) : Num.Ok (plainF s) := by
  cases hp : plainF s with
  | bad e => exact plainF_ne hp
  | ok w n sg sz =>
    cases s with
    | nil => cases hp
    | cons c t =>
      have h : (match digF 10 (c :: t) with | none => Num.bad 5 | some l => ofF (min (decV l) 2147483648)) = .ok w n sg sz := hp
      cases hF : digF 10 (c :: t) with
      | none => rw [hF] at h; cases h
      | some l =>
        rw [hF] at h
        have h : (bif decide (min (decV l) 2147483648 < 2147483648) then Num.ok 32 (min (decV l) 2147483648) true false else .bad 3) = .ok w n sg sz := h
        cases hd : decide (min (decV l) 2147483648 < 2147483648) with
        | false => rw [hd] at h; cases h
        | true =>
          rw [hd] at h
          cases h
          have := of_decide_eq_true hd
          exact ⟨by decide, by decide, by have : (2 : Nat) ^ 32 = 4294967296 := rfl; omega, fun _ => rfl⟩
theorem parseF_ok (s : List UInt8) : Num.Ok (parseF s) := by
  unfold parseF
  cases cutQ s with
  | none => exact plainF_ok s
  | some p =>
    obtain ⟨a, r⟩ := p
    cases a with
    | nil => exact tailF_ok 32 false r fun _ => rfl
    | cons c u =>
      show Num.Ok (match digF 10 (c :: u) with | none => .bad 5 | some l => tailF (min (decV l) 129) true r)
      cases digF 10 (c :: u) with
      | none => exact (by decide : (5 : Nat) ≠ 0)
      | some l => exact tailF_ok _ true r fun h => by cases h
def boolsN (w n : Nat) : List Bool := (List.range w).map fun i => n.testBit i
theorem boolsN_D (w n : Nat) : (boolsN w n).map bD = bitsD w n := by simp [boolsN, bitsD, bD, List.map_map]
theorem told_is {w n : Nat} (h2 : w ≤ 128) (hn : n < 2 ^ w) (sg sz : Bool) : Ev (fun k => law02_Told k (.agg [.int .i64 (w : Int), .lst 1 (wordsN w n), .bool sg, .bool sz])) fun r => r = (true, [.agg [.lst 1 (bitsD w n), .bool sg, .bool sz]]) :=
  Ev.eq (fun k => law02_Told_eq k _ _ _ _) (evCall (Bits_is h2 hn) (Ev.yes rfl (Ev.ret rfl)))
theorem told0_is : Ev (fun k => law02_Told k (.agg [.int .i64 0, .lst 1 [], .bool false, .bool false])) fun r => r = (true, [.agg [.lst 1 [], .bool false, .bool false]]) := by
  refine Ev.eq (fun k => law02_Told_eq k _ _ _ _) (evCall (ds := [.lst 1 []]) ?_ (Ev.yes rfl (Ev.ret rfl)))
  refine Ev.eq (fun n => bv_Vec_Bits_eq n _ _) (Ev.yes rfl (evLoop (ds := [.int .i64 0, .int .i64 0, .int .i64 0, .lst 1 [], .lst 1 []]) (Ev.eq (fun n => bv_Vec_Bits_L0_eq n _ _ _ _ _) (Ev.no rfl (Ev.ret rfl))) (Ev.yes rfl (Ev.ret rfl))))
theorem same_is (a b : List Bool) (ha : a.length ≤ 4611686018427387903) (s1 z1 s2 z2 : Bool) : Ev (fun k => ref02_Same k (.agg [.lst 1 (a.map bD), .bool s1, .bool z1]) (.agg [.lst 1 (b.map bD), .bool s2, .bool z2])) fun r => r = (true, [.bool (decide (a = b) && (s1 == s2) && (z1 == z2))]) := by
  refine Ev.eq (fun k => ref02_Same_eq k _ _ _ _ _ _) (evCall (Equal_is a b ha) (Ev.yes rfl ?_))
  cases decide (a = b) with
  | false => exact Ev.no rfl (Ev.ret rfl)
  | true =>
    refine Ev.yes rfl ?_
    cases hs : s1 == s2 with
    | false => exact Ev.no rfl (Ev.ret rfl)
    | true => exact Ev.yes rfl (Ev.ret rfl)
theorem same_self {w : Nat} (hw : w ≤ 1000) (n : Nat) (sg sz : Bool) : Ev (fun k => ref02_Same k (.agg [.lst 1 (bitsD w n), .bool sg, .bool sz]) (.agg [.lst 1 (bitsD w n), .bool sg, .bool sz])) fun r => r = (true, [.bool true]) := by
  have h := same_is (boolsN w n) (boolsN w n) (by simp [boolsN]; omega) sg sz sg sz
  rw [boolsN_D] at h
  refine h.mono fun r hr => ?_
  rw [hr]; simp
theorem same0 : Ev (fun k => ref02_Same k (.agg [.lst 1 [], .bool false, .bool false]) (.agg [.lst 1 [], .bool false, .bool false])) fun r => r = (true, [.bool true]) := by
  have h := same_is [] [] (by simp) false false false false
  refine h.mono fun r hr => ?_
  rw [hr]; rfl
theorem litParses_plain (s : List UInt8) : Ev (fun n => law02_LitParses n (.str s)) fun r => r = (true, [.bool true]) := by
  have j1 : ∀ t : List UInt8, t.length ≤ 200 → Ev (fun n => law02_LitParses_j1 n t) fun r => r = (true, [.bool true]) := by
    intro t ht
    refine evDfn (fun n => law02_LitParses_j1_def n _) (evCall (parse_is (by omega)) ?_)
    have hok := parseF_ok t
    have hr := rparse_is (s := t) (by omega)
    cases hp : parseF t with
    | bad e =>
      rw [hp] at hok hr
      have he : e ≠ 0 := hok
      refine Ev.yes rfl (evCall hr (Ev.yes rfl (Ev.no (by show ((e : Int) != (e : Int)) = false; simp) (evCall told0_is (Ev.yes rfl (evCall same0 (Ev.yes rfl (evDfn (fun n => law02_LitParses_j2_def n _ _ _) (Ev.no rfl (Ev.yes ?_ (Ev.ret rfl)))))))))))
      show ((e : Int) != 0) = true
      simp; omega
    | ok w n sg sz =>
      rw [hp] at hok hr
      obtain ⟨h1, h2, hn, hz⟩ := hok
      have hz' : sz = true ∨ w = 32 := by
        cases sz with
        | true => exact .inl rfl
        | false => exact .inr (hz rfl)
      have hround := round h1 h2 hn sg sz hz'
      have htl : (textF w n sg sz).length ≤ 1048576 := by
        have hh := hexF_len (n := n) h2
        have i1 := itoa_len (w : Int)
        have i2 := itoa_len ((min n 2147483648 : Nat) : Int)
        unfold textF
        cases decide (w = 0) <;> cases (!sz && decide (w ≠ 32)) <;> cases plainT n sg sz <;> cases sz <;> cases sg <;> simp <;> omega
      have hp2 := parse_is htl
      rw [hround] at hp2
      refine Ev.yes rfl (evCall hr (Ev.yes rfl (Ev.no rfl (evCall (told_is h2 hn sg sz) (Ev.yes rfl (evCall (same_self (by omega) n sg sz) (Ev.yes rfl (evDfn (fun n => law02_LitParses_j2_def n _ _ _) (Ev.no rfl (Ev.no rfl ?_))))))))))
      refine evCall (text_is h1 h2 hn sg sz) (Ev.yes rfl (evCall hp2 (Ev.yes rfl (evCall (rtext_is h1 (by omega) hn sg sz) (Ev.yes rfl (Ev.yes (by simp [nth, D.s]) (Ev.yes rfl ?_)))))))
      refine evCall (told_is h2 hn sg sz) (Ev.yes rfl (evCall (same_self (by omega) n sg sz) (Ev.yes rfl (Ev.yes rfl (evCall (text_is h1 h2 hn sg sz) (Ev.yes rfl (Ev.ret ?_)))))))
      simp [nth, D.s]
  refine Ev.eq (fun n => law02_LitParses_eq n s) (evCall awake02 (Ev.yes rfl (Ev.no rfl (Ev.test (fun h => ?_) fun h => ?_))))
  · have h : (s.length : Int) > 200 := of_decide_eq_true h
    exact Ev.yes (and_tt rfl (decide_eq_true (by omega))) (j1 _ (by simp; omega))
  · have h : ¬ (s.length : Int) > 200 := of_decide_eq_false h
    exact j1 s (by omega)
def litR (l : List Bool) (sg sz : Bool) : D := .agg [.lst 1 (l.map bD), .bool sg, .bool sz]
theorem own2_is (l : List Bool) (sg sz : Bool) : Ev (fun n => law02_Own n (litR l sg sz)) fun r => r = (true, [if 1 ≤ l.length ∧ l.length ≤ 128 then .agg [.int .i64 (l.length : Int), .lst 1 (wordsN l.length (numB l)), .bool sg, .bool sz] else .agg [.int .i64 0, .lst 1 [], .bool sg, .bool sz], .bool (decide (l.length ≤ 128))]) := by
  refine Ev.eq (fun n => law02_Own_eq n _ _ _) (evCall (own1_is l) ?_)
  rw [List.length_map]
  have hd : decide ((l.length : Int) ≤ 128) = decide (l.length ≤ 128) := by
    by_cases h : l.length ≤ 128
    · rw [decide_eq_true h, decide_eq_true (by omega)]
    · rw [decide_eq_false h, decide_eq_false (by omega)]
  rw [hd]
  unfold ownVec
  by_cases h : 1 ≤ l.length ∧ l.length ≤ 128
  · rw [if_pos h, if_pos h]
    exact Ev.yes rfl (Ev.ret rfl)
  · rw [if_neg h, if_neg h]
    exact Ev.yes rfl (Ev.ret rfl)
theorem litTexts_plain (l : List Bool) (sg sz : Bool) : Ev (fun n => law02_LitTexts n (litR l sg sz)) fun r => r = (true, [.bool true]) := by
  refine Ev.eq (fun n => law02_LitTexts_eq n _ _ _) (evCall awake02 (Ev.yes rfl (Ev.no rfl ?_)))
  refine evCall (own2_is l sg sz) ?_
  by_cases h128 : l.length ≤ 128
  · rw [decide_eq_true h128]
    by_cases h0 : 1 ≤ l.length
    · rw [if_pos ⟨h0, h128⟩]
      have hn := numB_lt l
      have hb := bits_of l
      have ht := text_is h0 h128 hn sg sz
      have hrt := rtext_is h0 (by omega) hn sg sz
      have hi := Int_is h0 h128 hn sg sz
      have hri := rInt_is h0 (by omega) hn sg sz
      rw [← hb] at hrt hri
      refine Ev.yes rfl (Ev.no rfl (evCall ht (Ev.yes rfl (evCall hrt (Ev.yes rfl (Ev.no (by simp [nth, D.s]) (evCall hi (Ev.yes rfl (evCall hri (Ev.yes rfl (Ev.no (by simp [nth, D.i]) ?_)))))))))))
      have he : ((nth [D.int .i64 (intF l.length (numB l) sg).1, iD (intF l.length (numB l) sg).2] 1).i != (nth [D.int .i64 (intF l.length (numB l) sg).1, iD (intF l.length (numB l) sg).2] 1).i) = false := by simp
      rw [he]
      refine evDfn (fun n => law02_LitTexts_j1_def n _ _ _ _ _) (Ev.no rfl ?_)
      rw [List.length_map]
      by_cases hz : sz = true ∨ l.length = 32
      · have hround := round h0 h128 hn sg sz hz
        have hne : (textF l.length (numB l) sg sz == ([] : List UInt8)) = false := by
          cases ht' : textF l.length (numB l) sg sz with
          | nil => rw [ht'] at hround; cases hround
          | cons _ _ => rfl
        have htl : (textF l.length (numB l) sg sz).length ≤ 1048576 := by
          have hh := hexF_len (n := numB l) h128
          have i1 := itoa_len (l.length : Int)
          have i2 := itoa_len ((min (numB l) 2147483648 : Nat) : Int)
          unfold textF
          cases decide (l.length = 0) <;> cases (!sz && decide (l.length ≠ 32)) <;> cases plainT (numB l) sg sz <;> cases sz <;> cases sg <;> simp <;> omega
        have hp2 := parse_is htl
        rw [hround] at hp2
        have hs := same_self (w := l.length) (by omega) (numB l) sg sz
        refine Ev.no hne (evCall hp2 (Ev.yes rfl (Ev.yes rfl (evCall (told_is h128 hn sg sz) (Ev.yes rfl ?_)))))
        rw [hb]
        exact evCall hs (Ev.yes rfl (Ev.ret rfl))
      · have hsz : sz = false := by
          cases sz with
          | true => exact absurd (.inl rfl) hz
          | false => rfl
        subst hsz
        have h32 : l.length ≠ 32 := fun e => hz (.inr e)
        have hnil : textF l.length (numB l) sg false = [] := by
          unfold textF
          rw [decide_eq_false (show ¬ l.length = 0 by omega), decide_eq_true h32]; rfl
        refine Ev.yes (by show (textF l.length (numB l) sg false == ([] : List UInt8)) = true; rw [hnil]; rfl) (Ev.no (ne_zero h0) (Ev.yes rfl (Ev.ret ?_)))
        have : ((l.length : Int) != 32) = true := by simp; omega
        rw [this]
    · have hnil : l = [] := List.eq_nil_of_length_eq_zero (by omega)
      subst hnil
      rw [if_neg (by simp)]
      refine Ev.yes rfl (Ev.no rfl (evCall (text0_is [] sg sz) (Ev.yes rfl (evCall (rtext0_is sg sz) (Ev.yes rfl (Ev.no rfl (evCall (Int0_is [] sg sz) (Ev.yes rfl (evCall (rInt0_is sg sz) (Ev.yes rfl (Ev.no rfl ?_)))))))))))
      exact evDfn (fun n => law02_LitTexts_j1_def n _ _ _ _ _) (Ev.no rfl (Ev.yes rfl (Ev.yes rfl (Ev.ret rfl))))
  · rw [decide_eq_false h128, if_neg (by omega)]
    exact Ev.yes rfl (Ev.yes rfl (Ev.ret rfl))
theorem numB_inj {a b : List Bool} (hl : a.length = b.length) (h : numB a = numB b) : a = b := by
  have ha := bits_of a
  have hb := bits_of b
  rw [hl, h, ← hb] at ha
  exact List.map_inj_right (fun x y e => by cases e; rfl) |>.1 ha
theorem litUnlike_plain (a b : List Bool) (s1 z1 s2 z2 : Bool) : Ev (fun n => law02_LitUnlike n (litR a s1 z1) (litR b s2 z2)) fun r => r = (true, [.bool true]) := by
  have own : ∀ (l : List Bool) (sg sz : Bool), ∃ x, Ev (fun n => law02_Own n (litR l sg sz)) (fun r => r = (true, [x, .bool (decide (l.length ≤ 128))])) ∧ expTy ty_il1bb x = x ∧ (∀ b : Bool, chk law02_Own.osk [x, .bool b] = true) ∧
      (l.length ≤ 128 → ∃ t, Ev (fun n => lit_Lit_Text n x) (fun r => r = (true, [.str t])) ∧ (t ≠ [] → 1 ≤ l.length ∧ t = textF l.length (numB l) sg sz ∧ (sz = true ∨ l.length = 32))) := by
    intro l sg sz
    by_cases h : 1 ≤ l.length ∧ l.length ≤ 128
    · refine ⟨_, own2_is l sg sz, ?_, ?_, fun _ => ⟨textF l.length (numB l) sg sz, ?_, ?_⟩⟩
      · rw [if_pos h]; rfl
      · intro b; rw [if_pos h]; rfl
      · rw [if_pos h]; exact text_is h.1 h.2 (numB_lt l) sg sz
      · intro hne
        refine ⟨h.1, rfl, ?_⟩
        cases sz with
        | true => exact .inl rfl
        | false =>
          refine .inr ?_
          by_cases h32 : l.length = 32
          · exact h32
          · exfalso
            apply hne
            unfold textF
            rw [decide_eq_false (show ¬ l.length = 0 by omega), decide_eq_true h32]; rfl
    · refine ⟨_, own2_is l sg sz, ?_, ?_, fun _ => ⟨[], ?_, fun h => absurd rfl h⟩⟩
      · rw [if_neg h]; rfl
      · intro b; rw [if_neg h]; rfl
      · rw [if_neg h]; exact text0_is [] sg sz
  obtain ⟨x, hx, ex, cx, tx⟩ := own a s1 z1
  obtain ⟨y, hy, ey, cy, ty⟩ := own b s2 z2
  have jt : Ev (fun n => law02_LitUnlike_j1 n true [x, .bool (decide (a.length ≤ 128))] [y, .bool (decide (b.length ≤ 128))] (a.map bD) s1 z1 (b.map bD) s2 z2) fun r => r = (true, [.bool true]) :=
    evDfn (fun n => law02_LitUnlike_j1_def n _ _ _ _ _ _ _ _ _) (Ev.yes rfl (Ev.ret rfl))
  refine Ev.eq (fun n => law02_LitUnlike_eq n _ _ _ _ _ _) (evCall awake02 (Ev.yes rfl (Ev.no rfl (evCall hx (Ev.yes (cx _) (evCall hy (Ev.yes (cy _) ?_)))))))
  by_cases ha : a.length ≤ 128
  · refine Ev.no (by rw [decide_eq_true ha]; rfl) ?_
    by_cases hb : b.length ≤ 128
    · refine Ev.no (by rw [decide_eq_true hb]; rfl) ?_
      obtain ⟨t, ht, htn⟩ := tx ha
      obtain ⟨u, hu, hun⟩ := ty hb
      have ht' : Ev (fun n => lit_Lit_Text n (expTy ty_il1bb (nth [x, .bool (decide (a.length ≤ 128))] 0))) fun r => r = (true, [.str t]) := by
        show Ev (fun n => lit_Lit_Text n (expTy ty_il1bb x)) _
        rw [ex]; exact ht
      have hu' : Ev (fun n => lit_Lit_Text n (expTy ty_il1bb (nth [y, .bool (decide (b.length ≤ 128))] 0))) fun r => r = (true, [.str u]) := by
        show Ev (fun n => lit_Lit_Text n (expTy ty_il1bb y)) _
        rw [ey]; exact hu
      refine evCall ht' (Ev.yes rfl ?_)
      cases hte : t == ([] : List UInt8) with
      | true => exact Ev.yes hte jt
      | false =>
        refine Ev.no hte (evCall hu' (Ev.yes rfl ?_))
        show Ev (fun n => law02_LitUnlike_j1 n (u == ([] : List UInt8)) _ _ _ _ _ _ _ _) _
        cases hue : u == ([] : List UInt8) with
        | true => exact jt
        | false =>
          refine evDfn (fun n => law02_LitUnlike_j1_def n _ _ _ _ _ _ _ _ _) (Ev.no rfl (evCall ht' (Ev.yes rfl (evCall hu' (Ev.yes rfl (evCall (same_is a b (by omega) s1 z1 s2 z2) (Ev.yes rfl (Ev.ret ?_)))))))) 
          obtain ⟨a1, a2, a3⟩ := htn (by intro e; rw [e] at hte; cases hte)
          obtain ⟨b1, b2, b3⟩ := hun (by intro e; rw [e] at hue; cases hue)
          have ra := round a1 ha (numB_lt a) s1 z1 a3
          have rb := round b1 hb (numB_lt b) s2 z2 b3
          rw [← a2] at ra
          rw [← b2] at rb
          show (true, [D.bool ((t == u) == (decide (a = b) && (s1 == s2) && (z1 == z2)))]) = _
          cases htu : t == u with
          | true =>
            have e : t = u := eq_of_beq htu
            rw [e, rb] at ra
            injection ra with e1 e2 e3 e4
            have eab : a = b := numB_inj e1.symm e2.symm
            subst eab; subst e3; subst e4
            simp
          | false =>
            have : (decide (a = b) && (s1 == s2) && (z1 == z2)) = false := by
              cases hh : (decide (a = b) && (s1 == s2) && (z1 == z2)) with
              | false => rfl
              | true =>
                exfalso
                simp only [Bool.and_eq_true, decide_eq_true_eq] at hh
                obtain ⟨⟨h1, h2⟩, h3⟩ := hh
                have h2 := eq_of_beq h2
                have h3 := eq_of_beq h3
                subst h1; subst h2; subst h3
                rw [a2, b2] at htu
                simp at htu
            rw [this]; rfl
    · exact Ev.yes (by rw [decide_eq_false hb]; rfl) jt
  · exact Ev.yes (by rw [decide_eq_false ha]; rfl) jt
theorem of_neg {x : Int} (h : x < 0) : Ev (fun n => lit_Of n (.int .i64 x)) fun r => r = (true, (Num.bad 3).own) :=
  Ev.eq (fun n => lit_Of_eq n _) (Ev.yes (decide_eq_true h) (evDfn (fun n => lit_Of_j1_def n _ _) (Ev.yes rfl (Ev.ret rfl))))
theorem litNumbers_plain {x : Int} (hx : x < 9223372036854775808) : Ev (fun n => law02_LitNumbers n (.int .i64 x)) fun r => r = (true, [.bool true]) := by
  have jb : Ev (fun n => law02_LitNumbers_j1 n true (Num.bad 3).own x) fun r => r = (true, [.bool true]) :=
    evDfn (fun n => law02_LitNumbers_j1_def n _ _ _) (Ev.yes rfl (Ev.yes rfl (evCall (width_is _ _) (Ev.yes rfl (Ev.ret rfl)))))
  refine Ev.eq (fun n => law02_LitNumbers_eq n _) (evCall awake02 (Ev.yes rfl (Ev.no rfl ?_)))
  by_cases h0 : x < 0
  · exact evCall (of_neg h0) (Ev.yes rfl (Ev.yes (decide_eq_true h0) jb))
  · obtain ⟨u, rfl⟩ : ∃ u : Nat, x = (u : Int) := ⟨x.toNat, by omega⟩
    have hof := of_is (x := u) (by omega)
    by_cases h31 : u < 2147483648
    · have e : ofF u = .ok 32 u true false := by
        unfold ofF
        rw [decide_eq_true h31]; rfl
      rw [e] at hof
      have hn : u < 2 ^ 32 := by have : (2 : Nat) ^ 32 = 4294967296 := rfl; omega
      have hbit : u.testBit 31 = false := Nat.testBit_lt_two_pow (by have : (2 : Nat) ^ 31 = 2147483648 := rfl; omega)
      have hround := round (w := 32) (by decide) (by decide) hn true false (.inr rfl)
      have htext : textF 32 u true false = itoaS (u : Int) := by
        unfold textF plainT
        rw [hbit]
        show itoaS ((min u 2147483648 : Nat) : Int) = _
        rw [Nat.min_eq_left (by omega)]
      have hint : intF 32 u true = ((u : Int), 0) := by
        unfold intF
        rw [show (true && u.testBit (32 - 1)) = false from by rw [show 32 - 1 = 31 from rfl, hbit]; rfl, decide_eq_false (show ¬ u ≥ 2147483648 by omega)]; rfl
      have hi := Int_is (w := 32) (by decide) (by decide) hn true false
      rw [hint] at hi
      have ht := text_is (w := 32) (by decide) (by decide) hn true false
      rw [htext] at ht hround
      have hl := itoa_len (u : Int)
      have hp := parse_is (s := itoaS (u : Int)) (by omega)
      rw [hround] at hp
      have hd := dec_is (u := u) (by omega)
      refine evCall hof (Ev.yes rfl (Ev.no (decide_eq_false (by omega)) ?_))
      rw [decide_eq_false (show ¬ (u : Int) ≥ 2147483648 by omega)]
      refine evDfn (fun n => law02_LitNumbers_j1_def n _ _ _) (Ev.no rfl (evCall hi (Ev.yes rfl (evCall hd (Ev.yes rfl (evCall hp (Ev.yes rfl (Ev.yes rfl (Ev.yes rfl (Ev.yes rfl (Ev.yes (by simp [nth, D.i]) ?_)))))))))))
      refine evCall ht (Ev.yes rfl (evCall hd (Ev.yes rfl (Ev.yes (by simp [nth, D.s]) ?_))))
      exact evCall (told_is (by decide) hn true false) (Ev.yes rfl (evCall (told_is (by decide) hn true false) (Ev.yes rfl (evCall (same_self (by decide) u true false) (Ev.yes rfl (Ev.ret rfl))))))
    · have e : ofF u = .bad 3 := by
        unfold ofF
        rw [decide_eq_false h31]; rfl
      rw [e] at hof
      refine evCall hof (Ev.yes rfl (Ev.no (decide_eq_false (by omega)) ?_))
      rw [decide_eq_true (show (u : Int) ≥ 2147483648 by omega)]
      exact jb
end Go.Proofs.YtkjocbdjenmegaaDoor
