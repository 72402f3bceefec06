/- Words: Lex over pieces, few pieces, the lexer is awake. -/
import Derived.Test.YtalibicpmfbieaaGreatDoorLexPiece
namespace Go.Proofs.YtalibicpmfbieaaGreatDoor
open Go.AE
set_option linter.unusedVariables false
set_option linter.unusedSimpArgs false
def IsP (L : Nat) (y : D) : Prop := ∃ (t : List UInt8) (p0 p1 p2 : Int) (fx : Bool), y = pieceD t p0 p1 p2 fx ∧ t.length ≤ L
/-- What single pieces come to. -/
abbrev PR := Option (Int × Int × Int × Int) × List D
def PieceIs (y : D) (p : PR) : Prop := Toks p.2 ∧ p.2.length ≤ 300 ∧ (∀ a b c e, p.1 = some (a, b, c, e) → e ≠ 0) ∧ ∀ out : List D, out.length + 300 ≤ 12000 → Ev (fun n => lex_piece n y (.lst 5 out)) fun r => r = pieceOut p.1 out p.2
theorem pieceIs {y : D} (h : IsP 300 y) : ∃ p, PieceIs y p := by
  obtain ⟨t, p0, p1, p2, fx, rfl, ht⟩ := h
  obtain ⟨R, ts, h1, h2, h3, h4⟩ := piece_ev (t := t) (by omega) p0 p1 p2 fx
  exact ⟨(R, ts), h1, Nat.le_trans h2 ht, h3, fun out ho => h4 out (by omega)⟩
inductive All2 : List D → List PR → Prop
  | nil : All2 [] []
  | cons {y p ys ps} : IsP 300 y → PieceIs y p → All2 ys ps → All2 (y :: ys) (p :: ps)
theorem all2_of : ∀ {ys : List D}, (∀ y ∈ ys, IsP 300 y) → ∃ ps, All2 ys ps
  | [], _ => ⟨[], .nil⟩
  | y :: ys, h => by
    obtain ⟨p, hp⟩ := pieceIs (h y (List.mem_cons_self ..))
    obtain ⟨ps, hps⟩ := all2_of (ys := ys) fun z hz => h z (List.mem_cons_of_mem _ hz)
    exact ⟨p :: ps, .cons (h y (List.mem_cons_self ..)) hp hps⟩
def lexOut : List PR → List D → Bool × List D
  | [], out => pieceOut none out []
  | (none, ts) :: ps, out => lexOut ps (out ++ ts)
  | (some q, _) :: _, out => pieceOut (some q) out []
theorem all2_len {ys ps} (h : All2 ys ps) : ys.length = ps.length := by
  induction h with
  | nil => rfl
  | cons _ _ _ ih => simp [ih]
theorem all2_get {ys ps} (h : All2 ys ps) {j : Nat} (hj : j < ys.length) : ∃ p, ps.drop j = p :: ps.drop (j + 1) ∧ PieceIs ys[j] p ∧ IsP 300 ys[j] := by
  induction h generalizing j with
  | nil => simp at hj
  | @cons y p ys ps h1 h2 h3 ih =>
    cases j with
    | zero => exact ⟨p, rfl, h2, h1⟩
    | succ j => exact ih (by simpa using hj)
theorem isP_ok {y : D} (h : IsP 300 y) : (notAny ty_siiib && okTy ty_siiib y) = true ∧ expTy ty_siiib y = y := by
  obtain ⟨t, p0, p1, p2, fx, rfl, _⟩ := h
  exact ⟨rfl, rfl⟩
theorem lex_ev {ys ps} (h : All2 ys ps) (hl : ys.length ≤ 30) : Ev (fun n => lex_Lex n (.lst 5 ys)) fun r => r = lexOut ps [] := by
  refine Ev.eq (fun n => lex_Lex_eq n ys) ?_
  have loop : ∀ (m j : Nat) (out : List D), ys.length - j = m → j ≤ ys.length → out.length ≤ 300 * j →
      Ev (fun n => lex_Lex_L0 n (.lst 5 ys) (.int .i64 (ys.length : Int)) (.int .i64 (j : Int)) (.int .i64 0) (.int .i64 0) (.int .i64 0) (.lst 5 out)) fun r =>
        r = lexOut (ps.drop j) out ∧ r.2.getD 1 D.top ≠ .int .i64 0 ∧ r.1 = true ∨ ∃ (j' : Int) (out' : List D), r = (false, [.lst 5 ys, .int .i64 (ys.length : Int), .int .i64 j', .int .i64 0, .int .i64 0, .int .i64 0, .lst 5 out']) ∧ lexOut (ps.drop j) out = pieceOut none out' [] := by
    intro m
    induction m with
    | zero =>
      intro j out hm hj ho
      refine Ev.eq (fun n => lex_Lex_L0_eq n _ _ _ _ _ _ _) (Ev.no (decide_eq_false (by omega)) (Ev.ret (.inr ⟨_, out, rfl, ?_⟩)))
      rw [List.drop_eq_nil_of_le (by rw [← all2_len h]; omega)]; rfl
    | succ m ih =>
      intro j out hm hj ho
      have hj2 : j < ys.length := by omega
      have hw : IntKind.i64.wrap ((j : Int) + 1) = ((j + 1 : Nat) : Int) := wrap_succ (by omega)
      obtain ⟨⟨R, ts⟩, hd, ⟨_, htl, hR, hev⟩, hy⟩ := all2_get h hj2
      obtain ⟨hy1, hy2⟩ := isP_ok hy
      refine Ev.eq (fun n => lex_Lex_L0_eq n _ _ _ _ _ _ _) (Ev.yes (decide_eq_true (by omega)) (Ev.yes (in_range hj2) ?_))
      rw [get_nat hj2, hw, hy2, hd]
      refine Ev.yes hy1 (Ev.bindC (hev out (by omega)) ?_)
      cases R with
      | none =>
        intro _ _ h; cases h; refine ⟨rfl, Ev.yes rfl (Ev.no rfl ?_)⟩
        exact ih (j + 1) (out ++ ts) (by omega) hj2 (by simp only [List.length_append] at *; omega)
      | some q =>
        obtain ⟨a, b, c, e⟩ := q
        have he := hR a b c e rfl
        intro _ _ h; cases h; refine ⟨rfl, Ev.yes rfl (Ev.yes (by simpa [nth, D.i] using he) (Ev.ret (.inl ⟨rfl, ?_, rfl⟩)))⟩
        intro hc
        exact he (by injection hc)
  refine Ev.bindL (loop ys.length 0 [] rfl (Nat.zero_le _) (Nat.zero_le _)) (fun ds h => ?_) fun ds h => ?_
  · rcases h with ⟨h, _⟩ | ⟨_, _, h, _⟩
    · exact h
    · cases h
  · rcases h with ⟨_, _, h⟩ | ⟨j', out', h, h2⟩
    · cases h
    · cases h
      refine Ev.yes rfl (Ev.ret ?_)
      rw [List.drop_zero] at h2
      rw [h2]; simp [pieceOut, nth, D.l]
end Go.Proofs.YtalibicpmfbieaaGreatDoor
