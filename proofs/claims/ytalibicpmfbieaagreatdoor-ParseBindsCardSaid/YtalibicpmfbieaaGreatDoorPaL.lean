/- The lexer on the words of a source of ParseBinds. -/
import Derived.Test.YtalibicpmfbieaaGreatDoorPaG
import Derived.Test.YtalibicpmfbieaaGreatDoorLexTexts
namespace Go.Proofs.YtalibicpmfbieaaGreatDoor
open Go.AE
set_option linter.unusedVariables false
set_option linter.unusedSimpArgs false
/-- A word that the lexer takes whole where it stands alone. -/
theorem wd_alone {c : UInt8} {t : List UInt8} {k : Int} (hs : (c :: t).length ≤ 1000) (h : ∀ n, lex_word (n + 100) (.str (c :: t)) = some (true, [.int .i64 k, .int .i64 (((c :: t).length : Nat) : Int), .int .i64 0])) : Wd (c :: t) k := by
  have hE : Ev (fun n => lex_word n (.str (c :: t))) fun r => r = (true, [.int .i64 k, .int .i64 (((c :: t).length : Nat) : Int), .int .i64 0]) :=
    ⟨_, rfl, 100, fun n hn => by
      obtain ⟨m, rfl⟩ : ∃ m, n = m + 100 := ⟨n - 100, by omega⟩
      exact h m⟩
  have := (word_stable (by omega) hE).2.2
  rwa [List.take_length] at this
theorem wdr_0 (n : Nat) : lex_word (n + 100) (.str [109, 111, 100, 117, 108, 101]) = some (true, [.int .i64 1, .int .i64 (([109, 111, 100, 117, 108, 101] : List UInt8).length : Nat), .int .i64 0]) := by kernel_rfl
theorem wd_0 : Wd [109, 111, 100, 117, 108, 101] 1 := wd_alone (by decide) wdr_0
theorem wdr_1 (n : Nat) : lex_word (n + 100) (.str [109]) = some (true, [.int .i64 1, .int .i64 (([109] : List UInt8).length : Nat), .int .i64 0]) := by kernel_rfl
theorem wd_1 : Wd [109] 1 := wd_alone (by decide) wdr_1
theorem wdr_2 (n : Nat) : lex_word (n + 100) (.str [97, 115, 115, 105, 103, 110]) = some (true, [.int .i64 1, .int .i64 (([97, 115, 115, 105, 103, 110] : List UInt8).length : Nat), .int .i64 0]) := by kernel_rfl
theorem wd_2 : Wd [97, 115, 115, 105, 103, 110] 1 := wd_alone (by decide) wdr_2
theorem wdr_3 (n : Nat) : lex_word (n + 100) (.str [121]) = some (true, [.int .i64 1, .int .i64 (([121] : List UInt8).length : Nat), .int .i64 0]) := by kernel_rfl
theorem wd_3 : Wd [121] 1 := wd_alone (by decide) wdr_3
theorem wdr_4 (n : Nat) : lex_word (n + 100) (.str [110, 48]) = some (true, [.int .i64 1, .int .i64 (([110, 48] : List UInt8).length : Nat), .int .i64 0]) := by kernel_rfl
theorem wd_4 : Wd [110, 48] 1 := wd_alone (by decide) wdr_4
theorem wdr_5 (n : Nat) : lex_word (n + 100) (.str [97]) = some (true, [.int .i64 1, .int .i64 (([97] : List UInt8).length : Nat), .int .i64 0]) := by kernel_rfl
theorem wd_5 : Wd [97] 1 := wd_alone (by decide) wdr_5
theorem wdr_6 (n : Nat) : lex_word (n + 100) (.str [98]) = some (true, [.int .i64 1, .int .i64 (([98] : List UInt8).length : Nat), .int .i64 0]) := by kernel_rfl
theorem wd_6 : Wd [98] 1 := wd_alone (by decide) wdr_6
theorem wdr_7 (n : Nat) : lex_word (n + 100) (.str [99]) = some (true, [.int .i64 1, .int .i64 (([99] : List UInt8).length : Nat), .int .i64 0]) := by kernel_rfl
theorem wd_7 : Wd [99] 1 := wd_alone (by decide) wdr_7
theorem wdr_8 (n : Nat) : lex_word (n + 100) (.str [101, 110, 100, 109, 111, 100, 117, 108, 101]) = some (true, [.int .i64 1, .int .i64 (([101, 110, 100, 109, 111, 100, 117, 108, 101] : List UInt8).length : Nat), .int .i64 0]) := by kernel_rfl
theorem wd_8 : Wd [101, 110, 100, 109, 111, 100, 117, 108, 101] 1 := wd_alone (by decide) wdr_8
theorem wdr_9 (n : Nat) : lex_word (n + 100) (.str [40]) = some (true, [.int .i64 3, .int .i64 (([40] : List UInt8).length : Nat), .int .i64 0]) := by kernel_rfl
theorem wd_9 : Wd [40] 3 := wd_alone (by decide) wdr_9
theorem wdr_10 (n : Nat) : lex_word (n + 100) (.str [41]) = some (true, [.int .i64 3, .int .i64 (([41] : List UInt8).length : Nat), .int .i64 0]) := by kernel_rfl
theorem wd_10 : Wd [41] 3 := wd_alone (by decide) wdr_10
theorem wdr_11 (n : Nat) : lex_word (n + 100) (.str [59]) = some (true, [.int .i64 3, .int .i64 (([59] : List UInt8).length : Nat), .int .i64 0]) := by kernel_rfl
theorem wd_11 : Wd [59] 3 := wd_alone (by decide) wdr_11
theorem wdr_12 (n : Nat) : lex_word (n + 100) (.str [61]) = some (true, [.int .i64 3, .int .i64 (([61] : List UInt8).length : Nat), .int .i64 0]) := by kernel_rfl
theorem wd_12 : Wd [61] 3 := wd_alone (by decide) wdr_12
theorem wdr_13 (n : Nat) : lex_word (n + 100) (.str [124, 124]) = some (true, [.int .i64 3, .int .i64 (([124, 124] : List UInt8).length : Nat), .int .i64 0]) := by kernel_rfl
theorem wd_13 : Wd [124, 124] 3 := wd_alone (by decide) wdr_13
theorem wdr_14 (n : Nat) : lex_word (n + 100) (.str [38, 38]) = some (true, [.int .i64 3, .int .i64 (([38, 38] : List UInt8).length : Nat), .int .i64 0]) := by kernel_rfl
theorem wd_14 : Wd [38, 38] 3 := wd_alone (by decide) wdr_14
theorem wdr_15 (n : Nat) : lex_word (n + 100) (.str [124]) = some (true, [.int .i64 3, .int .i64 (([124] : List UInt8).length : Nat), .int .i64 0]) := by kernel_rfl
theorem wd_15 : Wd [124] 3 := wd_alone (by decide) wdr_15
theorem wdr_16 (n : Nat) : lex_word (n + 100) (.str [94]) = some (true, [.int .i64 3, .int .i64 (([94] : List UInt8).length : Nat), .int .i64 0]) := by kernel_rfl
theorem wd_16 : Wd [94] 3 := wd_alone (by decide) wdr_16
theorem wdr_17 (n : Nat) : lex_word (n + 100) (.str [126, 94]) = some (true, [.int .i64 3, .int .i64 (([126, 94] : List UInt8).length : Nat), .int .i64 0]) := by kernel_rfl
theorem wd_17 : Wd [126, 94] 3 := wd_alone (by decide) wdr_17
theorem wdr_18 (n : Nat) : lex_word (n + 100) (.str [38]) = some (true, [.int .i64 3, .int .i64 (([38] : List UInt8).length : Nat), .int .i64 0]) := by kernel_rfl
theorem wd_18 : Wd [38] 3 := wd_alone (by decide) wdr_18
theorem wdr_19 (n : Nat) : lex_word (n + 100) (.str [61, 61]) = some (true, [.int .i64 3, .int .i64 (([61, 61] : List UInt8).length : Nat), .int .i64 0]) := by kernel_rfl
theorem wd_19 : Wd [61, 61] 3 := wd_alone (by decide) wdr_19
theorem wdr_20 (n : Nat) : lex_word (n + 100) (.str [33, 61]) = some (true, [.int .i64 3, .int .i64 (([33, 61] : List UInt8).length : Nat), .int .i64 0]) := by kernel_rfl
theorem wd_20 : Wd [33, 61] 3 := wd_alone (by decide) wdr_20
theorem wdr_21 (n : Nat) : lex_word (n + 100) (.str [60]) = some (true, [.int .i64 3, .int .i64 (([60] : List UInt8).length : Nat), .int .i64 0]) := by kernel_rfl
theorem wd_21 : Wd [60] 3 := wd_alone (by decide) wdr_21
theorem wdr_22 (n : Nat) : lex_word (n + 100) (.str [60, 61]) = some (true, [.int .i64 3, .int .i64 (([60, 61] : List UInt8).length : Nat), .int .i64 0]) := by kernel_rfl
theorem wd_22 : Wd [60, 61] 3 := wd_alone (by decide) wdr_22
theorem wdr_23 (n : Nat) : lex_word (n + 100) (.str [62]) = some (true, [.int .i64 3, .int .i64 (([62] : List UInt8).length : Nat), .int .i64 0]) := by kernel_rfl
theorem wd_23 : Wd [62] 3 := wd_alone (by decide) wdr_23
theorem wdr_24 (n : Nat) : lex_word (n + 100) (.str [62, 61]) = some (true, [.int .i64 3, .int .i64 (([62, 61] : List UInt8).length : Nat), .int .i64 0]) := by kernel_rfl
theorem wd_24 : Wd [62, 61] 3 := wd_alone (by decide) wdr_24
theorem wdr_25 (n : Nat) : lex_word (n + 100) (.str [60, 60]) = some (true, [.int .i64 3, .int .i64 (([60, 60] : List UInt8).length : Nat), .int .i64 0]) := by kernel_rfl
theorem wd_25 : Wd [60, 60] 3 := wd_alone (by decide) wdr_25
theorem wdr_26 (n : Nat) : lex_word (n + 100) (.str [62, 62]) = some (true, [.int .i64 3, .int .i64 (([62, 62] : List UInt8).length : Nat), .int .i64 0]) := by kernel_rfl
theorem wd_26 : Wd [62, 62] 3 := wd_alone (by decide) wdr_26
theorem wdr_27 (n : Nat) : lex_word (n + 100) (.str [60, 60, 60]) = some (true, [.int .i64 3, .int .i64 (([60, 60, 60] : List UInt8).length : Nat), .int .i64 0]) := by kernel_rfl
theorem wd_27 : Wd [60, 60, 60] 3 := wd_alone (by decide) wdr_27
theorem wdr_28 (n : Nat) : lex_word (n + 100) (.str [62, 62, 62]) = some (true, [.int .i64 3, .int .i64 (([62, 62, 62] : List UInt8).length : Nat), .int .i64 0]) := by kernel_rfl
theorem wd_28 : Wd [62, 62, 62] 3 := wd_alone (by decide) wdr_28
theorem wdr_29 (n : Nat) : lex_word (n + 100) (.str [43]) = some (true, [.int .i64 3, .int .i64 (([43] : List UInt8).length : Nat), .int .i64 0]) := by kernel_rfl
theorem wd_29 : Wd [43] 3 := wd_alone (by decide) wdr_29
theorem wdr_30 (n : Nat) : lex_word (n + 100) (.str [45]) = some (true, [.int .i64 3, .int .i64 (([45] : List UInt8).length : Nat), .int .i64 0]) := by kernel_rfl
theorem wd_30 : Wd [45] 3 := wd_alone (by decide) wdr_30
theorem wdr_31 (n : Nat) : lex_word (n + 100) (.str [42]) = some (true, [.int .i64 3, .int .i64 (([42] : List UInt8).length : Nat), .int .i64 0]) := by kernel_rfl
theorem wd_31 : Wd [42] 3 := wd_alone (by decide) wdr_31
theorem wdr_32 (n : Nat) : lex_word (n + 100) (.str [47]) = some (true, [.int .i64 3, .int .i64 (([47] : List UInt8).length : Nat), .int .i64 0]) := by kernel_rfl
theorem wd_32 : Wd [47] 3 := wd_alone (by decide) wdr_32
theorem wdr_33 (n : Nat) : lex_word (n + 100) (.str [37]) = some (true, [.int .i64 3, .int .i64 (([37] : List UInt8).length : Nat), .int .i64 0]) := by kernel_rfl
theorem wd_33 : Wd [37] 3 := wd_alone (by decide) wdr_33
theorem wd_op : ∀ o ∈ opsT, Wd o 3 := by
  intro o ho
  simp only [opsT, List.mem_cons, List.not_mem_nil, or_false] at ho
  rcases ho with rfl | rfl | rfl | rfl | rfl | rfl | rfl | rfl | rfl | rfl | rfl | rfl | rfl | rfl | rfl | rfl | rfl | rfl | rfl | rfl | rfl
  · exact wd_13
  · exact wd_14
  · exact wd_15
  · exact wd_16
  · exact wd_17
  · exact wd_18
  · exact wd_19
  · exact wd_20
  · exact wd_21
  · exact wd_22
  · exact wd_23
  · exact wd_24
  · exact wd_25
  · exact wd_26
  · exact wd_27
  · exact wd_28
  · exact wd_29
  · exact wd_30
  · exact wd_31
  · exact wd_32
  · exact wd_33
def nmsT : List (List UInt8) := [[97], [98], [99]]
theorem wd_nm : ∀ y ∈ nmsT, Wd y 1 := by
  intro y hy
  simp only [nmsT, List.mem_cons, List.not_mem_nil, or_false] at hy
  rcases hy with rfl | rfl | rfl
  · exact wd_5
  · exact wd_6
  · exact wd_7
theorem ok_nm : (nmsT.all okN) = true := by kernel_rfl
end Go.Proofs.YtalibicpmfbieaaGreatDoor
