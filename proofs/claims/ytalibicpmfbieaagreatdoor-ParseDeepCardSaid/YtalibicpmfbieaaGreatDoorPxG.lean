/- The words of the maker's expressions are words that the lexer takes; the text of a source of them. -/
import Derived.Test.YtalibicpmfbieaaGreatDoorPxF
import Derived.Test.YtalibicpmfbieaaGreatDoorLexTexts
namespace Go.Proofs.YtalibicpmfbieaaGreatDoor
open Go.AE
set_option linter.unusedVariables false
set_option linter.unusedSimpArgs false
/-- A word that the lexer takes whole where it stands alone. -/
theorem wd_alone {c : UInt8} {t : List UInt8} {k : Int} (hs : (c :: t).length ≤ 1000) (h : ∀ n, lex_word (n + 100) (.str (c :: t)) = some (true, [.int .i64 k, .int .i64 (((c :: t).length : Nat) : Int), .int .i64 0])) : Wd (c :: t) k := by
  have hE : Ev (fun n => lex_word n (.str (c :: t))) fun r => r = (true, [.int .i64 k, .int .i64 (((c :: t).length : Nat) : Int), .int .i64 0]) :=
    ⟨_, rfl, 100, fun n hn => by
      obtain ⟨m, rfl⟩ : ∃ m, n = m + 100 := ⟨n - 100, by omega⟩
      exact h m⟩
  have := (word_stable (by omega) hE).2.2
  rwa [List.take_length] at this
theorem wdr_0 (n : Nat) : lex_word (n + 100) (.str [109, 111, 100, 117, 108, 101]) = some (true, [.int .i64 1, .int .i64 (([109, 111, 100, 117, 108, 101] : List UInt8).length : Nat), .int .i64 0]) := by kernel_rfl
theorem wdr_1 (n : Nat) : lex_word (n + 100) (.str [109]) = some (true, [.int .i64 1, .int .i64 (([109] : List UInt8).length : Nat), .int .i64 0]) := by kernel_rfl
theorem wdr_2 (n : Nat) : lex_word (n + 100) (.str [97, 115, 115, 105, 103, 110]) = some (true, [.int .i64 1, .int .i64 (([97, 115, 115, 105, 103, 110] : List UInt8).length : Nat), .int .i64 0]) := by kernel_rfl
theorem wdr_3 (n : Nat) : lex_word (n + 100) (.str [121]) = some (true, [.int .i64 1, .int .i64 (([121] : List UInt8).length : Nat), .int .i64 0]) := by kernel_rfl
theorem wdr_4 (n : Nat) : lex_word (n + 100) (.str [101, 110, 100, 109, 111, 100, 117, 108, 101]) = some (true, [.int .i64 1, .int .i64 (([101, 110, 100, 109, 111, 100, 117, 108, 101] : List UInt8).length : Nat), .int .i64 0]) := by kernel_rfl
theorem wdr_5 (n : Nat) : lex_word (n + 100) (.str [97]) = some (true, [.int .i64 1, .int .i64 (([97] : List UInt8).length : Nat), .int .i64 0]) := by kernel_rfl
theorem wdr_6 (n : Nat) : lex_word (n + 100) (.str [98]) = some (true, [.int .i64 1, .int .i64 (([98] : List UInt8).length : Nat), .int .i64 0]) := by kernel_rfl
theorem wdr_7 (n : Nat) : lex_word (n + 100) (.str [99]) = some (true, [.int .i64 1, .int .i64 (([99] : List UInt8).length : Nat), .int .i64 0]) := by kernel_rfl
theorem wdr_8 (n : Nat) : lex_word (n + 100) (.str [100]) = some (true, [.int .i64 1, .int .i64 (([100] : List UInt8).length : Nat), .int .i64 0]) := by kernel_rfl
theorem wdr_9 (n : Nat) : lex_word (n + 100) (.str [120, 49]) = some (true, [.int .i64 1, .int .i64 (([120, 49] : List UInt8).length : Nat), .int .i64 0]) := by kernel_rfl
theorem wdr_10 (n : Nat) : lex_word (n + 100) (.str [95, 121]) = some (true, [.int .i64 1, .int .i64 (([95, 121] : List UInt8).length : Nat), .int .i64 0]) := by kernel_rfl
theorem wdr_11 (n : Nat) : lex_word (n + 100) (.str [113]) = some (true, [.int .i64 1, .int .i64 (([113] : List UInt8).length : Nat), .int .i64 0]) := by kernel_rfl
theorem wdr_12 (n : Nat) : lex_word (n + 100) (.str [114]) = some (true, [.int .i64 1, .int .i64 (([114] : List UInt8).length : Nat), .int .i64 0]) := by kernel_rfl
theorem wdr_13 (n : Nat) : lex_word (n + 100) (.str [102]) = some (true, [.int .i64 1, .int .i64 (([102] : List UInt8).length : Nat), .int .i64 0]) := by kernel_rfl
theorem wdr_14 (n : Nat) : lex_word (n + 100) (.str [103]) = some (true, [.int .i64 1, .int .i64 (([103] : List UInt8).length : Nat), .int .i64 0]) := by kernel_rfl
theorem wdr_15 (n : Nat) : lex_word (n + 100) (.str [36, 115, 105, 103, 110, 101, 100]) = some (true, [.int .i64 1, .int .i64 (([36, 115, 105, 103, 110, 101, 100] : List UInt8).length : Nat), .int .i64 0]) := by kernel_rfl
theorem wdr_16 (n : Nat) : lex_word (n + 100) (.str [36, 117, 110, 115, 105, 103, 110, 101, 100]) = some (true, [.int .i64 1, .int .i64 (([36, 117, 110, 115, 105, 103, 110, 101, 100] : List UInt8).length : Nat), .int .i64 0]) := by kernel_rfl
theorem wdr_17 (n : Nat) : lex_word (n + 100) (.str [48]) = some (true, [.int .i64 2, .int .i64 (([48] : List UInt8).length : Nat), .int .i64 0]) := by kernel_rfl
theorem wdr_18 (n : Nat) : lex_word (n + 100) (.str [49]) = some (true, [.int .i64 2, .int .i64 (([49] : List UInt8).length : Nat), .int .i64 0]) := by kernel_rfl
theorem wdr_19 (n : Nat) : lex_word (n + 100) (.str [50]) = some (true, [.int .i64 2, .int .i64 (([50] : List UInt8).length : Nat), .int .i64 0]) := by kernel_rfl
theorem wdr_20 (n : Nat) : lex_word (n + 100) (.str [55]) = some (true, [.int .i64 2, .int .i64 (([55] : List UInt8).length : Nat), .int .i64 0]) := by kernel_rfl
theorem wdr_21 (n : Nat) : lex_word (n + 100) (.str [52, 39, 98, 49, 48, 49, 48]) = some (true, [.int .i64 2, .int .i64 (([52, 39, 98, 49, 48, 49, 48] : List UInt8).length : Nat), .int .i64 0]) := by kernel_rfl
theorem wdr_22 (n : Nat) : lex_word (n + 100) (.str [56, 39, 104, 102, 102]) = some (true, [.int .i64 2, .int .i64 (([56, 39, 104, 102, 102] : List UInt8).length : Nat), .int .i64 0]) := by kernel_rfl
theorem wdr_23 (n : Nat) : lex_word (n + 100) (.str [51, 39, 115, 100, 50]) = some (true, [.int .i64 2, .int .i64 (([51, 39, 115, 100, 50] : List UInt8).length : Nat), .int .i64 0]) := by kernel_rfl
theorem wdr_24 (n : Nat) : lex_word (n + 100) (.str [49, 95, 48]) = some (true, [.int .i64 2, .int .i64 (([49, 95, 48] : List UInt8).length : Nat), .int .i64 0]) := by kernel_rfl
theorem wdr_25 (n : Nat) : lex_word (n + 100) (.str [40]) = some (true, [.int .i64 3, .int .i64 (([40] : List UInt8).length : Nat), .int .i64 0]) := by kernel_rfl
theorem wdr_26 (n : Nat) : lex_word (n + 100) (.str [41]) = some (true, [.int .i64 3, .int .i64 (([41] : List UInt8).length : Nat), .int .i64 0]) := by kernel_rfl
theorem wdr_27 (n : Nat) : lex_word (n + 100) (.str [59]) = some (true, [.int .i64 3, .int .i64 (([59] : List UInt8).length : Nat), .int .i64 0]) := by kernel_rfl
theorem wdr_28 (n : Nat) : lex_word (n + 100) (.str [61]) = some (true, [.int .i64 3, .int .i64 (([61] : List UInt8).length : Nat), .int .i64 0]) := by kernel_rfl
theorem wdr_29 (n : Nat) : lex_word (n + 100) (.str [63]) = some (true, [.int .i64 3, .int .i64 (([63] : List UInt8).length : Nat), .int .i64 0]) := by kernel_rfl
theorem wdr_30 (n : Nat) : lex_word (n + 100) (.str [58]) = some (true, [.int .i64 3, .int .i64 (([58] : List UInt8).length : Nat), .int .i64 0]) := by kernel_rfl
theorem wdr_31 (n : Nat) : lex_word (n + 100) (.str [123]) = some (true, [.int .i64 3, .int .i64 (([123] : List UInt8).length : Nat), .int .i64 0]) := by kernel_rfl
theorem wdr_32 (n : Nat) : lex_word (n + 100) (.str [125]) = some (true, [.int .i64 3, .int .i64 (([125] : List UInt8).length : Nat), .int .i64 0]) := by kernel_rfl
theorem wdr_33 (n : Nat) : lex_word (n + 100) (.str [91]) = some (true, [.int .i64 3, .int .i64 (([91] : List UInt8).length : Nat), .int .i64 0]) := by kernel_rfl
theorem wdr_34 (n : Nat) : lex_word (n + 100) (.str [93]) = some (true, [.int .i64 3, .int .i64 (([93] : List UInt8).length : Nat), .int .i64 0]) := by kernel_rfl
theorem wdr_35 (n : Nat) : lex_word (n + 100) (.str [44]) = some (true, [.int .i64 3, .int .i64 (([44] : List UInt8).length : Nat), .int .i64 0]) := by kernel_rfl
theorem wdr_36 (n : Nat) : lex_word (n + 100) (.str [43]) = some (true, [.int .i64 3, .int .i64 (([43] : List UInt8).length : Nat), .int .i64 0]) := by kernel_rfl
theorem wdr_37 (n : Nat) : lex_word (n + 100) (.str [45]) = some (true, [.int .i64 3, .int .i64 (([45] : List UInt8).length : Nat), .int .i64 0]) := by kernel_rfl
theorem wdr_38 (n : Nat) : lex_word (n + 100) (.str [42]) = some (true, [.int .i64 3, .int .i64 (([42] : List UInt8).length : Nat), .int .i64 0]) := by kernel_rfl
theorem wdr_39 (n : Nat) : lex_word (n + 100) (.str [47]) = some (true, [.int .i64 3, .int .i64 (([47] : List UInt8).length : Nat), .int .i64 0]) := by kernel_rfl
theorem wdr_40 (n : Nat) : lex_word (n + 100) (.str [37]) = some (true, [.int .i64 3, .int .i64 (([37] : List UInt8).length : Nat), .int .i64 0]) := by kernel_rfl
theorem wdr_41 (n : Nat) : lex_word (n + 100) (.str [38]) = some (true, [.int .i64 3, .int .i64 (([38] : List UInt8).length : Nat), .int .i64 0]) := by kernel_rfl
theorem wdr_42 (n : Nat) : lex_word (n + 100) (.str [124]) = some (true, [.int .i64 3, .int .i64 (([124] : List UInt8).length : Nat), .int .i64 0]) := by kernel_rfl
theorem wdr_43 (n : Nat) : lex_word (n + 100) (.str [94]) = some (true, [.int .i64 3, .int .i64 (([94] : List UInt8).length : Nat), .int .i64 0]) := by kernel_rfl
theorem wdr_44 (n : Nat) : lex_word (n + 100) (.str [126, 94]) = some (true, [.int .i64 3, .int .i64 (([126, 94] : List UInt8).length : Nat), .int .i64 0]) := by kernel_rfl
theorem wdr_45 (n : Nat) : lex_word (n + 100) (.str [60, 60]) = some (true, [.int .i64 3, .int .i64 (([60, 60] : List UInt8).length : Nat), .int .i64 0]) := by kernel_rfl
theorem wdr_46 (n : Nat) : lex_word (n + 100) (.str [62, 62]) = some (true, [.int .i64 3, .int .i64 (([62, 62] : List UInt8).length : Nat), .int .i64 0]) := by kernel_rfl
theorem wdr_47 (n : Nat) : lex_word (n + 100) (.str [60, 60, 60]) = some (true, [.int .i64 3, .int .i64 (([60, 60, 60] : List UInt8).length : Nat), .int .i64 0]) := by kernel_rfl
theorem wdr_48 (n : Nat) : lex_word (n + 100) (.str [62, 62, 62]) = some (true, [.int .i64 3, .int .i64 (([62, 62, 62] : List UInt8).length : Nat), .int .i64 0]) := by kernel_rfl
theorem wdr_49 (n : Nat) : lex_word (n + 100) (.str [60]) = some (true, [.int .i64 3, .int .i64 (([60] : List UInt8).length : Nat), .int .i64 0]) := by kernel_rfl
theorem wdr_50 (n : Nat) : lex_word (n + 100) (.str [60, 61]) = some (true, [.int .i64 3, .int .i64 (([60, 61] : List UInt8).length : Nat), .int .i64 0]) := by kernel_rfl
theorem wdr_51 (n : Nat) : lex_word (n + 100) (.str [62]) = some (true, [.int .i64 3, .int .i64 (([62] : List UInt8).length : Nat), .int .i64 0]) := by kernel_rfl
theorem wdr_52 (n : Nat) : lex_word (n + 100) (.str [62, 61]) = some (true, [.int .i64 3, .int .i64 (([62, 61] : List UInt8).length : Nat), .int .i64 0]) := by kernel_rfl
theorem wdr_53 (n : Nat) : lex_word (n + 100) (.str [61, 61]) = some (true, [.int .i64 3, .int .i64 (([61, 61] : List UInt8).length : Nat), .int .i64 0]) := by kernel_rfl
theorem wdr_54 (n : Nat) : lex_word (n + 100) (.str [33, 61]) = some (true, [.int .i64 3, .int .i64 (([33, 61] : List UInt8).length : Nat), .int .i64 0]) := by kernel_rfl
theorem wdr_55 (n : Nat) : lex_word (n + 100) (.str [38, 38]) = some (true, [.int .i64 3, .int .i64 (([38, 38] : List UInt8).length : Nat), .int .i64 0]) := by kernel_rfl
theorem wdr_56 (n : Nat) : lex_word (n + 100) (.str [124, 124]) = some (true, [.int .i64 3, .int .i64 (([124, 124] : List UInt8).length : Nat), .int .i64 0]) := by kernel_rfl
theorem wdr_57 (n : Nat) : lex_word (n + 100) (.str [126]) = some (true, [.int .i64 3, .int .i64 (([126] : List UInt8).length : Nat), .int .i64 0]) := by kernel_rfl
theorem wdr_58 (n : Nat) : lex_word (n + 100) (.str [33]) = some (true, [.int .i64 3, .int .i64 (([33] : List UInt8).length : Nat), .int .i64 0]) := by kernel_rfl
theorem wdr_59 (n : Nat) : lex_word (n + 100) (.str [126, 38]) = some (true, [.int .i64 3, .int .i64 (([126, 38] : List UInt8).length : Nat), .int .i64 0]) := by kernel_rfl
theorem wdr_60 (n : Nat) : lex_word (n + 100) (.str [126, 124]) = some (true, [.int .i64 3, .int .i64 (([126, 124] : List UInt8).length : Nat), .int .i64 0]) := by kernel_rfl
def allW : List Tk := [(1, [109, 111, 100, 117, 108, 101]), (1, [109]), (1, [97, 115, 115, 105, 103, 110]), (1, [121]), (1, [101, 110, 100, 109, 111, 100, 117, 108, 101]), (1, [97]), (1, [98]), (1, [99]), (1, [100]), (1, [120, 49]), (1, [95, 121]), (1, [113]), (1, [114]), (1, [102]), (1, [103]), (1, [36, 115, 105, 103, 110, 101, 100]), (1, [36, 117, 110, 115, 105, 103, 110, 101, 100]), (2, [48]), (2, [49]), (2, [50]), (2, [55]), (2, [52, 39, 98, 49, 48, 49, 48]), (2, [56, 39, 104, 102, 102]), (2, [51, 39, 115, 100, 50]), (2, [49, 95, 48]), (3, [40]), (3, [41]), (3, [59]), (3, [61]), (3, [63]), (3, [58]), (3, [123]), (3, [125]), (3, [91]), (3, [93]), (3, [44]), (3, [43]), (3, [45]), (3, [42]), (3, [47]), (3, [37]), (3, [38]), (3, [124]), (3, [94]), (3, [126, 94]), (3, [60, 60]), (3, [62, 62]), (3, [60, 60, 60]), (3, [62, 62, 62]), (3, [60]), (3, [60, 61]), (3, [62]), (3, [62, 61]), (3, [61, 61]), (3, [33, 61]), (3, [38, 38]), (3, [124, 124]), (3, [126]), (3, [33]), (3, [126, 38]), (3, [126, 124])]
theorem wd_all : ∀ p ∈ allW, Wd p.2 p.1 := by
  intro p hp
  rcases List.mem_cons.1 hp with rfl | hp
  · exact wd_alone (by decide) wdr_0
  rcases List.mem_cons.1 hp with rfl | hp
  · exact wd_alone (by decide) wdr_1
  rcases List.mem_cons.1 hp with rfl | hp
  · exact wd_alone (by decide) wdr_2
  rcases List.mem_cons.1 hp with rfl | hp
  · exact wd_alone (by decide) wdr_3
  rcases List.mem_cons.1 hp with rfl | hp
  · exact wd_alone (by decide) wdr_4
  rcases List.mem_cons.1 hp with rfl | hp
  · exact wd_alone (by decide) wdr_5
  rcases List.mem_cons.1 hp with rfl | hp
  · exact wd_alone (by decide) wdr_6
  rcases List.mem_cons.1 hp with rfl | hp
  · exact wd_alone (by decide) wdr_7
  rcases List.mem_cons.1 hp with rfl | hp
  · exact wd_alone (by decide) wdr_8
  rcases List.mem_cons.1 hp with rfl | hp
  · exact wd_alone (by decide) wdr_9
  rcases List.mem_cons.1 hp with rfl | hp
  · exact wd_alone (by decide) wdr_10
  rcases List.mem_cons.1 hp with rfl | hp
  · exact wd_alone (by decide) wdr_11
  rcases List.mem_cons.1 hp with rfl | hp
  · exact wd_alone (by decide) wdr_12
  rcases List.mem_cons.1 hp with rfl | hp
  · exact wd_alone (by decide) wdr_13
  rcases List.mem_cons.1 hp with rfl | hp
  · exact wd_alone (by decide) wdr_14
  rcases List.mem_cons.1 hp with rfl | hp
  · exact wd_alone (by decide) wdr_15
  rcases List.mem_cons.1 hp with rfl | hp
  · exact wd_alone (by decide) wdr_16
  rcases List.mem_cons.1 hp with rfl | hp
  · exact wd_alone (by decide) wdr_17
  rcases List.mem_cons.1 hp with rfl | hp
  · exact wd_alone (by decide) wdr_18
  rcases List.mem_cons.1 hp with rfl | hp
  · exact wd_alone (by decide) wdr_19
  rcases List.mem_cons.1 hp with rfl | hp
  · exact wd_alone (by decide) wdr_20
  rcases List.mem_cons.1 hp with rfl | hp
  · exact wd_alone (by decide) wdr_21
  rcases List.mem_cons.1 hp with rfl | hp
  · exact wd_alone (by decide) wdr_22
  rcases List.mem_cons.1 hp with rfl | hp
  · exact wd_alone (by decide) wdr_23
  rcases List.mem_cons.1 hp with rfl | hp
  · exact wd_alone (by decide) wdr_24
  rcases List.mem_cons.1 hp with rfl | hp
  · exact wd_alone (by decide) wdr_25
  rcases List.mem_cons.1 hp with rfl | hp
  · exact wd_alone (by decide) wdr_26
  rcases List.mem_cons.1 hp with rfl | hp
  · exact wd_alone (by decide) wdr_27
  rcases List.mem_cons.1 hp with rfl | hp
  · exact wd_alone (by decide) wdr_28
  rcases List.mem_cons.1 hp with rfl | hp
  · exact wd_alone (by decide) wdr_29
  rcases List.mem_cons.1 hp with rfl | hp
  · exact wd_alone (by decide) wdr_30
  rcases List.mem_cons.1 hp with rfl | hp
  · exact wd_alone (by decide) wdr_31
  rcases List.mem_cons.1 hp with rfl | hp
  · exact wd_alone (by decide) wdr_32
  rcases List.mem_cons.1 hp with rfl | hp
  · exact wd_alone (by decide) wdr_33
  rcases List.mem_cons.1 hp with rfl | hp
  · exact wd_alone (by decide) wdr_34
  rcases List.mem_cons.1 hp with rfl | hp
  · exact wd_alone (by decide) wdr_35
  rcases List.mem_cons.1 hp with rfl | hp
  · exact wd_alone (by decide) wdr_36
  rcases List.mem_cons.1 hp with rfl | hp
  · exact wd_alone (by decide) wdr_37
  rcases List.mem_cons.1 hp with rfl | hp
  · exact wd_alone (by decide) wdr_38
  rcases List.mem_cons.1 hp with rfl | hp
  · exact wd_alone (by decide) wdr_39
  rcases List.mem_cons.1 hp with rfl | hp
  · exact wd_alone (by decide) wdr_40
  rcases List.mem_cons.1 hp with rfl | hp
  · exact wd_alone (by decide) wdr_41
  rcases List.mem_cons.1 hp with rfl | hp
  · exact wd_alone (by decide) wdr_42
  rcases List.mem_cons.1 hp with rfl | hp
  · exact wd_alone (by decide) wdr_43
  rcases List.mem_cons.1 hp with rfl | hp
  · exact wd_alone (by decide) wdr_44
  rcases List.mem_cons.1 hp with rfl | hp
  · exact wd_alone (by decide) wdr_45
  rcases List.mem_cons.1 hp with rfl | hp
  · exact wd_alone (by decide) wdr_46
  rcases List.mem_cons.1 hp with rfl | hp
  · exact wd_alone (by decide) wdr_47
  rcases List.mem_cons.1 hp with rfl | hp
  · exact wd_alone (by decide) wdr_48
  rcases List.mem_cons.1 hp with rfl | hp
  · exact wd_alone (by decide) wdr_49
  rcases List.mem_cons.1 hp with rfl | hp
  · exact wd_alone (by decide) wdr_50
  rcases List.mem_cons.1 hp with rfl | hp
  · exact wd_alone (by decide) wdr_51
  rcases List.mem_cons.1 hp with rfl | hp
  · exact wd_alone (by decide) wdr_52
  rcases List.mem_cons.1 hp with rfl | hp
  · exact wd_alone (by decide) wdr_53
  rcases List.mem_cons.1 hp with rfl | hp
  · exact wd_alone (by decide) wdr_54
  rcases List.mem_cons.1 hp with rfl | hp
  · exact wd_alone (by decide) wdr_55
  rcases List.mem_cons.1 hp with rfl | hp
  · exact wd_alone (by decide) wdr_56
  rcases List.mem_cons.1 hp with rfl | hp
  · exact wd_alone (by decide) wdr_57
  rcases List.mem_cons.1 hp with rfl | hp
  · exact wd_alone (by decide) wdr_58
  rcases List.mem_cons.1 hp with rfl | hp
  · exact wd_alone (by decide) wdr_59
  rcases List.mem_cons.1 hp with rfl | hp
  · exact wd_alone (by decide) wdr_60
  cases hp
theorem sg_all : (([[40], [41], [63], [58], [123], [125], [44], [91], [93], [43], [59], [61]] : List (List UInt8)).all fun t => allW.contains (3, t)) = true := by kernel_rfl
theorem in_all {T : List (List UInt8)} {k : Int} (h : (T.all fun t => allW.contains (k, t)) = true) {t : List UInt8} (ht : t ∈ T) : (k, t) ∈ allW := by
  have := List.all_eq_true.1 h t ht
  simpa using this
def sgT : List (List UInt8) := [[40], [41], [63], [58], [123], [125], [44], [91], [93], [43], [59], [61]]
def OkW (ws : List Tk) : Prop := ∀ p ∈ ws, p ∈ allW
theorem OkW.nil : OkW [] := fun _ h => by cases h
theorem OkW.app {u v : List Tk} (h : OkW u) (h' : OkW v) : OkW (u ++ v) := fun p hp => (List.mem_append.1 hp).elim (h p) (h' p)
theorem OkW.cons {p : Tk} {v : List Tk} (h : p ∈ allW) (h' : OkW v) : OkW (p :: v) := fun q hq => by
  rcases List.mem_cons.1 hq with rfl | hq
  · exact h
  · exact h' q hq
theorem OkW.sg {t : List UInt8} (h : sgT.contains t = true) : OkW [(3, t)] := .cons (in_all sg_all (by simpa [sgT] using h)) .nil
/-- Words, each with a blank behind it. -/
def txS (ws : List Tk) : List UInt8 := ws.flatMap fun p => p.2 ++ [32]
theorem txS_app (u v : List Tk) : txS (u ++ v) = txS u ++ txS v := List.flatMap_append
theorem all_short : (allW.all fun p => decide (p.2.length ≤ 9)) = true := by kernel_rfl
theorem txS_le : ∀ {ws : List Tk}, OkW ws → (txS ws).length ≤ 10 * ws.length
  | [], _ => Nat.zero_le _
  | p :: r, h => by
    have h1 := of_decide_eq_true (List.all_eq_true.1 all_short p (h p (List.mem_cons_self ..)))
    have ih := txS_le (ws := r) fun q hq => h q (List.mem_cons_of_mem _ hq)
    show (p.2 ++ [32] ++ txS r).length ≤ _
    simp only [List.length_append, List.length_cons, List.length_nil] at ih ⊢
    omega
def tD (ws : List Tk) : List D := ws.map fun p => tokD p.1 p.2 0 0 0
theorem tD_app (u v : List Tk) : tD (u ++ v) = tD u ++ tD v := List.map_append
theorem tD_len (u : List Tk) : (tD u).length = u.length := List.length_map ..
theorem tD_w {ws : List Tk} (h : OkW ws) : WToks (tD ws) := fun y hy => by
  obtain ⟨p, hp, rfl⟩ := List.mem_map.1 hy
  exact ⟨_, _, _, _, _, rfl, wd_all p (h p hp)⟩
theorem join_txS (v : Tk) (r : List Tk) : ∀ u : List Tk, joinStr [32] (words (tD (u ++ v :: r))) = txS u ++ joinStr [32] (words (tD (v :: r)))
  | [] => rfl
  | p :: u => by
    have ih := join_txS v r u
    show joinStr [32] (words (tokD p.1 p.2 0 0 0 :: tD (u ++ v :: r))) = _
    rw [join_cons]
    have e : ∀ q w, jt (tD (q :: w)) = [32] ++ joinStr [32] (words (tD (q :: w))) := fun _ _ => rfl
    have e2 : jt (tD (u ++ v :: r)) = [32] ++ joinStr [32] (words (tD (u ++ v :: r))) := by
      cases u with
      | nil => exact e _ _
      | cons q w => exact e _ _
    rw [e2, ih]
    show p.2 ++ ([32] ++ (txS u ++ _)) = (p.2 ++ [32] ++ txS u) ++ _
    simp only [List.append_assoc]
theorem plc_get : ∀ (ts : List D) (c : Int) (j : Nat) {k a b e : Int} {w : List UInt8}, ts[j]? = some (tokD k w a b e) → ∃ c', (plc c ts)[j]? = some (tk k w 1 1 c')
  | [], _, j, _, _, _, _, _, h => by simp at h
  | y :: ts, c, 0, k, a, b, e, w, h => by
    have : y = tokD k w a b e := by simpa using h
    subst this
    exact ⟨c, rfl⟩
  | y :: ts, c, j + 1, k, a, b, e, w, h => by
    obtain ⟨c', h'⟩ := plc_get ts (c + ((kw y).2.length : Int) + 1) j (by simpa using h)
    exact ⟨c', by simpa [plc] using h'⟩
theorem tokAt_plc : ∀ (ws pre post : List Tk), TokAt (plc 1 (tD (pre ++ (ws ++ post)))) pre.length ws
  | [], _, _ => trivial
  | p :: r, pre, post => by
    have ih := tokAt_plc r (pre ++ [p]) post
    rw [show (pre ++ [p]) ++ (r ++ post) = pre ++ (p :: r ++ post) from by simp, List.length_append, List.length_singleton] at ih
    obtain ⟨c, h⟩ := plc_get (tD (pre ++ (p :: r ++ post))) 1 pre.length (k := p.1) (w := p.2) (a := 0) (b := 0) (e := 0) (by
      rw [tD_app, List.getElem?_append_right (by rw [tD_len]; exact Nat.le_refl _), tD_len, Nat.sub_self]; rfl)
    exact ⟨⟨1, 1, c, h⟩, ih⟩

end Go.Proofs.YtalibicpmfbieaaGreatDoor
