/-
  The document's words and names.
-/
import Derived.Test.YthepjanojmemaaaGreatDoorLexWords
set_option linter.unusedVariables false
set_option linter.unusedSimpArgs false
namespace Go.Proofs.YthepjanojmemaaaGreatDoor
open Go.RowKit

set_option maxHeartbeats 1000000 in
theorem rword_any (l : List UInt8) (hl : l.length ≤ 140737488355328) (w : World) :
    Calls Tryz.prog 102 #[.string ⟨l.toArray⟩] w fun e w' => e = .returned (.bool (wordB l)) ∧ w = w' := by
  by_cases h : l ∈ wordList
  · have E : ∀ l ∈ wordList, Ending.returned (.bool true) = .returned (.bool (wordB l)) := fun l hl => by rw [show wordB l = true by simpa [wordB] using hl]
    have HE := Lib.hid (E l h)
    clear E
    simp only [wordList, List.mem_cons, List.not_mem_nil, or_false] at h
    rcases h with rfl | rfl | rfl | rfl | rfl | rfl | rfl | rfl | rfl | rfl | rfl | rfl | rfl | rfl
    all_goals
      go_enter Tryz.func102, Tryz.ntmps102
      go_wp2
      go_ret
      exact ⟨HE.out, rfl⟩
  · have F := Lib.hid (show false = wordB l by simpa [wordB] using h)
    have w0 : (l == [114, 101, 99, 111, 114, 100]) = false := by simpa using fun e => h (by rw [e]; decide)
    have w1 : (l == [115, 104, 97, 114, 101, 100]) = false := by simpa using fun e => h (by rw [e]; decide)
    have w2 : (l == [102, 117, 110, 99]) = false := by simpa using fun e => h (by rw [e]; decide)
    have w3 : (l == [116, 104, 114, 101, 97, 100]) = false := by simpa using fun e => h (by rw [e]; decide)
    have w4 : (l == [118, 97, 114]) = false := by simpa using fun e => h (by rw [e]; decide)
    have w5 : (l == [105, 102]) = false := by simpa using fun e => h (by rw [e]; decide)
    have w6 : (l == [101, 108, 115, 101]) = false := by simpa using fun e => h (by rw [e]; decide)
    have w7 : (l == [119, 104, 105, 108, 101]) = false := by simpa using fun e => h (by rw [e]; decide)
    have w8 : (l == [97, 116, 111, 109, 105, 99]) = false := by simpa using fun e => h (by rw [e]; decide)
    have w9 : (l == [112, 114, 105, 110, 116]) = false := by simpa using fun e => h (by rw [e]; decide)
    have w10 : (l == [114, 101, 116, 117, 114, 110]) = false := by simpa using fun e => h (by rw [e]; decide)
    have w11 : (l == [110, 101, 119]) = false := by simpa using fun e => h (by rw [e]; decide)
    have w12 : (l == [110, 105, 108]) = false := by simpa using fun e => h (by rw [e]; decide)
    have w13 : (l == [105, 110, 116]) = false := by simpa using fun e => h (by rw [e]; decide)
    clear h
    go_enter Tryz.func102, Tryz.ntmps102
    go_wp2
    go_ret
    exact ⟨ret_bool F.out, rfl⟩

end Go.Proofs.YthepjanojmemaaaGreatDoor
