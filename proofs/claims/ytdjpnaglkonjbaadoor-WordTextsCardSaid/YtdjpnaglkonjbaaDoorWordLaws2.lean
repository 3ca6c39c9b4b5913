/-
  The walks of layer 1's laws on texts.
-/
import Derived.Test.YtdjpnaglkonjbaaDoorWordRefP
import Derived.Test.YtdjpnaglkonjbaaDoorWordLaws
import Derived.Lib.ItoaLen
namespace Go.Proofs.YtdjpnaglkonjbaaDoor
open Go.RowKit

theorem bytes_list (s : ByteArray) : ∃ l : List UInt8, s = ⟨l.toArray⟩ ∧ s.data.toList = l := ⟨s.data.toList, by cases s; simp, rfl⟩

set_option maxHeartbeats 1000000 in
theorem wordTexts_walk (n : Int) (s : ByteArray) (wn : (Lit.int .i64 n).wf = true) (hs : s.size ≤ 140737488355328) (w : World) (G : Globs w) :
    Calls Tryd.prog 4 #[.int .i64 n, .string s] w fun e w' => e = .returned (.bool true) ∧ Below w.heap.size w w' := by
  obtain ⟨b1, b2⟩ := wf_bounds wn
  obtain ⟨l, rfl, _⟩ := bytes_list s
  have hl : l.length ≤ 140737488355328 := hs
  have C1 := Lib.hid (fun W GW => parse_any ⟨l.toArray⟩ hs W GW)
  have C2 := Lib.hid (fun W => rparse_any l hl W)
  have C3 := Lib.hid (fun W GW => text_any n b1 b2 W GW)
  have C4 := Lib.hid (fun W => rtext_any n b1 b2 W)
  clear wn b1 b2 hs hl
  go_enter Tryd.func4, Tryd.ntmps4
  go_wp2_with fail
  refine (C1.out _ G).mono ?_
  rintro e w1 ⟨rfl, h1⟩
  go_wp2_with fail
  refine (C2.out _).mono ?_
  rintro e w2 ⟨rfl, rfl⟩
  go_wp2_with fail
  refine (C3.out _ (G.below h1)).mono ?_
  rintro e w2 ⟨rfl, h2⟩
  have g2 := h1.trans (h2.mono h1.size)
  go_wp2_with fail
  refine (C4.out _).mono ?_
  rintro e w3 ⟨rfl, h3⟩
  have g3 := g2.trans (h3.mono g2.size)
  go_wp2_with fail
  refine (alive_any _ (G.below g3)).mono ?_
  rintro e w4 ⟨rfl, h4⟩
  have g4 := g3.trans (h4.mono g3.size)
  go_wp2_with fail
  go_ret
  exact ⟨rfl, g4⟩

theorem parseV_cases (l : List UInt8) : parseV ⟨l.toArray⟩ = (0, 13) ∨ ∃ v, parseV ⟨l.toArray⟩ = (v, 0) ∧ l = Lib.itoa v ∧ -9223372036854775808 ≤ v ∧ v ≤ 9223372036854775807 := by
  by_cases h : ∃ v, -9223372036854775808 ≤ v ∧ v ≤ 9223372036854775807 ∧ l = Lib.itoa v
  · obtain ⟨v, h1, h2, e⟩ := h
    exact .inr ⟨v, parseV_of h1 h2 e, e, h1, h2⟩
  · exact .inl (parseV_no fun v h1 h2 e => h ⟨v, h1, h2, e⟩)

set_option maxHeartbeats 1000000 in
theorem wordBack_walk (n : Int) (s : ByteArray) (wn : (Lit.int .i64 n).wf = true) (hs : s.size ≤ 140737488355328) (w : World) (G : Globs w) :
    Calls Tryd.prog 8 #[.int .i64 n, .string s] w fun e w' => e = .returned (.bool true) ∧ Below w.heap.size w w' := by
  obtain ⟨b1, b2⟩ := wf_bounds wn
  obtain ⟨l, rfl, _⟩ := bytes_list s
  have hi : (⟨(Lib.itoa n).toArray⟩ : ByteArray).size ≤ 140737488355328 := by
    have h := Lib.itoa_length_le n b1 b2
    show (Lib.itoa n).toArray.size ≤ 140737488355328
    rw [List.size_toArray]; omega
  have c2 := fun W GW => parse_any ⟨(Lib.itoa n).toArray⟩ hi W GW
  simp only [parseV_of b1 b2 rfl] at c2
  have C1 := Lib.hid (fun W GW => text_any n b1 b2 W GW)
  have C2 := Lib.hid c2
  clear wn b1 b2 hi c2
  rcases parseV_cases l with h | ⟨v, h, e, v1, v2⟩
  · have c3 := fun W GW => parse_any ⟨l.toArray⟩ hs W GW
    simp only [h] at c3
    have C3 := Lib.hid c3
    clear c3 h hs
    go_enter Tryd.func8, Tryd.ntmps8
    go_wp2_with fail
    refine (C1.out _ G).mono ?_
    rintro e w1 ⟨rfl, h1⟩
    go_wp2_with fail
    refine (C2.out _ (G.below h1)).mono ?_
    rintro e w2 ⟨rfl, h2⟩
    have g2 := h1.trans (h2.mono h1.size)
    go_wp2_with fail
    refine (C3.out _ (G.below g2)).mono ?_
    rintro e w3 ⟨rfl, h3⟩
    have g3 := g2.trans (h3.mono g2.size)
    go_wp2_with fail
    refine (alive_any _ (G.below g3)).mono ?_
    rintro e w4 ⟨rfl, h4⟩
    have g4 := g3.trans (h4.mono g3.size)
    go_wp2_with fail
    go_ret
    exact ⟨rfl, g4⟩
  · subst e
    have c3 := fun W GW => parse_any ⟨(Lib.itoa v).toArray⟩ hs W GW
    simp only [h] at c3
    have C3 := Lib.hid c3
    have C4 := Lib.hid (fun W GW => text_any v v1 v2 W GW)
    clear c3 h hs v1 v2
    go_enter Tryd.func8, Tryd.ntmps8
    go_wp2_with fail
    refine (C1.out _ G).mono ?_
    rintro e w1 ⟨rfl, h1⟩
    go_wp2_with fail
    refine (C2.out _ (G.below h1)).mono ?_
    rintro e w2 ⟨rfl, h2⟩
    have g2 := h1.trans (h2.mono h1.size)
    go_wp2_with fail
    refine (C3.out _ (G.below g2)).mono ?_
    rintro e w3 ⟨rfl, h3⟩
    have g3 := g2.trans (h3.mono g2.size)
    go_wp2_with fail
    refine (C4.out _ (G.below g3)).mono ?_
    rintro e w4 ⟨rfl, h4⟩
    have g4 := g3.trans (h4.mono g3.size)
    go_wp2_with fail
    refine (alive_any _ (G.below g4)).mono ?_
    rintro e w5 ⟨rfl, h5⟩
    have g5 := g4.trans (h5.mono g4.size)
    go_wp2_with fail
    go_ret
    exact ⟨rfl, g5⟩
end Go.Proofs.YtdjpnaglkonjbaaDoor
