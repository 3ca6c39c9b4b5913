/-
  The document's instructions: what a kind has, which numbers may be, which instructions may be.
-/
import Derived.Test.YtkkcngppmhebbaaGreatDoorAsmTextP
set_option linter.unusedVariables false
set_option linter.unusedSimpArgs false
namespace Go.Proofs.YtkkcngppmhebbaaGreatDoor
open Go.RowKit

set_option maxHeartbeats 4000000 in
set_option maxRecDepth 100000 in
theorem rfields_some (k : Int) (f : Form) (h : formV k = some f) (w : World) :
    Calls Tryz.prog 113 #[.int .u8 k] w fun e w' => e = .returned (.tuple #[.agg #[.bool f.cal, .int .i64 f.regs, .bool f.num], .bool true]) ∧ Below w.heap.size w w' := by
  rcases formV_cases k with (rfl | rfl | rfl | rfl | rfl | rfl | rfl | rfl | rfl | rfl | rfl | rfl | rfl | rfl | rfl) | ⟨h0, -⟩
  · obtain rfl : f = ⟨false, 1, true, -9223372036854775808, 9223372036854775807, false⟩ := (Option.some.inj h).symm
    clear h
    go_enter Tryz.func113, Tryz.ntmps113
    go_wp2
    refine bodyPost_ret (v := .tuple #[.agg #[.bool false, .int .i64 1, .bool true], .bool true]) (by simp [results, Tryz.results113, go_sem]) rfl ⟨rfl, ?_⟩
    (repeat' first | with_reducible exact Below.refl _ _ | (with_reducible refine Below.setCell ?_ ?_ _) | (with_reducible refine Below.alloc ?_ ?_ _) | (with_reducible refine Below.drew ?_) | (simp; done) | (simp; omega))
  · obtain rfl : f = ⟨false, 2, false, -9223372036854775808, 9223372036854775807, false⟩ := (Option.some.inj h).symm
    clear h
    go_enter Tryz.func113, Tryz.ntmps113
    go_wp2
    refine bodyPost_ret (v := .tuple #[.agg #[.bool false, .int .i64 2, .bool false], .bool true]) (by simp [results, Tryz.results113, go_sem]) rfl ⟨rfl, ?_⟩
    (repeat' first | with_reducible exact Below.refl _ _ | (with_reducible refine Below.setCell ?_ ?_ _) | (with_reducible refine Below.alloc ?_ ?_ _) | (with_reducible refine Below.drew ?_) | (simp; done) | (simp; omega))
  · obtain rfl : f = ⟨true, 2, false, -9223372036854775808, 9223372036854775807, false⟩ := (Option.some.inj h).symm
    clear h
    go_enter Tryz.func113, Tryz.ntmps113
    go_wp2
    refine bodyPost_ret (v := .tuple #[.agg #[.bool true, .int .i64 2, .bool false], .bool true]) (by simp [results, Tryz.results113, go_sem]) rfl ⟨rfl, ?_⟩
    (repeat' first | with_reducible exact Below.refl _ _ | (with_reducible refine Below.setCell ?_ ?_ _) | (with_reducible refine Below.alloc ?_ ?_ _) | (with_reducible refine Below.drew ?_) | (simp; done) | (simp; omega))
  · obtain rfl : f = ⟨false, 2, true, -9223372036854775808, 9223372036854775807, false⟩ := (Option.some.inj h).symm
    clear h
    go_enter Tryz.func113, Tryz.ntmps113
    go_wp2
    refine bodyPost_ret (v := .tuple #[.agg #[.bool false, .int .i64 2, .bool true], .bool true]) (by simp [results, Tryz.results113, go_sem]) rfl ⟨rfl, ?_⟩
    (repeat' first | with_reducible exact Below.refl _ _ | (with_reducible refine Below.setCell ?_ ?_ _) | (with_reducible refine Below.alloc ?_ ?_ _) | (with_reducible refine Below.drew ?_) | (simp; done) | (simp; omega))
  · obtain rfl : f = ⟨false, 2, true, -9223372036854775808, 9223372036854775807, false⟩ := (Option.some.inj h).symm
    clear h
    go_enter Tryz.func113, Tryz.ntmps113
    go_wp2
    refine bodyPost_ret (v := .tuple #[.agg #[.bool false, .int .i64 2, .bool true], .bool true]) (by simp [results, Tryz.results113, go_sem]) rfl ⟨rfl, ?_⟩
    (repeat' first | with_reducible exact Below.refl _ _ | (with_reducible refine Below.setCell ?_ ?_ _) | (with_reducible refine Below.alloc ?_ ?_ _) | (with_reducible refine Below.drew ?_) | (simp; done) | (simp; omega))
  · obtain rfl : f = ⟨false, 0, true, 0, 262144, true⟩ := (Option.some.inj h).symm
    clear h
    go_enter Tryz.func113, Tryz.ntmps113
    go_wp2
    refine bodyPost_ret (v := .tuple #[.agg #[.bool false, .int .i64 0, .bool true], .bool true]) (by simp [results, Tryz.results113, go_sem]) rfl ⟨rfl, ?_⟩
    (repeat' first | with_reducible exact Below.refl _ _ | (with_reducible refine Below.setCell ?_ ?_ _) | (with_reducible refine Below.alloc ?_ ?_ _) | (with_reducible refine Below.drew ?_) | (simp; done) | (simp; omega))
  · obtain rfl : f = ⟨false, 1, true, 0, 262144, true⟩ := (Option.some.inj h).symm
    clear h
    go_enter Tryz.func113, Tryz.ntmps113
    go_wp2
    refine bodyPost_ret (v := .tuple #[.agg #[.bool false, .int .i64 1, .bool true], .bool true]) (by simp [results, Tryz.results113, go_sem]) rfl ⟨rfl, ?_⟩
    (repeat' first | with_reducible exact Below.refl _ _ | (with_reducible refine Below.setCell ?_ ?_ _) | (with_reducible refine Below.alloc ?_ ?_ _) | (with_reducible refine Below.drew ?_) | (simp; done) | (simp; omega))
  · obtain rfl : f = ⟨false, 3, true, -9223372036854775808, 9223372036854775807, false⟩ := (Option.some.inj h).symm
    clear h
    go_enter Tryz.func113, Tryz.ntmps113
    go_wp2
    refine bodyPost_ret (v := .tuple #[.agg #[.bool false, .int .i64 3, .bool true], .bool true]) (by simp [results, Tryz.results113, go_sem]) rfl ⟨rfl, ?_⟩
    (repeat' first | with_reducible exact Below.refl _ _ | (with_reducible refine Below.setCell ?_ ?_ _) | (with_reducible refine Below.alloc ?_ ?_ _) | (with_reducible refine Below.drew ?_) | (simp; done) | (simp; omega))
  · obtain rfl : f = ⟨false, 2, true, -9223372036854775808, 9223372036854775807, false⟩ := (Option.some.inj h).symm
    clear h
    go_enter Tryz.func113, Tryz.ntmps113
    go_wp2
    refine bodyPost_ret (v := .tuple #[.agg #[.bool false, .int .i64 2, .bool true], .bool true]) (by simp [results, Tryz.results113, go_sem]) rfl ⟨rfl, ?_⟩
    (repeat' first | with_reducible exact Below.refl _ _ | (with_reducible refine Below.setCell ?_ ?_ _) | (with_reducible refine Below.alloc ?_ ?_ _) | (with_reducible refine Below.drew ?_) | (simp; done) | (simp; omega))
  · obtain rfl : f = ⟨false, 0, false, -9223372036854775808, 9223372036854775807, false⟩ := (Option.some.inj h).symm
    clear h
    go_enter Tryz.func113, Tryz.ntmps113
    go_wp2
    refine bodyPost_ret (v := .tuple #[.agg #[.bool false, .int .i64 0, .bool false], .bool true]) (by simp [results, Tryz.results113, go_sem]) rfl ⟨rfl, ?_⟩
    (repeat' first | with_reducible exact Below.refl _ _ | (with_reducible refine Below.setCell ?_ ?_ _) | (with_reducible refine Below.alloc ?_ ?_ _) | (with_reducible refine Below.drew ?_) | (simp; done) | (simp; omega))
  · obtain rfl : f = ⟨false, 1, false, -9223372036854775808, 9223372036854775807, false⟩ := (Option.some.inj h).symm
    clear h
    go_enter Tryz.func113, Tryz.ntmps113
    go_wp2
    refine bodyPost_ret (v := .tuple #[.agg #[.bool false, .int .i64 1, .bool false], .bool true]) (by simp [results, Tryz.results113, go_sem]) rfl ⟨rfl, ?_⟩
    (repeat' first | with_reducible exact Below.refl _ _ | (with_reducible refine Below.setCell ?_ ?_ _) | (with_reducible refine Below.alloc ?_ ?_ _) | (with_reducible refine Below.drew ?_) | (simp; done) | (simp; omega))
  · obtain rfl : f = ⟨false, 2, true, 1, 8, false⟩ := (Option.some.inj h).symm
    clear h
    go_enter Tryz.func113, Tryz.ntmps113
    go_wp2
    refine bodyPost_ret (v := .tuple #[.agg #[.bool false, .int .i64 2, .bool true], .bool true]) (by simp [results, Tryz.results113, go_sem]) rfl ⟨rfl, ?_⟩
    (repeat' first | with_reducible exact Below.refl _ _ | (with_reducible refine Below.setCell ?_ ?_ _) | (with_reducible refine Below.alloc ?_ ?_ _) | (with_reducible refine Below.drew ?_) | (simp; done) | (simp; omega))
  · obtain rfl : f = ⟨false, 0, true, 2, 8, false⟩ := (Option.some.inj h).symm
    clear h
    go_enter Tryz.func113, Tryz.ntmps113
    go_wp2
    refine bodyPost_ret (v := .tuple #[.agg #[.bool false, .int .i64 0, .bool true], .bool true]) (by simp [results, Tryz.results113, go_sem]) rfl ⟨rfl, ?_⟩
    (repeat' first | with_reducible exact Below.refl _ _ | (with_reducible refine Below.setCell ?_ ?_ _) | (with_reducible refine Below.alloc ?_ ?_ _) | (with_reducible refine Below.drew ?_) | (simp; done) | (simp; omega))
  · obtain rfl : f = ⟨false, 0, false, -9223372036854775808, 9223372036854775807, false⟩ := (Option.some.inj h).symm
    clear h
    go_enter Tryz.func113, Tryz.ntmps113
    go_wp2
    refine bodyPost_ret (v := .tuple #[.agg #[.bool false, .int .i64 0, .bool false], .bool true]) (by simp [results, Tryz.results113, go_sem]) rfl ⟨rfl, ?_⟩
    (repeat' first | with_reducible exact Below.refl _ _ | (with_reducible refine Below.setCell ?_ ?_ _) | (with_reducible refine Below.alloc ?_ ?_ _) | (with_reducible refine Below.drew ?_) | (simp; done) | (simp; omega))
  · obtain rfl : f = ⟨false, 2, true, -9223372036854775808, 9223372036854775807, false⟩ := (Option.some.inj h).symm
    clear h
    go_enter Tryz.func113, Tryz.ntmps113
    go_wp2
    refine bodyPost_ret (v := .tuple #[.agg #[.bool false, .int .i64 2, .bool true], .bool true]) (by simp [results, Tryz.results113, go_sem]) rfl ⟨rfl, ?_⟩
    (repeat' first | with_reducible exact Below.refl _ _ | (with_reducible refine Below.setCell ?_ ?_ _) | (with_reducible refine Below.alloc ?_ ?_ _) | (with_reducible refine Below.drew ?_) | (simp; done) | (simp; omega))
  · rw [h0] at h; cases h

set_option maxHeartbeats 4000000 in
set_option maxRecDepth 100000 in
theorem rfields_none (k : Int) (h : formV k = none) (w : World) :
    Calls Tryz.prog 113 #[.int .u8 k] w fun e w' => e = .returned (.tuple #[.agg #[.bool false, .int .i64 0, .bool false], .bool false]) ∧ Below w.heap.size w w' := by
  rcases formV_cases k with h1 | ⟨-, h1, h2, h3, h4, h5, h6, h7, h8, h9, h10, h11, h12, h13, h14, h15⟩
  · exfalso
    rcases h1 with rfl | rfl | rfl | rfl | rfl | rfl | rfl | rfl | rfl | rfl | rfl | rfl | rfl | rfl | rfl <;> cases h
  · clear h
    replace h1 : (k == 1) = false := by simpa using h1
    replace h2 : (k == 2) = false := by simpa using h2
    replace h3 : (k == 3) = false := by simpa using h3
    replace h4 : (k == 4) = false := by simpa using h4
    replace h5 : (k == 5) = false := by simpa using h5
    replace h6 : (k == 6) = false := by simpa using h6
    replace h7 : (k == 7) = false := by simpa using h7
    replace h8 : (k == 8) = false := by simpa using h8
    replace h9 : (k == 9) = false := by simpa using h9
    replace h10 : (k == 10) = false := by simpa using h10
    replace h11 : (k == 11) = false := by simpa using h11
    replace h12 : (k == 12) = false := by simpa using h12
    replace h13 : (k == 13) = false := by simpa using h13
    replace h14 : (k == 14) = false := by simpa using h14
    replace h15 : (k == 15) = false := by simpa using h15
    go_enter Tryz.func113, Tryz.ntmps113
    go_wp2
    refine bodyPost_ret (v := .tuple #[.agg #[.bool false, .int .i64 0, .bool false], .bool false]) (by simp [results, Tryz.results113, go_sem]) rfl ⟨rfl, ?_⟩
    (repeat' first | with_reducible exact Below.refl _ _ | (with_reducible refine Below.setCell ?_ ?_ _) | (with_reducible refine Below.alloc ?_ ?_ _) | (with_reducible refine Below.drew ?_) | (simp; done) | (simp; omega))

set_option maxHeartbeats 4000000 in
set_option maxRecDepth 100000 in
theorem rnumber_any (k n : Int) (f : Form) (h : formV k = some f) (hnum : f.num = true) (hn : -9223372036854775808 ≤ n ∧ n ≤ 9223372036854775807) (w : World) :
    Calls Tryz.prog 187 #[.int .u8 k, .int .i64 n] w fun e w' => e = .returned (.bool (decide (f.lo ≤ n ∧ n ≤ f.hi))) ∧ w = w' := by
  obtain ⟨V, hV⟩ : ∃ V, decide (f.lo ≤ n ∧ n ≤ f.hi) = V := ⟨_, rfl⟩
  rw [hV]
  rcases formV_cases k with (rfl | rfl | rfl | rfl | rfl | rfl | rfl | rfl | rfl | rfl | rfl | rfl | rfl | rfl | rfl) | ⟨h0, -⟩
  · obtain rfl := (Option.some.inj h).symm
    have HE : Hid (true = V) := Lib.hid (by rw [← hV]; simp; omega)
    clear hV
    clear h hnum
    go_enter Tryz.func187, Tryz.ntmps187
    go_wp2_with fail
    go_ret
    exact ⟨end_bool HE.out, rfl⟩
  · obtain rfl := (Option.some.inj h).symm; cases hnum
  · obtain rfl := (Option.some.inj h).symm; cases hnum
  · obtain rfl := (Option.some.inj h).symm
    have HE : Hid (true = V) := Lib.hid (by rw [← hV]; simp; omega)
    clear hV
    clear h hnum
    go_enter Tryz.func187, Tryz.ntmps187
    go_wp2_with fail
    go_ret
    exact ⟨end_bool HE.out, rfl⟩
  · obtain rfl := (Option.some.inj h).symm
    have HE : Hid (true = V) := Lib.hid (by rw [← hV]; simp; omega)
    clear hV
    clear h hnum
    go_enter Tryz.func187, Tryz.ntmps187
    go_wp2_with fail
    go_ret
    exact ⟨end_bool HE.out, rfl⟩
  · obtain rfl := (Option.some.inj h).symm
    by_cases h1 : 0 ≤ n
    · have HE : Hid (decide (n ≤ 262144) = V) := Lib.hid (by rw [← hV]; simp [h1])
      have g1 : decide (0 ≤ n) = true := by simpa using h1
      clear hV
      clear h hnum
      go_enter Tryz.func187, Tryz.ntmps187
      go_wp2_with fail
      go_ret
      exact ⟨end_bool HE.out, rfl⟩
    · have HE : Hid (false = V) := Lib.hid (by rw [← hV]; simp [h1])
      have g1 : decide (0 ≤ n) = false := by simpa using h1
      clear hV
      clear h hnum
      go_enter Tryz.func187, Tryz.ntmps187
      go_wp2_with fail
      go_ret
      exact ⟨end_bool HE.out, rfl⟩
  · obtain rfl := (Option.some.inj h).symm
    by_cases h1 : 0 ≤ n
    · have HE : Hid (decide (n ≤ 262144) = V) := Lib.hid (by rw [← hV]; simp [h1])
      have g1 : decide (0 ≤ n) = true := by simpa using h1
      clear hV
      clear h hnum
      go_enter Tryz.func187, Tryz.ntmps187
      go_wp2_with fail
      go_ret
      exact ⟨end_bool HE.out, rfl⟩
    · have HE : Hid (false = V) := Lib.hid (by rw [← hV]; simp [h1])
      have g1 : decide (0 ≤ n) = false := by simpa using h1
      clear hV
      clear h hnum
      go_enter Tryz.func187, Tryz.ntmps187
      go_wp2_with fail
      go_ret
      exact ⟨end_bool HE.out, rfl⟩
  · obtain rfl := (Option.some.inj h).symm
    have HE : Hid (true = V) := Lib.hid (by rw [← hV]; simp; omega)
    clear hV
    clear h hnum
    go_enter Tryz.func187, Tryz.ntmps187
    go_wp2_with fail
    go_ret
    exact ⟨end_bool HE.out, rfl⟩
  · obtain rfl := (Option.some.inj h).symm
    have HE : Hid (true = V) := Lib.hid (by rw [← hV]; simp; omega)
    clear hV
    clear h hnum
    go_enter Tryz.func187, Tryz.ntmps187
    go_wp2_with fail
    go_ret
    exact ⟨end_bool HE.out, rfl⟩
  · obtain rfl := (Option.some.inj h).symm; cases hnum
  · obtain rfl := (Option.some.inj h).symm; cases hnum
  · obtain rfl := (Option.some.inj h).symm
    by_cases h1 : 1 ≤ n
    · have HE : Hid (decide (n ≤ 8) = V) := Lib.hid (by rw [← hV]; simp [h1])
      have g1 : decide (1 ≤ n) = true := by simpa using h1
      clear hV
      clear h hnum
      go_enter Tryz.func187, Tryz.ntmps187
      go_wp2_with fail
      go_ret
      exact ⟨end_bool HE.out, rfl⟩
    · have HE : Hid (false = V) := Lib.hid (by rw [← hV]; simp [h1])
      have g1 : decide (1 ≤ n) = false := by simpa using h1
      clear hV
      clear h hnum
      go_enter Tryz.func187, Tryz.ntmps187
      go_wp2_with fail
      go_ret
      exact ⟨end_bool HE.out, rfl⟩
  · obtain rfl := (Option.some.inj h).symm
    by_cases h1 : 2 ≤ n
    · have HE : Hid (decide (n ≤ 8) = V) := Lib.hid (by rw [← hV]; simp [h1])
      have g1 : decide (2 ≤ n) = true := by simpa using h1
      clear hV
      clear h hnum
      go_enter Tryz.func187, Tryz.ntmps187
      go_wp2_with fail
      go_ret
      exact ⟨end_bool HE.out, rfl⟩
    · have HE : Hid (false = V) := Lib.hid (by rw [← hV]; simp [h1])
      have g1 : decide (2 ≤ n) = false := by simpa using h1
      clear hV
      clear h hnum
      go_enter Tryz.func187, Tryz.ntmps187
      go_wp2_with fail
      go_ret
      exact ⟨end_bool HE.out, rfl⟩
  · obtain rfl := (Option.some.inj h).symm; cases hnum
  · obtain rfl := (Option.some.inj h).symm
    have HE : Hid (true = V) := Lib.hid (by rw [← hV]; simp; omega)
    clear hV
    clear h hnum
    go_enter Tryz.func187, Tryz.ntmps187
    go_wp2_with fail
    go_ret
    exact ⟨end_bool HE.out, rfl⟩
  · rw [h0] at h; cases h
end Go.Proofs.YtkkcngppmhebbaaGreatDoor
