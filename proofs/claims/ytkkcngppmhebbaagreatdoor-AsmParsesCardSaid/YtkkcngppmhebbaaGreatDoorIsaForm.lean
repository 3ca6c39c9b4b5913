/-
  isa.formOf: what a kind of instruction has.
-/
import Derived.Test.YtkkcngppmhebbaaGreatDoorAsmPlain
set_option linter.unusedVariables false
set_option linter.unusedSimpArgs false
namespace Go.Proofs.YtkkcngppmhebbaaGreatDoor
open Go.RowKit

abbrev Form.val (f : Form) : Value := .agg #[.bool f.cal, .int .i64 f.regs, .bool f.num, .int .i64 f.lo, .int .i64 f.hi]

set_option maxHeartbeats 4000000 in
set_option maxRecDepth 100000 in
theorem form_some (k : Int) (f : Form) (h : formV k = some f) (w : World) :
    Calls Tryz.prog 183 #[.int .u8 k] w fun e w' => e = .returned (.tuple #[.agg #[.bool f.cal, .int .i64 f.regs, .bool f.num, .int .i64 f.lo, .int .i64 f.hi], .bool true]) ∧ Below w.heap.size w w' := by
  rcases formV_cases k with (rfl | rfl | rfl | rfl | rfl | rfl | rfl | rfl | rfl | rfl | rfl | rfl | rfl | rfl | rfl) | ⟨h0, -⟩
  · obtain rfl : f = ⟨false, 1, true, -9223372036854775808, 9223372036854775807, false⟩ := (Option.some.inj h).symm
    clear h
    go_enter Tryz.func183, Tryz.ntmps183
    go_wp2
    refine bodyPost_ret (v := .tuple #[.agg #[.bool false, .int .i64 1, .bool true, .int .i64 (-9223372036854775808), .int .i64 9223372036854775807], .bool true]) (by simp [results, Tryz.results183, go_sem]) rfl ⟨rfl, ?_⟩
    (repeat' first | with_reducible exact Below.refl _ _ | (with_reducible refine Below.setCell ?_ ?_ _) | (with_reducible refine Below.alloc ?_ ?_ _) | (with_reducible refine Below.drew ?_) | (simp; done) | (simp; omega))
  · obtain rfl : f = ⟨false, 2, false, -9223372036854775808, 9223372036854775807, false⟩ := (Option.some.inj h).symm
    clear h
    go_enter Tryz.func183, Tryz.ntmps183
    go_wp2
    refine bodyPost_ret (v := .tuple #[.agg #[.bool false, .int .i64 2, .bool false, .int .i64 (-9223372036854775808), .int .i64 9223372036854775807], .bool true]) (by simp [results, Tryz.results183, go_sem]) rfl ⟨rfl, ?_⟩
    (repeat' first | with_reducible exact Below.refl _ _ | (with_reducible refine Below.setCell ?_ ?_ _) | (with_reducible refine Below.alloc ?_ ?_ _) | (with_reducible refine Below.drew ?_) | (simp; done) | (simp; omega))
  · obtain rfl : f = ⟨true, 2, false, -9223372036854775808, 9223372036854775807, false⟩ := (Option.some.inj h).symm
    clear h
    go_enter Tryz.func183, Tryz.ntmps183
    go_wp2
    refine bodyPost_ret (v := .tuple #[.agg #[.bool true, .int .i64 2, .bool false, .int .i64 (-9223372036854775808), .int .i64 9223372036854775807], .bool true]) (by simp [results, Tryz.results183, go_sem]) rfl ⟨rfl, ?_⟩
    (repeat' first | with_reducible exact Below.refl _ _ | (with_reducible refine Below.setCell ?_ ?_ _) | (with_reducible refine Below.alloc ?_ ?_ _) | (with_reducible refine Below.drew ?_) | (simp; done) | (simp; omega))
  · obtain rfl : f = ⟨false, 2, true, -9223372036854775808, 9223372036854775807, false⟩ := (Option.some.inj h).symm
    clear h
    go_enter Tryz.func183, Tryz.ntmps183
    go_wp2
    refine bodyPost_ret (v := .tuple #[.agg #[.bool false, .int .i64 2, .bool true, .int .i64 (-9223372036854775808), .int .i64 9223372036854775807], .bool true]) (by simp [results, Tryz.results183, go_sem]) rfl ⟨rfl, ?_⟩
    (repeat' first | with_reducible exact Below.refl _ _ | (with_reducible refine Below.setCell ?_ ?_ _) | (with_reducible refine Below.alloc ?_ ?_ _) | (with_reducible refine Below.drew ?_) | (simp; done) | (simp; omega))
  · obtain rfl : f = ⟨false, 2, true, -9223372036854775808, 9223372036854775807, false⟩ := (Option.some.inj h).symm
    clear h
    go_enter Tryz.func183, Tryz.ntmps183
    go_wp2
    refine bodyPost_ret (v := .tuple #[.agg #[.bool false, .int .i64 2, .bool true, .int .i64 (-9223372036854775808), .int .i64 9223372036854775807], .bool true]) (by simp [results, Tryz.results183, go_sem]) rfl ⟨rfl, ?_⟩
    (repeat' first | with_reducible exact Below.refl _ _ | (with_reducible refine Below.setCell ?_ ?_ _) | (with_reducible refine Below.alloc ?_ ?_ _) | (with_reducible refine Below.drew ?_) | (simp; done) | (simp; omega))
  · obtain rfl : f = ⟨false, 0, true, 0, 262144, true⟩ := (Option.some.inj h).symm
    clear h
    go_enter Tryz.func183, Tryz.ntmps183
    go_wp2
    refine bodyPost_ret (v := .tuple #[.agg #[.bool false, .int .i64 0, .bool true, .int .i64 (0), .int .i64 262144], .bool true]) (by simp [results, Tryz.results183, go_sem]) rfl ⟨rfl, ?_⟩
    (repeat' first | with_reducible exact Below.refl _ _ | (with_reducible refine Below.setCell ?_ ?_ _) | (with_reducible refine Below.alloc ?_ ?_ _) | (with_reducible refine Below.drew ?_) | (simp; done) | (simp; omega))
  · obtain rfl : f = ⟨false, 1, true, 0, 262144, true⟩ := (Option.some.inj h).symm
    clear h
    go_enter Tryz.func183, Tryz.ntmps183
    go_wp2
    refine bodyPost_ret (v := .tuple #[.agg #[.bool false, .int .i64 1, .bool true, .int .i64 (0), .int .i64 262144], .bool true]) (by simp [results, Tryz.results183, go_sem]) rfl ⟨rfl, ?_⟩
    (repeat' first | with_reducible exact Below.refl _ _ | (with_reducible refine Below.setCell ?_ ?_ _) | (with_reducible refine Below.alloc ?_ ?_ _) | (with_reducible refine Below.drew ?_) | (simp; done) | (simp; omega))
  · obtain rfl : f = ⟨false, 3, true, -9223372036854775808, 9223372036854775807, false⟩ := (Option.some.inj h).symm
    clear h
    go_enter Tryz.func183, Tryz.ntmps183
    go_wp2
    refine bodyPost_ret (v := .tuple #[.agg #[.bool false, .int .i64 3, .bool true, .int .i64 (-9223372036854775808), .int .i64 9223372036854775807], .bool true]) (by simp [results, Tryz.results183, go_sem]) rfl ⟨rfl, ?_⟩
    (repeat' first | with_reducible exact Below.refl _ _ | (with_reducible refine Below.setCell ?_ ?_ _) | (with_reducible refine Below.alloc ?_ ?_ _) | (with_reducible refine Below.drew ?_) | (simp; done) | (simp; omega))
  · obtain rfl : f = ⟨false, 2, true, -9223372036854775808, 9223372036854775807, false⟩ := (Option.some.inj h).symm
    clear h
    go_enter Tryz.func183, Tryz.ntmps183
    go_wp2
    refine bodyPost_ret (v := .tuple #[.agg #[.bool false, .int .i64 2, .bool true, .int .i64 (-9223372036854775808), .int .i64 9223372036854775807], .bool true]) (by simp [results, Tryz.results183, go_sem]) rfl ⟨rfl, ?_⟩
    (repeat' first | with_reducible exact Below.refl _ _ | (with_reducible refine Below.setCell ?_ ?_ _) | (with_reducible refine Below.alloc ?_ ?_ _) | (with_reducible refine Below.drew ?_) | (simp; done) | (simp; omega))
  · obtain rfl : f = ⟨false, 0, false, -9223372036854775808, 9223372036854775807, false⟩ := (Option.some.inj h).symm
    clear h
    go_enter Tryz.func183, Tryz.ntmps183
    go_wp2
    refine bodyPost_ret (v := .tuple #[.agg #[.bool false, .int .i64 0, .bool false, .int .i64 (-9223372036854775808), .int .i64 9223372036854775807], .bool true]) (by simp [results, Tryz.results183, go_sem]) rfl ⟨rfl, ?_⟩
    (repeat' first | with_reducible exact Below.refl _ _ | (with_reducible refine Below.setCell ?_ ?_ _) | (with_reducible refine Below.alloc ?_ ?_ _) | (with_reducible refine Below.drew ?_) | (simp; done) | (simp; omega))
  · obtain rfl : f = ⟨false, 1, false, -9223372036854775808, 9223372036854775807, false⟩ := (Option.some.inj h).symm
    clear h
    go_enter Tryz.func183, Tryz.ntmps183
    go_wp2
    refine bodyPost_ret (v := .tuple #[.agg #[.bool false, .int .i64 1, .bool false, .int .i64 (-9223372036854775808), .int .i64 9223372036854775807], .bool true]) (by simp [results, Tryz.results183, go_sem]) rfl ⟨rfl, ?_⟩
    (repeat' first | with_reducible exact Below.refl _ _ | (with_reducible refine Below.setCell ?_ ?_ _) | (with_reducible refine Below.alloc ?_ ?_ _) | (with_reducible refine Below.drew ?_) | (simp; done) | (simp; omega))
  · obtain rfl : f = ⟨false, 2, true, 1, 8, false⟩ := (Option.some.inj h).symm
    clear h
    go_enter Tryz.func183, Tryz.ntmps183
    go_wp2
    refine bodyPost_ret (v := .tuple #[.agg #[.bool false, .int .i64 2, .bool true, .int .i64 (1), .int .i64 8], .bool true]) (by simp [results, Tryz.results183, go_sem]) rfl ⟨rfl, ?_⟩
    (repeat' first | with_reducible exact Below.refl _ _ | (with_reducible refine Below.setCell ?_ ?_ _) | (with_reducible refine Below.alloc ?_ ?_ _) | (with_reducible refine Below.drew ?_) | (simp; done) | (simp; omega))
  · obtain rfl : f = ⟨false, 0, true, 2, 8, false⟩ := (Option.some.inj h).symm
    clear h
    go_enter Tryz.func183, Tryz.ntmps183
    go_wp2
    refine bodyPost_ret (v := .tuple #[.agg #[.bool false, .int .i64 0, .bool true, .int .i64 (2), .int .i64 8], .bool true]) (by simp [results, Tryz.results183, go_sem]) rfl ⟨rfl, ?_⟩
    (repeat' first | with_reducible exact Below.refl _ _ | (with_reducible refine Below.setCell ?_ ?_ _) | (with_reducible refine Below.alloc ?_ ?_ _) | (with_reducible refine Below.drew ?_) | (simp; done) | (simp; omega))
  · obtain rfl : f = ⟨false, 0, false, -9223372036854775808, 9223372036854775807, false⟩ := (Option.some.inj h).symm
    clear h
    go_enter Tryz.func183, Tryz.ntmps183
    go_wp2
    refine bodyPost_ret (v := .tuple #[.agg #[.bool false, .int .i64 0, .bool false, .int .i64 (-9223372036854775808), .int .i64 9223372036854775807], .bool true]) (by simp [results, Tryz.results183, go_sem]) rfl ⟨rfl, ?_⟩
    (repeat' first | with_reducible exact Below.refl _ _ | (with_reducible refine Below.setCell ?_ ?_ _) | (with_reducible refine Below.alloc ?_ ?_ _) | (with_reducible refine Below.drew ?_) | (simp; done) | (simp; omega))
  · obtain rfl : f = ⟨false, 2, true, -9223372036854775808, 9223372036854775807, false⟩ := (Option.some.inj h).symm
    clear h
    go_enter Tryz.func183, Tryz.ntmps183
    go_wp2
    refine bodyPost_ret (v := .tuple #[.agg #[.bool false, .int .i64 2, .bool true, .int .i64 (-9223372036854775808), .int .i64 9223372036854775807], .bool true]) (by simp [results, Tryz.results183, go_sem]) rfl ⟨rfl, ?_⟩
    (repeat' first | with_reducible exact Below.refl _ _ | (with_reducible refine Below.setCell ?_ ?_ _) | (with_reducible refine Below.alloc ?_ ?_ _) | (with_reducible refine Below.drew ?_) | (simp; done) | (simp; omega))
  · rw [h0] at h; cases h

set_option maxHeartbeats 4000000 in
set_option maxRecDepth 100000 in
theorem form_none (k : Int) (h : formV k = none) (w : World) :
    Calls Tryz.prog 183 #[.int .u8 k] w fun e w' => e = .returned (.tuple #[.agg #[.bool false, .int .i64 0, .bool false, .int .i64 0, .int .i64 0], .bool false]) ∧ Below w.heap.size w w' := by
  rcases formV_cases k with h1 | ⟨-, h1, h2, h3, h4, h5, h6, h7, h8, h9, h10, h11, h12, h13, h14, h15⟩
  · exfalso
    rcases h1 with rfl | rfl | rfl | rfl | rfl | rfl | rfl | rfl | rfl | rfl | rfl | rfl | rfl | rfl | rfl <;> cases h
  · clear h
    replace h1 : (k == 1) = false := by simpa using h1
    replace h2 : (k == 2) = false := by simpa using h2
    replace h3 : (k == 3) = false := by simpa using h3
    replace h4 : (k == 4) = false := by simpa using h4
    replace h5 : (k == 5) = false := by simpa using h5
    replace h6 : (k == 6) = false := by simpa using h6
    replace h7 : (k == 7) = false := by simpa using h7
    replace h8 : (k == 8) = false := by simpa using h8
    replace h9 : (k == 9) = false := by simpa using h9
    replace h10 : (k == 10) = false := by simpa using h10
    replace h11 : (k == 11) = false := by simpa using h11
    replace h12 : (k == 12) = false := by simpa using h12
    replace h13 : (k == 13) = false := by simpa using h13
    replace h14 : (k == 14) = false := by simpa using h14
    replace h15 : (k == 15) = false := by simpa using h15
    go_enter Tryz.func183, Tryz.ntmps183
    go_wp2
    refine bodyPost_ret (v := .tuple #[.agg #[.bool false, .int .i64 0, .bool false, .int .i64 0, .int .i64 0], .bool false]) (by simp [results, Tryz.results183, go_sem]) rfl ⟨rfl, ?_⟩
    (repeat' first | with_reducible exact Below.refl _ _ | (with_reducible refine Below.setCell ?_ ?_ _) | (with_reducible refine Below.alloc ?_ ?_ _) | (with_reducible refine Below.drew ?_) | (simp; done) | (simp; omega))
end Go.Proofs.YtkkcngppmhebbaaGreatDoor
