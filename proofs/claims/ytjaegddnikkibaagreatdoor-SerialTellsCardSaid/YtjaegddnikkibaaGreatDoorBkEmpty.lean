/-
  The book's kinds without lists: filled, grown, looked at; its bits.
-/
import Derived.Test.YtjaegddnikkibaaGreatDoorProg
import Derived.WalkKit
import Derived.Lib.Hide
import Derived.Test.YtjaegddnikkibaaGreatDoorBkNumber
set_option linter.unusedVariables false
set_option linter.unusedSimpArgs false
namespace Go.Proofs.YtjaegddnikkibaaGreatDoor
open Go.RowKit

theorem efillNumber_any (K : Nat) (w : World) (hc : w.cell? ⟨K, 2, none⟩ = some (.slice none 0 0)) : Calls Tryz.prog 40 #[.pointer (some ⟨K, 0, none⟩)] w fun e w' => e = .returned (.tuple #[]) ∧ w = w' := by
  go_enter Tryz.func40, Tryz.ntmps40
  go_wp2_with fail
  refine wp_loop_rounds 1 ?_
  rw [rounds_succ]
  go_wp2_with fail
  go_end0
  exact ⟨rfl, rfl⟩
theorem egrowNumber_any (K : Nat) (w : World) (hc : w.cell? ⟨K, 2, none⟩ = some (.slice none 0 0)) : Calls Tryz.prog 66 #[.pointer (some ⟨K, 0, none⟩)] w fun e w' => e = .returned (.tuple #[]) ∧ w = w' := by
  go_enter Tryz.func66, Tryz.ntmps66
  go_wp2_with fail
  refine wp_loop_rounds 1 ?_
  rw [rounds_succ]
  go_wp2_with fail
  go_end0
  exact ⟨rfl, rfl⟩
theorem elookNumber_any (K : Nat) (w : World) (hc : w.cell? ⟨K, 2, none⟩ = some (.slice none 0 0)) : Calls Tryz.prog 93 #[.pointer (some ⟨K, 0, none⟩)] w fun e w' => e = .returned (.bool true) ∧ w = w' := by
  go_enter Tryz.func93, Tryz.ntmps93
  go_wp2_with fail
  refine wp_loop_rounds 1 ?_
  rw [rounds_succ]
  go_wp2_with fail
  go_ret
  exact ⟨rfl, rfl⟩
theorem efillWide_any (K : Nat) (w : World) (hc : w.cell? ⟨K, 3, none⟩ = some (.slice none 0 0)) : Calls Tryz.prog 41 #[.pointer (some ⟨K, 0, none⟩)] w fun e w' => e = .returned (.tuple #[]) ∧ w = w' := by
  go_enter Tryz.func41, Tryz.ntmps41
  go_wp2_with fail
  refine wp_loop_rounds 1 ?_
  rw [rounds_succ]
  go_wp2_with fail
  go_end0
  exact ⟨rfl, rfl⟩
theorem egrowWide_any (K : Nat) (w : World) (hc : w.cell? ⟨K, 3, none⟩ = some (.slice none 0 0)) : Calls Tryz.prog 67 #[.pointer (some ⟨K, 0, none⟩)] w fun e w' => e = .returned (.tuple #[]) ∧ w = w' := by
  go_enter Tryz.func67, Tryz.ntmps67
  go_wp2_with fail
  refine wp_loop_rounds 1 ?_
  rw [rounds_succ]
  go_wp2_with fail
  go_end0
  exact ⟨rfl, rfl⟩
theorem elookWide_any (K : Nat) (w : World) (hc : w.cell? ⟨K, 3, none⟩ = some (.slice none 0 0)) : Calls Tryz.prog 94 #[.pointer (some ⟨K, 0, none⟩)] w fun e w' => e = .returned (.bool true) ∧ w = w' := by
  go_enter Tryz.func94, Tryz.ntmps94
  go_wp2_with fail
  refine wp_loop_rounds 1 ?_
  rw [rounds_succ]
  go_wp2_with fail
  go_ret
  exact ⟨rfl, rfl⟩
theorem efillText_any (K : Nat) (w : World) (hc : w.cell? ⟨K, 4, none⟩ = some (.slice none 0 0)) : Calls Tryz.prog 42 #[.pointer (some ⟨K, 0, none⟩)] w fun e w' => e = .returned (.tuple #[]) ∧ w = w' := by
  go_enter Tryz.func42, Tryz.ntmps42
  go_wp2_with fail
  refine wp_loop_rounds 1 ?_
  rw [rounds_succ]
  go_wp2_with fail
  go_end0
  exact ⟨rfl, rfl⟩
theorem egrowText_any (K : Nat) (w : World) (hc : w.cell? ⟨K, 4, none⟩ = some (.slice none 0 0)) : Calls Tryz.prog 68 #[.pointer (some ⟨K, 0, none⟩)] w fun e w' => e = .returned (.tuple #[]) ∧ w = w' := by
  go_enter Tryz.func68, Tryz.ntmps68
  go_wp2_with fail
  refine wp_loop_rounds 1 ?_
  rw [rounds_succ]
  go_wp2_with fail
  go_end0
  exact ⟨rfl, rfl⟩
theorem elookText_any (K : Nat) (w : World) (hc : w.cell? ⟨K, 4, none⟩ = some (.slice none 0 0)) : Calls Tryz.prog 95 #[.pointer (some ⟨K, 0, none⟩)] w fun e w' => e = .returned (.bool true) ∧ w = w' := by
  go_enter Tryz.func95, Tryz.ntmps95
  go_wp2_with fail
  refine wp_loop_rounds 1 ?_
  rw [rounds_succ]
  go_wp2_with fail
  go_ret
  exact ⟨rfl, rfl⟩
theorem efillCell_any (K : Nat) (w : World) (hc : w.cell? ⟨K, 5, none⟩ = some (.slice none 0 0)) : Calls Tryz.prog 43 #[.pointer (some ⟨K, 0, none⟩)] w fun e w' => e = .returned (.tuple #[]) ∧ w = w' := by
  go_enter Tryz.func43, Tryz.ntmps43
  go_wp2_with fail
  refine wp_loop_rounds 1 ?_
  rw [rounds_succ]
  go_wp2_with fail
  go_end0
  exact ⟨rfl, rfl⟩
theorem egrowCell_any (K : Nat) (w : World) (hc : w.cell? ⟨K, 5, none⟩ = some (.slice none 0 0)) : Calls Tryz.prog 69 #[.pointer (some ⟨K, 0, none⟩)] w fun e w' => e = .returned (.tuple #[]) ∧ w = w' := by
  go_enter Tryz.func69, Tryz.ntmps69
  go_wp2_with fail
  refine wp_loop_rounds 1 ?_
  rw [rounds_succ]
  go_wp2_with fail
  go_end0
  exact ⟨rfl, rfl⟩
theorem elookCell_any (K : Nat) (w : World) (hc : w.cell? ⟨K, 5, none⟩ = some (.slice none 0 0)) : Calls Tryz.prog 96 #[.pointer (some ⟨K, 0, none⟩)] w fun e w' => e = .returned (.bool true) ∧ w = w' := by
  go_enter Tryz.func96, Tryz.ntmps96
  go_wp2_with fail
  refine wp_loop_rounds 1 ?_
  rw [rounds_succ]
  go_wp2_with fail
  go_ret
  exact ⟨rfl, rfl⟩
theorem efillIns_any (K : Nat) (w : World) (hc : w.cell? ⟨K, 6, none⟩ = some (.slice none 0 0)) : Calls Tryz.prog 44 #[.pointer (some ⟨K, 0, none⟩)] w fun e w' => e = .returned (.tuple #[]) ∧ w = w' := by
  go_enter Tryz.func44, Tryz.ntmps44
  go_wp2_with fail
  refine wp_loop_rounds 1 ?_
  rw [rounds_succ]
  go_wp2_with fail
  go_end0
  exact ⟨rfl, rfl⟩
theorem egrowIns_any (K : Nat) (w : World) (hc : w.cell? ⟨K, 6, none⟩ = some (.slice none 0 0)) : Calls Tryz.prog 70 #[.pointer (some ⟨K, 0, none⟩)] w fun e w' => e = .returned (.tuple #[]) ∧ w = w' := by
  go_enter Tryz.func70, Tryz.ntmps70
  go_wp2_with fail
  refine wp_loop_rounds 1 ?_
  rw [rounds_succ]
  go_wp2_with fail
  go_end0
  exact ⟨rfl, rfl⟩
theorem elookIns_any (K : Nat) (w : World) (hc : w.cell? ⟨K, 6, none⟩ = some (.slice none 0 0)) : Calls Tryz.prog 97 #[.pointer (some ⟨K, 0, none⟩)] w fun e w' => e = .returned (.bool true) ∧ w = w' := by
  go_enter Tryz.func97, Tryz.ntmps97
  go_wp2_with fail
  refine wp_loop_rounds 1 ?_
  rw [rounds_succ]
  go_wp2_with fail
  go_ret
  exact ⟨rfl, rfl⟩
theorem efillOp_any (K : Nat) (w : World) (hc : w.cell? ⟨K, 7, none⟩ = some (.slice none 0 0)) : Calls Tryz.prog 45 #[.pointer (some ⟨K, 0, none⟩)] w fun e w' => e = .returned (.tuple #[]) ∧ w = w' := by
  go_enter Tryz.func45, Tryz.ntmps45
  go_wp2_with fail
  refine wp_loop_rounds 1 ?_
  rw [rounds_succ]
  go_wp2_with fail
  go_end0
  exact ⟨rfl, rfl⟩
theorem egrowOp_any (K : Nat) (w : World) (hc : w.cell? ⟨K, 7, none⟩ = some (.slice none 0 0)) : Calls Tryz.prog 71 #[.pointer (some ⟨K, 0, none⟩)] w fun e w' => e = .returned (.tuple #[]) ∧ w = w' := by
  go_enter Tryz.func71, Tryz.ntmps71
  go_wp2_with fail
  refine wp_loop_rounds 1 ?_
  rw [rounds_succ]
  go_wp2_with fail
  go_end0
  exact ⟨rfl, rfl⟩
theorem elookOp_any (K : Nat) (w : World) (hc : w.cell? ⟨K, 7, none⟩ = some (.slice none 0 0)) : Calls Tryz.prog 98 #[.pointer (some ⟨K, 0, none⟩)] w fun e w' => e = .returned (.bool true) ∧ w = w' := by
  go_enter Tryz.func98, Tryz.ntmps98
  go_wp2_with fail
  refine wp_loop_rounds 1 ?_
  rw [rounds_succ]
  go_wp2_with fail
  go_ret
  exact ⟨rfl, rfl⟩
theorem efillEvent_any (K : Nat) (w : World) (hc : w.cell? ⟨K, 8, none⟩ = some (.slice none 0 0)) : Calls Tryz.prog 46 #[.pointer (some ⟨K, 0, none⟩)] w fun e w' => e = .returned (.tuple #[]) ∧ w = w' := by
  go_enter Tryz.func46, Tryz.ntmps46
  go_wp2_with fail
  refine wp_loop_rounds 1 ?_
  rw [rounds_succ]
  go_wp2_with fail
  go_end0
  exact ⟨rfl, rfl⟩
theorem egrowEvent_any (K : Nat) (w : World) (hc : w.cell? ⟨K, 8, none⟩ = some (.slice none 0 0)) : Calls Tryz.prog 72 #[.pointer (some ⟨K, 0, none⟩)] w fun e w' => e = .returned (.tuple #[]) ∧ w = w' := by
  go_enter Tryz.func72, Tryz.ntmps72
  go_wp2_with fail
  refine wp_loop_rounds 1 ?_
  rw [rounds_succ]
  go_wp2_with fail
  go_end0
  exact ⟨rfl, rfl⟩
theorem elookEvent_any (K : Nat) (w : World) (hc : w.cell? ⟨K, 8, none⟩ = some (.slice none 0 0)) : Calls Tryz.prog 99 #[.pointer (some ⟨K, 0, none⟩)] w fun e w' => e = .returned (.bool true) ∧ w = w' := by
  go_enter Tryz.func99, Tryz.ntmps99
  go_wp2_with fail
  refine wp_loop_rounds 1 ?_
  rw [rounds_succ]
  go_wp2_with fail
  go_ret
  exact ⟨rfl, rfl⟩
theorem efillPick_any (K : Nat) (w : World) (hc : w.cell? ⟨K, 9, none⟩ = some (.slice none 0 0)) : Calls Tryz.prog 47 #[.pointer (some ⟨K, 0, none⟩)] w fun e w' => e = .returned (.tuple #[]) ∧ w = w' := by
  go_enter Tryz.func47, Tryz.ntmps47
  go_wp2_with fail
  refine wp_loop_rounds 1 ?_
  rw [rounds_succ]
  go_wp2_with fail
  go_end0
  exact ⟨rfl, rfl⟩
theorem egrowPick_any (K : Nat) (w : World) (hc : w.cell? ⟨K, 9, none⟩ = some (.slice none 0 0)) : Calls Tryz.prog 73 #[.pointer (some ⟨K, 0, none⟩)] w fun e w' => e = .returned (.tuple #[]) ∧ w = w' := by
  go_enter Tryz.func73, Tryz.ntmps73
  go_wp2_with fail
  refine wp_loop_rounds 1 ?_
  rw [rounds_succ]
  go_wp2_with fail
  go_end0
  exact ⟨rfl, rfl⟩
theorem elookPick_any (K : Nat) (w : World) (hc : w.cell? ⟨K, 9, none⟩ = some (.slice none 0 0)) : Calls Tryz.prog 100 #[.pointer (some ⟨K, 0, none⟩)] w fun e w' => e = .returned (.bool true) ∧ w = w' := by
  go_enter Tryz.func100, Tryz.ntmps100
  go_wp2_with fail
  refine wp_loop_rounds 1 ?_
  rw [rounds_succ]
  go_wp2_with fail
  go_ret
  exact ⟨rfl, rfl⟩
theorem efillPlace_any (K : Nat) (w : World) (hc : w.cell? ⟨K, 10, none⟩ = some (.slice none 0 0)) : Calls Tryz.prog 48 #[.pointer (some ⟨K, 0, none⟩)] w fun e w' => e = .returned (.tuple #[]) ∧ w = w' := by
  go_enter Tryz.func48, Tryz.ntmps48
  go_wp2_with fail
  refine wp_loop_rounds 1 ?_
  rw [rounds_succ]
  go_wp2_with fail
  go_end0
  exact ⟨rfl, rfl⟩
theorem egrowPlace_any (K : Nat) (w : World) (hc : w.cell? ⟨K, 10, none⟩ = some (.slice none 0 0)) : Calls Tryz.prog 74 #[.pointer (some ⟨K, 0, none⟩)] w fun e w' => e = .returned (.tuple #[]) ∧ w = w' := by
  go_enter Tryz.func74, Tryz.ntmps74
  go_wp2_with fail
  refine wp_loop_rounds 1 ?_
  rw [rounds_succ]
  go_wp2_with fail
  go_end0
  exact ⟨rfl, rfl⟩
theorem elookPlace_any (K : Nat) (w : World) (hc : w.cell? ⟨K, 10, none⟩ = some (.slice none 0 0)) : Calls Tryz.prog 101 #[.pointer (some ⟨K, 0, none⟩)] w fun e w' => e = .returned (.bool true) ∧ w = w' := by
  go_enter Tryz.func101, Tryz.ntmps101
  go_wp2_with fail
  refine wp_loop_rounds 1 ?_
  rw [rounds_succ]
  go_wp2_with fail
  go_ret
  exact ⟨rfl, rfl⟩
theorem efillTxOp_any (K : Nat) (w : World) (hc : w.cell? ⟨K, 11, none⟩ = some (.slice none 0 0)) : Calls Tryz.prog 49 #[.pointer (some ⟨K, 0, none⟩)] w fun e w' => e = .returned (.tuple #[]) ∧ w = w' := by
  go_enter Tryz.func49, Tryz.ntmps49
  go_wp2_with fail
  refine wp_loop_rounds 1 ?_
  rw [rounds_succ]
  go_wp2_with fail
  go_end0
  exact ⟨rfl, rfl⟩
theorem egrowTxOp_any (K : Nat) (w : World) (hc : w.cell? ⟨K, 11, none⟩ = some (.slice none 0 0)) : Calls Tryz.prog 75 #[.pointer (some ⟨K, 0, none⟩)] w fun e w' => e = .returned (.tuple #[]) ∧ w = w' := by
  go_enter Tryz.func75, Tryz.ntmps75
  go_wp2_with fail
  refine wp_loop_rounds 1 ?_
  rw [rounds_succ]
  go_wp2_with fail
  go_end0
  exact ⟨rfl, rfl⟩
theorem elookTxOp_any (K : Nat) (w : World) (hc : w.cell? ⟨K, 11, none⟩ = some (.slice none 0 0)) : Calls Tryz.prog 102 #[.pointer (some ⟨K, 0, none⟩)] w fun e w' => e = .returned (.bool true) ∧ w = w' := by
  go_enter Tryz.func102, Tryz.ntmps102
  go_wp2_with fail
  refine wp_loop_rounds 1 ?_
  rw [rounds_succ]
  go_wp2_with fail
  go_ret
  exact ⟨rfl, rfl⟩
theorem efillToken_any (K : Nat) (w : World) (hc : w.cell? ⟨K, 12, none⟩ = some (.slice none 0 0)) : Calls Tryz.prog 50 #[.pointer (some ⟨K, 0, none⟩)] w fun e w' => e = .returned (.tuple #[]) ∧ w = w' := by
  go_enter Tryz.func50, Tryz.ntmps50
  go_wp2_with fail
  refine wp_loop_rounds 1 ?_
  rw [rounds_succ]
  go_wp2_with fail
  go_end0
  exact ⟨rfl, rfl⟩
theorem egrowToken_any (K : Nat) (w : World) (hc : w.cell? ⟨K, 12, none⟩ = some (.slice none 0 0)) : Calls Tryz.prog 76 #[.pointer (some ⟨K, 0, none⟩)] w fun e w' => e = .returned (.tuple #[]) ∧ w = w' := by
  go_enter Tryz.func76, Tryz.ntmps76
  go_wp2_with fail
  refine wp_loop_rounds 1 ?_
  rw [rounds_succ]
  go_wp2_with fail
  go_end0
  exact ⟨rfl, rfl⟩
theorem elookToken_any (K : Nat) (w : World) (hc : w.cell? ⟨K, 12, none⟩ = some (.slice none 0 0)) : Calls Tryz.prog 103 #[.pointer (some ⟨K, 0, none⟩)] w fun e w' => e = .returned (.bool true) ∧ w = w' := by
  go_enter Tryz.func103, Tryz.ntmps103
  go_wp2_with fail
  refine wp_loop_rounds 1 ?_
  rw [rounds_succ]
  go_wp2_with fail
  go_ret
  exact ⟨rfl, rfl⟩
theorem efillField_any (K : Nat) (w : World) (hc : w.cell? ⟨K, 13, none⟩ = some (.slice none 0 0)) : Calls Tryz.prog 51 #[.pointer (some ⟨K, 0, none⟩)] w fun e w' => e = .returned (.tuple #[]) ∧ w = w' := by
  go_enter Tryz.func51, Tryz.ntmps51
  go_wp2_with fail
  refine wp_loop_rounds 1 ?_
  rw [rounds_succ]
  go_wp2_with fail
  go_end0
  exact ⟨rfl, rfl⟩
theorem egrowField_any (K : Nat) (w : World) (hc : w.cell? ⟨K, 13, none⟩ = some (.slice none 0 0)) : Calls Tryz.prog 77 #[.pointer (some ⟨K, 0, none⟩)] w fun e w' => e = .returned (.tuple #[]) ∧ w = w' := by
  go_enter Tryz.func77, Tryz.ntmps77
  go_wp2_with fail
  refine wp_loop_rounds 1 ?_
  rw [rounds_succ]
  go_wp2_with fail
  go_end0
  exact ⟨rfl, rfl⟩
theorem elookField_any (K : Nat) (w : World) (hc : w.cell? ⟨K, 13, none⟩ = some (.slice none 0 0)) : Calls Tryz.prog 104 #[.pointer (some ⟨K, 0, none⟩)] w fun e w' => e = .returned (.bool true) ∧ w = w' := by
  go_enter Tryz.func104, Tryz.ntmps104
  go_wp2_with fail
  refine wp_loop_rounds 1 ?_
  rw [rounds_succ]
  go_wp2_with fail
  go_ret
  exact ⟨rfl, rfl⟩
theorem efillSpot_any (K : Nat) (w : World) (hc : w.cell? ⟨K, 14, none⟩ = some (.slice none 0 0)) : Calls Tryz.prog 52 #[.pointer (some ⟨K, 0, none⟩)] w fun e w' => e = .returned (.tuple #[]) ∧ w = w' := by
  go_enter Tryz.func52, Tryz.ntmps52
  go_wp2_with fail
  refine wp_loop_rounds 1 ?_
  rw [rounds_succ]
  go_wp2_with fail
  go_end0
  exact ⟨rfl, rfl⟩
theorem egrowSpot_any (K : Nat) (w : World) (hc : w.cell? ⟨K, 14, none⟩ = some (.slice none 0 0)) : Calls Tryz.prog 78 #[.pointer (some ⟨K, 0, none⟩)] w fun e w' => e = .returned (.tuple #[]) ∧ w = w' := by
  go_enter Tryz.func78, Tryz.ntmps78
  go_wp2_with fail
  refine wp_loop_rounds 1 ?_
  rw [rounds_succ]
  go_wp2_with fail
  go_end0
  exact ⟨rfl, rfl⟩
theorem elookSpot_any (K : Nat) (w : World) (hc : w.cell? ⟨K, 14, none⟩ = some (.slice none 0 0)) : Calls Tryz.prog 105 #[.pointer (some ⟨K, 0, none⟩)] w fun e w' => e = .returned (.bool true) ∧ w = w' := by
  go_enter Tryz.func105, Tryz.ntmps105
  go_wp2_with fail
  refine wp_loop_rounds 1 ?_
  rw [rounds_succ]
  go_wp2_with fail
  go_ret
  exact ⟨rfl, rfl⟩
theorem efillSeen_any (K : Nat) (w : World) (hc : w.cell? ⟨K, 15, none⟩ = some (.slice none 0 0)) : Calls Tryz.prog 53 #[.pointer (some ⟨K, 0, none⟩)] w fun e w' => e = .returned (.tuple #[]) ∧ w = w' := by
  go_enter Tryz.func53, Tryz.ntmps53
  go_wp2_with fail
  refine wp_loop_rounds 1 ?_
  rw [rounds_succ]
  go_wp2_with fail
  go_end0
  exact ⟨rfl, rfl⟩
theorem egrowSeen_any (K : Nat) (w : World) (hc : w.cell? ⟨K, 15, none⟩ = some (.slice none 0 0)) : Calls Tryz.prog 79 #[.pointer (some ⟨K, 0, none⟩)] w fun e w' => e = .returned (.tuple #[]) ∧ w = w' := by
  go_enter Tryz.func79, Tryz.ntmps79
  go_wp2_with fail
  refine wp_loop_rounds 1 ?_
  rw [rounds_succ]
  go_wp2_with fail
  go_end0
  exact ⟨rfl, rfl⟩
theorem elookSeen_any (K : Nat) (w : World) (hc : w.cell? ⟨K, 15, none⟩ = some (.slice none 0 0)) : Calls Tryz.prog 106 #[.pointer (some ⟨K, 0, none⟩)] w fun e w' => e = .returned (.bool true) ∧ w = w' := by
  go_enter Tryz.func106, Tryz.ntmps106
  go_wp2_with fail
  refine wp_loop_rounds 1 ?_
  rw [rounds_succ]
  go_wp2_with fail
  go_ret
  exact ⟨rfl, rfl⟩
theorem efillExpr_any (K : Nat) (w : World) (hc : w.cell? ⟨K, 16, none⟩ = some (.slice none 0 0)) : Calls Tryz.prog 54 #[.pointer (some ⟨K, 0, none⟩)] w fun e w' => e = .returned (.tuple #[]) ∧ w = w' := by
  go_enter Tryz.func54, Tryz.ntmps54
  go_wp2_with fail
  refine wp_loop_rounds 1 ?_
  rw [rounds_succ]
  go_wp2_with fail
  go_end0
  exact ⟨rfl, rfl⟩
theorem egrowExpr_any (K : Nat) (w : World) (hc : w.cell? ⟨K, 16, none⟩ = some (.slice none 0 0)) : Calls Tryz.prog 80 #[.pointer (some ⟨K, 0, none⟩)] w fun e w' => e = .returned (.tuple #[]) ∧ w = w' := by
  go_enter Tryz.func80, Tryz.ntmps80
  go_wp2_with fail
  refine wp_loop_rounds 1 ?_
  rw [rounds_succ]
  go_wp2_with fail
  go_end0
  exact ⟨rfl, rfl⟩
theorem elookExpr_any (K : Nat) (w : World) (hc : w.cell? ⟨K, 16, none⟩ = some (.slice none 0 0)) : Calls Tryz.prog 107 #[.pointer (some ⟨K, 0, none⟩)] w fun e w' => e = .returned (.bool true) ∧ w = w' := by
  go_enter Tryz.func107, Tryz.ntmps107
  go_wp2_with fail
  refine wp_loop_rounds 1 ?_
  rw [rounds_succ]
  go_wp2_with fail
  go_ret
  exact ⟨rfl, rfl⟩
theorem efillStmt_any (K : Nat) (w : World) (hc : w.cell? ⟨K, 17, none⟩ = some (.slice none 0 0)) : Calls Tryz.prog 55 #[.pointer (some ⟨K, 0, none⟩)] w fun e w' => e = .returned (.tuple #[]) ∧ w = w' := by
  go_enter Tryz.func55, Tryz.ntmps55
  go_wp2_with fail
  refine wp_loop_rounds 1 ?_
  rw [rounds_succ]
  go_wp2_with fail
  go_end0
  exact ⟨rfl, rfl⟩
theorem egrowStmt_any (K : Nat) (w : World) (hc : w.cell? ⟨K, 17, none⟩ = some (.slice none 0 0)) : Calls Tryz.prog 81 #[.pointer (some ⟨K, 0, none⟩)] w fun e w' => e = .returned (.tuple #[]) ∧ w = w' := by
  go_enter Tryz.func81, Tryz.ntmps81
  go_wp2_with fail
  refine wp_loop_rounds 1 ?_
  rw [rounds_succ]
  go_wp2_with fail
  go_end0
  exact ⟨rfl, rfl⟩
theorem elookStmt_any (K : Nat) (w : World) (hc : w.cell? ⟨K, 17, none⟩ = some (.slice none 0 0)) : Calls Tryz.prog 108 #[.pointer (some ⟨K, 0, none⟩)] w fun e w' => e = .returned (.bool true) ∧ w = w' := by
  go_enter Tryz.func108, Tryz.ntmps108
  go_wp2_with fail
  refine wp_loop_rounds 1 ?_
  rw [rounds_succ]
  go_wp2_with fail
  go_ret
  exact ⟨rfl, rfl⟩
theorem efillRecord_any (K : Nat) (w : World) (hc : w.cell? ⟨K, 18, none⟩ = some (.slice none 0 0)) : Calls Tryz.prog 56 #[.pointer (some ⟨K, 0, none⟩)] w fun e w' => e = .returned (.tuple #[]) ∧ w = w' := by
  go_enter Tryz.func56, Tryz.ntmps56
  go_wp2_with fail
  refine wp_loop_rounds 1 ?_
  rw [rounds_succ]
  go_wp2_with fail
  go_end0
  exact ⟨rfl, rfl⟩
theorem egrowRecord_any (K : Nat) (w : World) (hc : w.cell? ⟨K, 18, none⟩ = some (.slice none 0 0)) : Calls Tryz.prog 82 #[.pointer (some ⟨K, 0, none⟩)] w fun e w' => e = .returned (.tuple #[]) ∧ w = w' := by
  go_enter Tryz.func82, Tryz.ntmps82
  go_wp2_with fail
  refine wp_loop_rounds 1 ?_
  rw [rounds_succ]
  go_wp2_with fail
  go_end0
  exact ⟨rfl, rfl⟩
theorem elookRecord_any (K : Nat) (w : World) (hc : w.cell? ⟨K, 18, none⟩ = some (.slice none 0 0)) : Calls Tryz.prog 109 #[.pointer (some ⟨K, 0, none⟩)] w fun e w' => e = .returned (.bool true) ∧ w = w' := by
  go_enter Tryz.func109, Tryz.ntmps109
  go_wp2_with fail
  refine wp_loop_rounds 1 ?_
  rw [rounds_succ]
  go_wp2_with fail
  go_ret
  exact ⟨rfl, rfl⟩
theorem efillFunc_any (K : Nat) (w : World) (hc : w.cell? ⟨K, 19, none⟩ = some (.slice none 0 0)) : Calls Tryz.prog 57 #[.pointer (some ⟨K, 0, none⟩)] w fun e w' => e = .returned (.tuple #[]) ∧ w = w' := by
  go_enter Tryz.func57, Tryz.ntmps57
  go_wp2_with fail
  refine wp_loop_rounds 1 ?_
  rw [rounds_succ]
  go_wp2_with fail
  go_end0
  exact ⟨rfl, rfl⟩
theorem egrowFunc_any (K : Nat) (w : World) (hc : w.cell? ⟨K, 19, none⟩ = some (.slice none 0 0)) : Calls Tryz.prog 83 #[.pointer (some ⟨K, 0, none⟩)] w fun e w' => e = .returned (.tuple #[]) ∧ w = w' := by
  go_enter Tryz.func83, Tryz.ntmps83
  go_wp2_with fail
  refine wp_loop_rounds 1 ?_
  rw [rounds_succ]
  go_wp2_with fail
  go_end0
  exact ⟨rfl, rfl⟩
theorem elookFunc_any (K : Nat) (w : World) (hc : w.cell? ⟨K, 19, none⟩ = some (.slice none 0 0)) : Calls Tryz.prog 110 #[.pointer (some ⟨K, 0, none⟩)] w fun e w' => e = .returned (.bool true) ∧ w = w' := by
  go_enter Tryz.func110, Tryz.ntmps110
  go_wp2_with fail
  refine wp_loop_rounds 1 ?_
  rw [rounds_succ]
  go_wp2_with fail
  go_ret
  exact ⟨rfl, rfl⟩
theorem efillBlock_any (K : Nat) (w : World) (hc : w.cell? ⟨K, 20, none⟩ = some (.slice none 0 0)) : Calls Tryz.prog 58 #[.pointer (some ⟨K, 0, none⟩)] w fun e w' => e = .returned (.tuple #[]) ∧ w = w' := by
  go_enter Tryz.func58, Tryz.ntmps58
  go_wp2_with fail
  refine wp_loop_rounds 1 ?_
  rw [rounds_succ]
  go_wp2_with fail
  go_end0
  exact ⟨rfl, rfl⟩
theorem egrowBlock_any (K : Nat) (w : World) (hc : w.cell? ⟨K, 20, none⟩ = some (.slice none 0 0)) : Calls Tryz.prog 84 #[.pointer (some ⟨K, 0, none⟩)] w fun e w' => e = .returned (.tuple #[]) ∧ w = w' := by
  go_enter Tryz.func84, Tryz.ntmps84
  go_wp2_with fail
  refine wp_loop_rounds 1 ?_
  rw [rounds_succ]
  go_wp2_with fail
  go_end0
  exact ⟨rfl, rfl⟩
theorem elookBlock_any (K : Nat) (w : World) (hc : w.cell? ⟨K, 20, none⟩ = some (.slice none 0 0)) : Calls Tryz.prog 111 #[.pointer (some ⟨K, 0, none⟩)] w fun e w' => e = .returned (.bool true) ∧ w = w' := by
  go_enter Tryz.func111, Tryz.ntmps111
  go_wp2_with fail
  refine wp_loop_rounds 1 ?_
  rw [rounds_succ]
  go_wp2_with fail
  go_ret
  exact ⟨rfl, rfl⟩
theorem efillGraph_any (K : Nat) (w : World) (hc : w.cell? ⟨K, 21, none⟩ = some (.slice none 0 0)) : Calls Tryz.prog 59 #[.pointer (some ⟨K, 0, none⟩)] w fun e w' => e = .returned (.tuple #[]) ∧ w = w' := by
  go_enter Tryz.func59, Tryz.ntmps59
  go_wp2_with fail
  refine wp_loop_rounds 1 ?_
  rw [rounds_succ]
  go_wp2_with fail
  go_end0
  exact ⟨rfl, rfl⟩
theorem egrowGraph_any (K : Nat) (w : World) (hc : w.cell? ⟨K, 21, none⟩ = some (.slice none 0 0)) : Calls Tryz.prog 85 #[.pointer (some ⟨K, 0, none⟩)] w fun e w' => e = .returned (.tuple #[]) ∧ w = w' := by
  go_enter Tryz.func85, Tryz.ntmps85
  go_wp2_with fail
  refine wp_loop_rounds 1 ?_
  rw [rounds_succ]
  go_wp2_with fail
  go_end0
  exact ⟨rfl, rfl⟩
theorem elookGraph_any (K : Nat) (w : World) (hc : w.cell? ⟨K, 21, none⟩ = some (.slice none 0 0)) : Calls Tryz.prog 112 #[.pointer (some ⟨K, 0, none⟩)] w fun e w' => e = .returned (.bool true) ∧ w = w' := by
  go_enter Tryz.func112, Tryz.ntmps112
  go_wp2_with fail
  refine wp_loop_rounds 1 ?_
  rw [rounds_succ]
  go_wp2_with fail
  go_ret
  exact ⟨rfl, rfl⟩
theorem efillAttempt_any (K : Nat) (w : World) (hc : w.cell? ⟨K, 22, none⟩ = some (.slice none 0 0)) : Calls Tryz.prog 60 #[.pointer (some ⟨K, 0, none⟩)] w fun e w' => e = .returned (.tuple #[]) ∧ w = w' := by
  go_enter Tryz.func60, Tryz.ntmps60
  go_wp2_with fail
  refine wp_loop_rounds 1 ?_
  rw [rounds_succ]
  go_wp2_with fail
  go_end0
  exact ⟨rfl, rfl⟩
theorem egrowAttempt_any (K : Nat) (w : World) (hc : w.cell? ⟨K, 22, none⟩ = some (.slice none 0 0)) : Calls Tryz.prog 86 #[.pointer (some ⟨K, 0, none⟩)] w fun e w' => e = .returned (.tuple #[]) ∧ w = w' := by
  go_enter Tryz.func86, Tryz.ntmps86
  go_wp2_with fail
  refine wp_loop_rounds 1 ?_
  rw [rounds_succ]
  go_wp2_with fail
  go_end0
  exact ⟨rfl, rfl⟩
theorem elookAttempt_any (K : Nat) (w : World) (hc : w.cell? ⟨K, 22, none⟩ = some (.slice none 0 0)) : Calls Tryz.prog 113 #[.pointer (some ⟨K, 0, none⟩)] w fun e w' => e = .returned (.bool true) ∧ w = w' := by
  go_enter Tryz.func113, Tryz.ntmps113
  go_wp2_with fail
  refine wp_loop_rounds 1 ?_
  rw [rounds_succ]
  go_wp2_with fail
  go_ret
  exact ⟨rfl, rfl⟩
theorem efillNumberRow_any (K : Nat) (w : World) (hc : w.cell? ⟨K, 23, none⟩ = some (.slice none 0 0)) : Calls Tryz.prog 61 #[.pointer (some ⟨K, 0, none⟩)] w fun e w' => e = .returned (.tuple #[]) ∧ w = w' := by
  go_enter Tryz.func61, Tryz.ntmps61
  go_wp2_with fail
  refine wp_loop_rounds 1 ?_
  rw [rounds_succ]
  go_wp2_with fail
  go_end0
  exact ⟨rfl, rfl⟩
theorem egrowNumberRow_any (K : Nat) (w : World) (hc : w.cell? ⟨K, 23, none⟩ = some (.slice none 0 0)) : Calls Tryz.prog 87 #[.pointer (some ⟨K, 0, none⟩)] w fun e w' => e = .returned (.tuple #[]) ∧ w = w' := by
  go_enter Tryz.func87, Tryz.ntmps87
  go_wp2_with fail
  refine wp_loop_rounds 1 ?_
  rw [rounds_succ]
  go_wp2_with fail
  go_end0
  exact ⟨rfl, rfl⟩
theorem elookNumberRow_any (K : Nat) (w : World) (hc : w.cell? ⟨K, 23, none⟩ = some (.slice none 0 0)) : Calls Tryz.prog 114 #[.pointer (some ⟨K, 0, none⟩)] w fun e w' => e = .returned (.bool true) ∧ w = w' := by
  go_enter Tryz.func114, Tryz.ntmps114
  go_wp2_with fail
  refine wp_loop_rounds 1 ?_
  rw [rounds_succ]
  go_wp2_with fail
  go_ret
  exact ⟨rfl, rfl⟩
theorem efillOpRow_any (K : Nat) (w : World) (hc : w.cell? ⟨K, 24, none⟩ = some (.slice none 0 0)) : Calls Tryz.prog 62 #[.pointer (some ⟨K, 0, none⟩)] w fun e w' => e = .returned (.tuple #[]) ∧ w = w' := by
  go_enter Tryz.func62, Tryz.ntmps62
  go_wp2_with fail
  refine wp_loop_rounds 1 ?_
  rw [rounds_succ]
  go_wp2_with fail
  go_end0
  exact ⟨rfl, rfl⟩
theorem egrowOpRow_any (K : Nat) (w : World) (hc : w.cell? ⟨K, 24, none⟩ = some (.slice none 0 0)) : Calls Tryz.prog 88 #[.pointer (some ⟨K, 0, none⟩)] w fun e w' => e = .returned (.tuple #[]) ∧ w = w' := by
  go_enter Tryz.func88, Tryz.ntmps88
  go_wp2_with fail
  refine wp_loop_rounds 1 ?_
  rw [rounds_succ]
  go_wp2_with fail
  go_end0
  exact ⟨rfl, rfl⟩
theorem elookOpRow_any (K : Nat) (w : World) (hc : w.cell? ⟨K, 24, none⟩ = some (.slice none 0 0)) : Calls Tryz.prog 115 #[.pointer (some ⟨K, 0, none⟩)] w fun e w' => e = .returned (.bool true) ∧ w = w' := by
  go_enter Tryz.func115, Tryz.ntmps115
  go_wp2_with fail
  refine wp_loop_rounds 1 ?_
  rw [rounds_succ]
  go_wp2_with fail
  go_ret
  exact ⟨rfl, rfl⟩
theorem efillStmtRow_any (K : Nat) (w : World) (hc : w.cell? ⟨K, 25, none⟩ = some (.slice none 0 0)) : Calls Tryz.prog 63 #[.pointer (some ⟨K, 0, none⟩)] w fun e w' => e = .returned (.tuple #[]) ∧ w = w' := by
  go_enter Tryz.func63, Tryz.ntmps63
  go_wp2_with fail
  refine wp_loop_rounds 1 ?_
  rw [rounds_succ]
  go_wp2_with fail
  go_end0
  exact ⟨rfl, rfl⟩
theorem egrowStmtRow_any (K : Nat) (w : World) (hc : w.cell? ⟨K, 25, none⟩ = some (.slice none 0 0)) : Calls Tryz.prog 89 #[.pointer (some ⟨K, 0, none⟩)] w fun e w' => e = .returned (.tuple #[]) ∧ w = w' := by
  go_enter Tryz.func89, Tryz.ntmps89
  go_wp2_with fail
  refine wp_loop_rounds 1 ?_
  rw [rounds_succ]
  go_wp2_with fail
  go_end0
  exact ⟨rfl, rfl⟩
theorem elookStmtRow_any (K : Nat) (w : World) (hc : w.cell? ⟨K, 25, none⟩ = some (.slice none 0 0)) : Calls Tryz.prog 116 #[.pointer (some ⟨K, 0, none⟩)] w fun e w' => e = .returned (.bool true) ∧ w = w' := by
  go_enter Tryz.func116, Tryz.ntmps116
  go_wp2_with fail
  refine wp_loop_rounds 1 ?_
  rw [rounds_succ]
  go_wp2_with fail
  go_ret
  exact ⟨rfl, rfl⟩
theorem efillTxRow_any (K : Nat) (w : World) (hc : w.cell? ⟨K, 26, none⟩ = some (.slice none 0 0)) : Calls Tryz.prog 64 #[.pointer (some ⟨K, 0, none⟩)] w fun e w' => e = .returned (.tuple #[]) ∧ w = w' := by
  go_enter Tryz.func64, Tryz.ntmps64
  go_wp2_with fail
  refine wp_loop_rounds 1 ?_
  rw [rounds_succ]
  go_wp2_with fail
  go_end0
  exact ⟨rfl, rfl⟩
theorem egrowTxRow_any (K : Nat) (w : World) (hc : w.cell? ⟨K, 26, none⟩ = some (.slice none 0 0)) : Calls Tryz.prog 90 #[.pointer (some ⟨K, 0, none⟩)] w fun e w' => e = .returned (.tuple #[]) ∧ w = w' := by
  go_enter Tryz.func90, Tryz.ntmps90
  go_wp2_with fail
  refine wp_loop_rounds 1 ?_
  rw [rounds_succ]
  go_wp2_with fail
  go_end0
  exact ⟨rfl, rfl⟩
theorem elookTxRow_any (K : Nat) (w : World) (hc : w.cell? ⟨K, 26, none⟩ = some (.slice none 0 0)) : Calls Tryz.prog 117 #[.pointer (some ⟨K, 0, none⟩)] w fun e w' => e = .returned (.bool true) ∧ w = w' := by
  go_enter Tryz.func117, Tryz.ntmps117
  go_wp2_with fail
  refine wp_loop_rounds 1 ?_
  rw [rounds_succ]
  go_wp2_with fail
  go_ret
  exact ⟨rfl, rfl⟩
theorem efillSeenRow_any (K : Nat) (w : World) (hc : w.cell? ⟨K, 27, none⟩ = some (.slice none 0 0)) : Calls Tryz.prog 65 #[.pointer (some ⟨K, 0, none⟩)] w fun e w' => e = .returned (.tuple #[]) ∧ w = w' := by
  go_enter Tryz.func65, Tryz.ntmps65
  go_wp2_with fail
  refine wp_loop_rounds 1 ?_
  rw [rounds_succ]
  go_wp2_with fail
  go_end0
  exact ⟨rfl, rfl⟩
theorem egrowSeenRow_any (K : Nat) (w : World) (hc : w.cell? ⟨K, 27, none⟩ = some (.slice none 0 0)) : Calls Tryz.prog 91 #[.pointer (some ⟨K, 0, none⟩)] w fun e w' => e = .returned (.tuple #[]) ∧ w = w' := by
  go_enter Tryz.func91, Tryz.ntmps91
  go_wp2_with fail
  refine wp_loop_rounds 1 ?_
  rw [rounds_succ]
  go_wp2_with fail
  go_end0
  exact ⟨rfl, rfl⟩
theorem elookSeenRow_any (K : Nat) (w : World) (hc : w.cell? ⟨K, 27, none⟩ = some (.slice none 0 0)) : Calls Tryz.prog 118 #[.pointer (some ⟨K, 0, none⟩)] w fun e w' => e = .returned (.bool true) ∧ w = w' := by
  go_enter Tryz.func118, Tryz.ntmps118
  go_wp2_with fail
  refine wp_loop_rounds 1 ?_
  rw [rounds_succ]
  go_wp2_with fail
  go_ret
  exact ⟨rfl, rfl⟩
theorem ebits_any (K : Nat) (k : Int) (w : World) (hc : w.cell? ⟨K, 1, none⟩ = some (.slice none 0 0)) : Calls Tryz.prog 92 #[.pointer (some ⟨K, 0, none⟩), .int .u64 k] w fun e w' => e = .returned (.bool true) ∧ w = w' := by
  go_enter Tryz.func92, Tryz.ntmps92
  go_wp2_with fail
  refine wp_loop_rounds 1 ?_
  rw [rounds_succ]
  go_wp2_with fail
  refine wp_loop_rounds 1 ?_
  rw [rounds_succ]
  go_wp2_with fail
  refine wp_loop_rounds 1 ?_
  rw [rounds_succ]
  go_wp2_with fail
  go_ret
  exact ⟨rfl, rfl⟩
end Go.Proofs.YtjaegddnikkibaaGreatDoor
namespace Go.Proofs.YtjaegddnikkibaaGreatDoor
open Go.RowKit

def nilBk : List Nat := [1, 3, 4, 6, 7, 8, 9, 10, 11, 12, 13, 14, 15, 16, 17, 18, 19, 20, 21, 22, 23, 24, 25, 26, 27]
abbrev okBk : TypeId → Bool := fun t => t == 3 || t == 119 || t == 91 || t == 121
set_option maxHeartbeats 4000000 in
set_option maxRecDepth 100000 in
theorem apart_any (K B : Nat) (kc : Array Value) (vNumber : Value) (rNumber : List HRow) (vCell : Value) (rCell : List HRow) (w : World) (hB : B ≤ w.heap.size) (hK : w.heap[K]? = some (.cells kc 65 (0, 0))) (hk : ∀ i ∈ nilBk, kc[i]? = some (.slice none 0 0))
    (kNumber : kc[2]? = some vNumber) (hNumber : Held 3 119 1 B w vNumber rNumber) (nNumber : rNumber.length ≤ 1000) (bNumber : ∀ r ∈ rNumber, r.n ≤ 1000000000 ∧ 0 ≤ r.num ∧ r.num ≤ 1000)
    (kCell : kc[5]? = some vCell) (hCell : Held 91 121 2 B w vCell rCell) (nCell : rCell.length ≤ 1000) (bCell : ∀ r ∈ rCell, r.n ≤ 1000000000 ∧ 0 ≤ r.num ∧ r.num ≤ 1000)
    : Calls Tryz.prog 17 #[.pointer (some ⟨K, 0, none⟩)] w fun e w' => e = .returned (.bool true) ∧ FrB B okBk w w' := by
  have HE := Lib.hid (fun (W : World) (h : W.heap[K]? = some (.cells kc 65 (0, 0))) j (hj : j ∈ nilBk) => (cell_of_row W K j kc 65 (0, 0) h).trans (hk j hj))
  have HK0 := Lib.hid hK
  have HF0 : Hid (FrB B okBk w w) := Lib.hid (FrB.refl w)
  have HNumber0 := Lib.hid hNumber
  have HBNumber := Lib.hid bNumber
  have HCell0 := Lib.hid hCell
  have HBCell := Lib.hid bCell
  clear hK hk hNumber bNumber hCell bCell
  go_enter Tryz.func17, Tryz.ntmps17
  go_wp2_with fail
  refine (fillNumber_any K B kc vNumber rNumber _ HK0.out kNumber HNumber0.out nNumber HBNumber.out).mono ?_
  rintro e w1 ⟨rfl, hh, hf⟩
  have HNumber1 := Lib.hid hh
  have HK1 := Lib.hid (hf.obj HK0.out (by decide))
  have HF1 := Lib.hid (HF0.out.trans (hf.weak (ok' := okBk) (fun t ht => by simp [okBk] at ht; simp [ht])))
  have HCell1 := Lib.hid (hf.held HCell0.out (by decide) (by decide))
  clear hf hh HK0 HF0 HNumber0 HCell0
  go_wp2_with fail
  refine (efillWide_any K _ (HE.out _ HK1.out 3 (by decide))).mono ?_
  rintro e ww ⟨rfl, rfl⟩
  go_wp2_with fail
  refine (efillText_any K _ (HE.out _ HK1.out 4 (by decide))).mono ?_
  rintro e ww ⟨rfl, rfl⟩
  go_wp2_with fail
  refine (fillCell_any K B kc vCell rCell _ HK1.out kCell HCell1.out nCell HBCell.out).mono ?_
  rintro e w2 ⟨rfl, hh, hf⟩
  have HCell2 := Lib.hid hh
  have HK2 := Lib.hid (hf.obj HK1.out (by decide))
  have HF2 := Lib.hid (HF1.out.trans (hf.weak (ok' := okBk) (fun t ht => by simp [okBk] at ht; simp [ht])))
  have HNumber2 := Lib.hid (hf.held HNumber1.out (by decide) (by decide))
  clear hf hh HK1 HF1 HNumber1 HCell1
  go_wp2_with fail
  refine (efillIns_any K _ (HE.out _ HK2.out 6 (by decide))).mono ?_
  rintro e ww ⟨rfl, rfl⟩
  go_wp2_with fail
  refine (efillOp_any K _ (HE.out _ HK2.out 7 (by decide))).mono ?_
  rintro e ww ⟨rfl, rfl⟩
  go_wp2_with fail
  refine (efillEvent_any K _ (HE.out _ HK2.out 8 (by decide))).mono ?_
  rintro e ww ⟨rfl, rfl⟩
  go_wp2_with fail
  refine (efillPick_any K _ (HE.out _ HK2.out 9 (by decide))).mono ?_
  rintro e ww ⟨rfl, rfl⟩
  go_wp2_with fail
  refine (efillPlace_any K _ (HE.out _ HK2.out 10 (by decide))).mono ?_
  rintro e ww ⟨rfl, rfl⟩
  go_wp2_with fail
  refine (efillTxOp_any K _ (HE.out _ HK2.out 11 (by decide))).mono ?_
  rintro e ww ⟨rfl, rfl⟩
  go_wp2_with fail
  refine (efillToken_any K _ (HE.out _ HK2.out 12 (by decide))).mono ?_
  rintro e ww ⟨rfl, rfl⟩
  go_wp2_with fail
  refine (efillField_any K _ (HE.out _ HK2.out 13 (by decide))).mono ?_
  rintro e ww ⟨rfl, rfl⟩
  go_wp2_with fail
  refine (efillSpot_any K _ (HE.out _ HK2.out 14 (by decide))).mono ?_
  rintro e ww ⟨rfl, rfl⟩
  go_wp2_with fail
  refine (efillSeen_any K _ (HE.out _ HK2.out 15 (by decide))).mono ?_
  rintro e ww ⟨rfl, rfl⟩
  go_wp2_with fail
  refine (efillExpr_any K _ (HE.out _ HK2.out 16 (by decide))).mono ?_
  rintro e ww ⟨rfl, rfl⟩
  go_wp2_with fail
  refine (efillStmt_any K _ (HE.out _ HK2.out 17 (by decide))).mono ?_
  rintro e ww ⟨rfl, rfl⟩
  go_wp2_with fail
  refine (efillRecord_any K _ (HE.out _ HK2.out 18 (by decide))).mono ?_
  rintro e ww ⟨rfl, rfl⟩
  go_wp2_with fail
  refine (efillFunc_any K _ (HE.out _ HK2.out 19 (by decide))).mono ?_
  rintro e ww ⟨rfl, rfl⟩
  go_wp2_with fail
  refine (efillBlock_any K _ (HE.out _ HK2.out 20 (by decide))).mono ?_
  rintro e ww ⟨rfl, rfl⟩
  go_wp2_with fail
  refine (efillGraph_any K _ (HE.out _ HK2.out 21 (by decide))).mono ?_
  rintro e ww ⟨rfl, rfl⟩
  go_wp2_with fail
  refine (efillAttempt_any K _ (HE.out _ HK2.out 22 (by decide))).mono ?_
  rintro e ww ⟨rfl, rfl⟩
  go_wp2_with fail
  refine (efillNumberRow_any K _ (HE.out _ HK2.out 23 (by decide))).mono ?_
  rintro e ww ⟨rfl, rfl⟩
  go_wp2_with fail
  refine (efillOpRow_any K _ (HE.out _ HK2.out 24 (by decide))).mono ?_
  rintro e ww ⟨rfl, rfl⟩
  go_wp2_with fail
  refine (efillStmtRow_any K _ (HE.out _ HK2.out 25 (by decide))).mono ?_
  rintro e ww ⟨rfl, rfl⟩
  go_wp2_with fail
  refine (efillTxRow_any K _ (HE.out _ HK2.out 26 (by decide))).mono ?_
  rintro e ww ⟨rfl, rfl⟩
  go_wp2_with fail
  refine (efillSeenRow_any K _ (HE.out _ HK2.out 27 (by decide))).mono ?_
  rintro e ww ⟨rfl, rfl⟩
  go_wp2_with fail
  refine (growNumber_any K B 1000000000 kc vNumber (rNumber.map (filled mNumber)) _ (Nat.le_trans hB HF2.out.size) HK2.out kNumber HNumber2.out (by rw [List.length_map]; exact nNumber) (by omega) (AllM.filled HBNumber.out)).mono ?_
  rintro e w3 ⟨rfl, ⟨gNumber, lNumber, hh, ha⟩, hf⟩
  have HNumber3 := Lib.hid hh
  have HANumber := Lib.hid ha
  rw [List.length_map] at lNumber
  have HK3 := Lib.hid (hf.obj HK2.out (by decide))
  have HF3 := Lib.hid (HF2.out.trans (hf.weak (ok' := okBk) (fun t ht => by simp [okBk] at ht; simp [ht])))
  have HCell3 := Lib.hid (hf.held HCell2.out (by decide) (by decide))
  clear hf hh ha HK2 HF2 HNumber2 HCell2
  go_wp2_with fail
  refine (egrowWide_any K _ (HE.out _ HK3.out 3 (by decide))).mono ?_
  rintro e ww ⟨rfl, rfl⟩
  go_wp2_with fail
  refine (egrowText_any K _ (HE.out _ HK3.out 4 (by decide))).mono ?_
  rintro e ww ⟨rfl, rfl⟩
  go_wp2_with fail
  refine (growCell_any K B 1000000000 kc vCell (rCell.map (filled mCell)) _ (Nat.le_trans hB HF3.out.size) HK3.out kCell HCell3.out (by rw [List.length_map]; exact nCell) (by omega) (AllM.filled HBCell.out)).mono ?_
  rintro e w4 ⟨rfl, ⟨gCell, lCell, hh, ha⟩, hf⟩
  have HCell4 := Lib.hid hh
  have HACell := Lib.hid ha
  rw [List.length_map] at lCell
  have HK4 := Lib.hid (hf.obj HK3.out (by decide))
  have HF4 := Lib.hid (HF3.out.trans (hf.weak (ok' := okBk) (fun t ht => by simp [okBk] at ht; simp [ht])))
  have HNumber4 := Lib.hid (hf.held HNumber3.out (by decide) (by decide))
  clear hf hh ha HK3 HF3 HNumber3 HCell3
  go_wp2_with fail
  refine (egrowIns_any K _ (HE.out _ HK4.out 6 (by decide))).mono ?_
  rintro e ww ⟨rfl, rfl⟩
  go_wp2_with fail
  refine (egrowOp_any K _ (HE.out _ HK4.out 7 (by decide))).mono ?_
  rintro e ww ⟨rfl, rfl⟩
  go_wp2_with fail
  refine (egrowEvent_any K _ (HE.out _ HK4.out 8 (by decide))).mono ?_
  rintro e ww ⟨rfl, rfl⟩
  go_wp2_with fail
  refine (egrowPick_any K _ (HE.out _ HK4.out 9 (by decide))).mono ?_
  rintro e ww ⟨rfl, rfl⟩
  go_wp2_with fail
  refine (egrowPlace_any K _ (HE.out _ HK4.out 10 (by decide))).mono ?_
  rintro e ww ⟨rfl, rfl⟩
  go_wp2_with fail
  refine (egrowTxOp_any K _ (HE.out _ HK4.out 11 (by decide))).mono ?_
  rintro e ww ⟨rfl, rfl⟩
  go_wp2_with fail
  refine (egrowToken_any K _ (HE.out _ HK4.out 12 (by decide))).mono ?_
  rintro e ww ⟨rfl, rfl⟩
  go_wp2_with fail
  refine (egrowField_any K _ (HE.out _ HK4.out 13 (by decide))).mono ?_
  rintro e ww ⟨rfl, rfl⟩
  go_wp2_with fail
  refine (egrowSpot_any K _ (HE.out _ HK4.out 14 (by decide))).mono ?_
  rintro e ww ⟨rfl, rfl⟩
  go_wp2_with fail
  refine (egrowSeen_any K _ (HE.out _ HK4.out 15 (by decide))).mono ?_
  rintro e ww ⟨rfl, rfl⟩
  go_wp2_with fail
  refine (egrowExpr_any K _ (HE.out _ HK4.out 16 (by decide))).mono ?_
  rintro e ww ⟨rfl, rfl⟩
  go_wp2_with fail
  refine (egrowStmt_any K _ (HE.out _ HK4.out 17 (by decide))).mono ?_
  rintro e ww ⟨rfl, rfl⟩
  go_wp2_with fail
  refine (egrowRecord_any K _ (HE.out _ HK4.out 18 (by decide))).mono ?_
  rintro e ww ⟨rfl, rfl⟩
  go_wp2_with fail
  refine (egrowFunc_any K _ (HE.out _ HK4.out 19 (by decide))).mono ?_
  rintro e ww ⟨rfl, rfl⟩
  go_wp2_with fail
  refine (egrowBlock_any K _ (HE.out _ HK4.out 20 (by decide))).mono ?_
  rintro e ww ⟨rfl, rfl⟩
  go_wp2_with fail
  refine (egrowGraph_any K _ (HE.out _ HK4.out 21 (by decide))).mono ?_
  rintro e ww ⟨rfl, rfl⟩
  go_wp2_with fail
  refine (egrowAttempt_any K _ (HE.out _ HK4.out 22 (by decide))).mono ?_
  rintro e ww ⟨rfl, rfl⟩
  go_wp2_with fail
  refine (egrowNumberRow_any K _ (HE.out _ HK4.out 23 (by decide))).mono ?_
  rintro e ww ⟨rfl, rfl⟩
  go_wp2_with fail
  refine (egrowOpRow_any K _ (HE.out _ HK4.out 24 (by decide))).mono ?_
  rintro e ww ⟨rfl, rfl⟩
  go_wp2_with fail
  refine (egrowStmtRow_any K _ (HE.out _ HK4.out 25 (by decide))).mono ?_
  rintro e ww ⟨rfl, rfl⟩
  go_wp2_with fail
  refine (egrowTxRow_any K _ (HE.out _ HK4.out 26 (by decide))).mono ?_
  rintro e ww ⟨rfl, rfl⟩
  go_wp2_with fail
  refine (egrowSeenRow_any K _ (HE.out _ HK4.out 27 (by decide))).mono ?_
  rintro e ww ⟨rfl, rfl⟩
  go_wp2_with fail
  refine wp_loop_rounds 9 ?_
  rw [rounds_succ]
  go_wp2_with fail
  refine (ebits_any K 0 _ (HE.out _ HK4.out 1 (by decide))).mono ?_
  rintro e ww ⟨rfl, rfl⟩
  go_wp2_with fail
  rw [rounds_succ]
  go_wp2_with fail
  refine (ebits_any K 1 _ (HE.out _ HK4.out 1 (by decide))).mono ?_
  rintro e ww ⟨rfl, rfl⟩
  go_wp2_with fail
  rw [rounds_succ]
  go_wp2_with fail
  refine (ebits_any K 2 _ (HE.out _ HK4.out 1 (by decide))).mono ?_
  rintro e ww ⟨rfl, rfl⟩
  go_wp2_with fail
  rw [rounds_succ]
  go_wp2_with fail
  refine (ebits_any K 3 _ (HE.out _ HK4.out 1 (by decide))).mono ?_
  rintro e ww ⟨rfl, rfl⟩
  go_wp2_with fail
  rw [rounds_succ]
  go_wp2_with fail
  refine (ebits_any K 4 _ (HE.out _ HK4.out 1 (by decide))).mono ?_
  rintro e ww ⟨rfl, rfl⟩
  go_wp2_with fail
  rw [rounds_succ]
  go_wp2_with fail
  refine (ebits_any K 5 _ (HE.out _ HK4.out 1 (by decide))).mono ?_
  rintro e ww ⟨rfl, rfl⟩
  go_wp2_with fail
  rw [rounds_succ]
  go_wp2_with fail
  refine (ebits_any K 6 _ (HE.out _ HK4.out 1 (by decide))).mono ?_
  rintro e ww ⟨rfl, rfl⟩
  go_wp2_with fail
  rw [rounds_succ]
  go_wp2_with fail
  refine (ebits_any K 7 _ (HE.out _ HK4.out 1 (by decide))).mono ?_
  rintro e ww ⟨rfl, rfl⟩
  go_wp2_with fail
  rw [rounds_succ]
  go_wp2_with fail
  refine (lookNumber_any K B (1000000000 + 3 * rNumber.length) kc vNumber gNumber _ HK4.out kNumber HNumber4.out (by omega) (by omega) (by have := HANumber.out; rwa [List.length_map] at this)).mono ?_
  rintro e w5 ⟨rfl, hb⟩
  have HK5 := Lib.hid ((FrB.ofBelow (B := B) (ok := okBk) hb).obj HK4.out (by decide))
  have HF5 := Lib.hid (HF4.out.trans (FrB.ofBelow hb))
  have HNumber5 := Lib.hid (HNumber4.out.below hb)
  have HCell5 := Lib.hid (HCell4.out.below hb)
  clear hb HK4 HF4 HNumber4 HCell4
  go_wp2_with fail
  refine (elookWide_any K _ (HE.out _ HK5.out 3 (by decide))).mono ?_
  rintro e ww ⟨rfl, rfl⟩
  go_wp2_with fail
  refine (elookText_any K _ (HE.out _ HK5.out 4 (by decide))).mono ?_
  rintro e ww ⟨rfl, rfl⟩
  go_wp2_with fail
  refine (lookCell_any K B (1000000000 + 3 * rCell.length) kc vCell gCell _ HK5.out kCell HCell5.out (by omega) (by omega) (by have := HACell.out; rwa [List.length_map] at this)).mono ?_
  rintro e w6 ⟨rfl, hb⟩
  have HK6 := Lib.hid ((FrB.ofBelow (B := B) (ok := okBk) hb).obj HK5.out (by decide))
  have HF6 := Lib.hid (HF5.out.trans (FrB.ofBelow hb))
  have HNumber6 := Lib.hid (HNumber5.out.below hb)
  have HCell6 := Lib.hid (HCell5.out.below hb)
  clear hb HK5 HF5 HNumber5 HCell5
  go_wp2_with fail
  refine (elookIns_any K _ (HE.out _ HK6.out 6 (by decide))).mono ?_
  rintro e ww ⟨rfl, rfl⟩
  go_wp2_with fail
  refine (elookOp_any K _ (HE.out _ HK6.out 7 (by decide))).mono ?_
  rintro e ww ⟨rfl, rfl⟩
  go_wp2_with fail
  refine (elookEvent_any K _ (HE.out _ HK6.out 8 (by decide))).mono ?_
  rintro e ww ⟨rfl, rfl⟩
  go_wp2_with fail
  refine (elookPick_any K _ (HE.out _ HK6.out 9 (by decide))).mono ?_
  rintro e ww ⟨rfl, rfl⟩
  go_wp2_with fail
  refine (elookPlace_any K _ (HE.out _ HK6.out 10 (by decide))).mono ?_
  rintro e ww ⟨rfl, rfl⟩
  go_wp2_with fail
  refine (elookTxOp_any K _ (HE.out _ HK6.out 11 (by decide))).mono ?_
  rintro e ww ⟨rfl, rfl⟩
  go_wp2_with fail
  refine (elookToken_any K _ (HE.out _ HK6.out 12 (by decide))).mono ?_
  rintro e ww ⟨rfl, rfl⟩
  go_wp2_with fail
  refine (elookField_any K _ (HE.out _ HK6.out 13 (by decide))).mono ?_
  rintro e ww ⟨rfl, rfl⟩
  go_wp2_with fail
  refine (elookSpot_any K _ (HE.out _ HK6.out 14 (by decide))).mono ?_
  rintro e ww ⟨rfl, rfl⟩
  go_wp2_with fail
  refine (elookSeen_any K _ (HE.out _ HK6.out 15 (by decide))).mono ?_
  rintro e ww ⟨rfl, rfl⟩
  go_wp2_with fail
  refine (elookExpr_any K _ (HE.out _ HK6.out 16 (by decide))).mono ?_
  rintro e ww ⟨rfl, rfl⟩
  go_wp2_with fail
  refine (elookStmt_any K _ (HE.out _ HK6.out 17 (by decide))).mono ?_
  rintro e ww ⟨rfl, rfl⟩
  go_wp2_with fail
  refine (elookRecord_any K _ (HE.out _ HK6.out 18 (by decide))).mono ?_
  rintro e ww ⟨rfl, rfl⟩
  go_wp2_with fail
  refine (elookFunc_any K _ (HE.out _ HK6.out 19 (by decide))).mono ?_
  rintro e ww ⟨rfl, rfl⟩
  go_wp2_with fail
  refine (elookBlock_any K _ (HE.out _ HK6.out 20 (by decide))).mono ?_
  rintro e ww ⟨rfl, rfl⟩
  go_wp2_with fail
  refine (elookGraph_any K _ (HE.out _ HK6.out 21 (by decide))).mono ?_
  rintro e ww ⟨rfl, rfl⟩
  go_wp2_with fail
  refine (elookAttempt_any K _ (HE.out _ HK6.out 22 (by decide))).mono ?_
  rintro e ww ⟨rfl, rfl⟩
  go_wp2_with fail
  refine (elookNumberRow_any K _ (HE.out _ HK6.out 23 (by decide))).mono ?_
  rintro e ww ⟨rfl, rfl⟩
  go_wp2_with fail
  refine (elookOpRow_any K _ (HE.out _ HK6.out 24 (by decide))).mono ?_
  rintro e ww ⟨rfl, rfl⟩
  go_wp2_with fail
  refine (elookStmtRow_any K _ (HE.out _ HK6.out 25 (by decide))).mono ?_
  rintro e ww ⟨rfl, rfl⟩
  go_wp2_with fail
  refine (elookTxRow_any K _ (HE.out _ HK6.out 26 (by decide))).mono ?_
  rintro e ww ⟨rfl, rfl⟩
  go_wp2_with fail
  refine (elookSeenRow_any K _ (HE.out _ HK6.out 27 (by decide))).mono ?_
  rintro e ww ⟨rfl, rfl⟩
  go_wp2_with fail
  go_ret
  exact ⟨rfl, HF6.out⟩
end Go.Proofs.YtjaegddnikkibaaGreatDoor
