/-
  What may stand in an attempt, walked: serial.fits, may$1, slices.ContainsFunc.
-/
import Derived.Test.YtjaegddnikkibaaGreatDoorOrdOne
set_option linter.unusedVariables false
set_option linter.unusedSimpArgs false
namespace Go.Proofs.YtjaegddnikkibaaGreatDoor
open Go.RowKit Go.Sort

theorem evB_iff {th0 th kd ea eb : Int} : evB th0 ⟨th, kd, ea, eb⟩ = true ↔ th = th0 ∧ 0 ≤ ea ∧ ea < 262144 ∧ (kd = 6 ∧ 0 ≤ eb ∧ eb ≤ 64 ∧ ea + eb ≤ 262144 ∨ kd ≠ 6 ∧ 2 ≤ kd ∧ kd ≤ 5) := by
  unfold evB
  by_cases h : kd = 6
  · rw [if_pos h]; simp only [Bool.and_eq_true, decide_eq_true_eq]; omega
  · rw [if_neg h]; simp only [Bool.and_eq_true, decide_eq_true_eq]; omega
theorem evB_true {th0 th kd ea eb : Int} (h : th = th0 ∧ 0 ≤ ea ∧ ea < 262144 ∧ (kd = 6 ∧ 0 ≤ eb ∧ eb ≤ 64 ∧ ea + eb ≤ 262144 ∨ kd ≠ 6 ∧ 2 ≤ kd ∧ kd ≤ 5)) : evB th0 ⟨th, kd, ea, eb⟩ = true := evB_iff.2 h
theorem evB_false {th0 th kd ea eb : Int} (h : ¬ (th = th0 ∧ 0 ≤ ea ∧ ea < 262144 ∧ (kd = 6 ∧ 0 ≤ eb ∧ eb ≤ 64 ∧ ea + eb ≤ 262144 ∨ kd ≠ 6 ∧ 2 ≤ kd ∧ kd ≤ 5))) : evB th0 ⟨th, kd, ea, eb⟩ = false := by
  cases hx : evB th0 ⟨th, kd, ea, eb⟩ with
  | false => rfl
  | true => exact absurd (evB_iff.1 hx) h

set_option maxHeartbeats 1000000 in
theorem fits1_any (th0 th kd ea eb : Int) (TB : Nat) (he : (⟨th, kd, ea, eb⟩ : Ev).Ok) (w : World) (hb : w.cell? ⟨TB, 0, none⟩ = some (.int .i64 th0)) :
    Calls Tryz.prog 206 #[.agg #[.int .i64 th, .int .u8 kd, .int .i64 ea, .int .i64 eb], .pointer (some ⟨TB, 0, none⟩)] w fun e w' => e = .returned (.bool (evB th0 ⟨th, kd, ea, eb⟩)) ∧ Below w.heap.size w w' := by
  have lT := World.block_lt_of_cell? w _ hb
  have hb2 := fun o => (((Below.refl w.heap.size w).alloc (Nat.le_refl _) o).cell (p := ⟨TB, 0, none⟩) lT).trans hb
  clear hb lT
  by_cases h1 : th = th0
  · by_cases h2 : 0 ≤ ea
    · by_cases h3 : ea < 262144
      · by_cases h4 : kd = 6
        · skip
          have k1 : (th == th0) = true := by simp; omega
          have k2 : decide (ea < 0) = false := by simp; omega
          have k3 : decide (262144 ≤ ea) = false := by simp; omega
          have k4 : (kd == 6) = true := by simp; omega
          by_cases h5 : 0 ≤ eb
          · have k5 : decide (0 ≤ eb) = true := by simp; omega
            by_cases h6 : eb ≤ 64
            · have k6 : decide (eb ≤ 64) = true := by simp; omega
              have k0 : IntKind.i64.wrap (ea + eb) = ea + eb := by rw [IntKind.wrap_i64]; omega
              by_cases h7 : ea + eb ≤ 262144
              · have k7 : decide (ea + eb ≤ 262144) = true := by simp; omega
                rw [show evB th0 ⟨th, kd, ea, eb⟩ = true from evB_true (by omega)]
                clear he
                go_enter Tryz.func206, Tryz.ntmps206
                go_wp2_with fail
                go_ret
                exact ⟨rfl, (Below.refl _ _).alloc (Nat.le_refl _) _⟩
              · have k7 : decide (ea + eb ≤ 262144) = false := by simp; omega
                rw [show evB th0 ⟨th, kd, ea, eb⟩ = false from evB_false (by omega)]
                clear he
                go_enter Tryz.func206, Tryz.ntmps206
                go_wp2_with fail
                go_ret
                exact ⟨rfl, (Below.refl _ _).alloc (Nat.le_refl _) _⟩
            · have k6 : decide (eb ≤ 64) = false := by simp; omega
              rw [show evB th0 ⟨th, kd, ea, eb⟩ = false from evB_false (by omega)]
              clear he
              go_enter Tryz.func206, Tryz.ntmps206
              go_wp2_with fail
              go_ret
              exact ⟨rfl, (Below.refl _ _).alloc (Nat.le_refl _) _⟩
          · have k5 : decide (0 ≤ eb) = false := by simp; omega
            rw [show evB th0 ⟨th, kd, ea, eb⟩ = false from evB_false (by omega)]
            clear he
            go_enter Tryz.func206, Tryz.ntmps206
            go_wp2_with fail
            go_ret
            exact ⟨rfl, (Below.refl _ _).alloc (Nat.le_refl _) _⟩
        · skip
          have k1 : (th == th0) = true := by simp; omega
          have k2 : decide (ea < 0) = false := by simp; omega
          have k3 : decide (262144 ≤ ea) = false := by simp; omega
          have k4 : (kd == 6) = false := by simp; omega
          by_cases h8 : 2 ≤ kd
          · have k8 : decide (2 ≤ kd) = true := by simp; omega
            by_cases h9 : kd ≤ 5
            · have k9 : decide (kd ≤ 5) = true := by simp; omega
              rw [show evB th0 ⟨th, kd, ea, eb⟩ = true from evB_true (by omega)]
              clear he
              go_enter Tryz.func206, Tryz.ntmps206
              go_wp2_with fail
              go_ret
              exact ⟨rfl, (Below.refl _ _).alloc (Nat.le_refl _) _⟩
            · have k9 : decide (kd ≤ 5) = false := by simp; omega
              rw [show evB th0 ⟨th, kd, ea, eb⟩ = false from evB_false (by omega)]
              clear he
              go_enter Tryz.func206, Tryz.ntmps206
              go_wp2_with fail
              go_ret
              exact ⟨rfl, (Below.refl _ _).alloc (Nat.le_refl _) _⟩
          · have k8 : decide (2 ≤ kd) = false := by simp; omega
            rw [show evB th0 ⟨th, kd, ea, eb⟩ = false from evB_false (by omega)]
            clear he
            go_enter Tryz.func206, Tryz.ntmps206
            go_wp2_with fail
            go_ret
            exact ⟨rfl, (Below.refl _ _).alloc (Nat.le_refl _) _⟩
      · have k1 : (th == th0) = true := by simp; omega
        have k2 : decide (ea < 0) = false := by simp; omega
        have k3 : decide (262144 ≤ ea) = true := by simp; omega
        rw [show evB th0 ⟨th, kd, ea, eb⟩ = false from evB_false (by omega)]
        clear he
        go_enter Tryz.func206, Tryz.ntmps206
        go_wp2_with fail
        go_ret
        exact ⟨rfl, (Below.refl _ _).alloc (Nat.le_refl _) _⟩
    · have k1 : (th == th0) = true := by simp; omega
      have k2 : decide (ea < 0) = true := by simp; omega
      rw [show evB th0 ⟨th, kd, ea, eb⟩ = false from evB_false (by omega)]
      clear he
      go_enter Tryz.func206, Tryz.ntmps206
      go_wp2_with fail
      go_ret
      exact ⟨rfl, (Below.refl _ _).alloc (Nat.le_refl _) _⟩
  · have k1 : (th == th0) = false := by simp; omega
    rw [show evB th0 ⟨th, kd, ea, eb⟩ = false from evB_false (by omega)]
    clear he
    go_enter Tryz.func206, Tryz.ntmps206
    go_wp2_with fail
    go_ret
    exact ⟨rfl, (Below.refl _ _).alloc (Nat.le_refl _) _⟩

set_option maxHeartbeats 400000 in
theorem fits_any (th : Int) (w : World) :
    Calls Tryz.prog 187 #[.int .i64 th] w fun e w' => e = .returned (.func (.func 206) #[] #[.pointer (some ⟨w.heap.size, 0, none⟩)]) ∧ w'.cell? ⟨w.heap.size, 0, none⟩ = some (.int .i64 th) ∧ w'.heap.size = w.heap.size + 1 ∧ Below w.heap.size w w' := by
  go_enter Tryz.func187, Tryz.ntmps187
  go_wp2_with fail
  go_ret
  exact ⟨rfl, by simp, by simp, (Below.refl _ _).alloc (Nat.le_refl _) _⟩

set_option maxHeartbeats 1000000 in
theorem may1_any (th0 th kd ea eb : Int) (FB TB : Nat) (he : (⟨th, kd, ea, eb⟩ : Ev).Ok) (w : World) (hf : w.cell? ⟨FB, 0, none⟩ = some (.func (.func 206) #[] #[.pointer (some ⟨TB, 0, none⟩)])) (hb : w.cell? ⟨TB, 0, none⟩ = some (.int .i64 th0)) :
    Calls Tryz.prog 189 #[.agg #[.int .i64 th, .int .u8 kd, .int .i64 ea, .int .i64 eb], .pointer (some ⟨FB, 0, none⟩)] w fun e w' => e = .returned (.bool (!evB th0 ⟨th, kd, ea, eb⟩)) ∧ Below w.heap.size w w' := by
  have HE := Lib.hid he
  clear he
  have lF := World.block_lt_of_cell? w _ hf
  have lT := World.block_lt_of_cell? w _ hb
  have hb2 := Lib.hid (fun w' (h : Below w.heap.size w w') => (h.cell (p := ⟨TB, 0, none⟩) lT).trans hb)
  have hf2 := fun o => (((Below.refl w.heap.size w).alloc (Nat.le_refl _) o).cell (p := ⟨FB, 0, none⟩) lF).trans hf
  clear hb hf
  go_enter Tryz.func189, Tryz.ntmps189
  go_wp2_with fail
  refine (fits1_any th0 th kd ea eb TB HE.out _ (hb2.out _ ((Below.refl _ _).alloc (Nat.le_refl _) _))).mono ?_
  rintro e w1 ⟨rfl, hb1⟩
  have hB := ((Below.refl w.heap.size w).alloc (Nat.le_refl _) _).trans (hb1.mono (by simp))
  clear hb1
  go_wp2_with fail
  go_ret
  exact ⟨rfl, hB⟩
end Go.Proofs.YtjaegddnikkibaaGreatDoor
