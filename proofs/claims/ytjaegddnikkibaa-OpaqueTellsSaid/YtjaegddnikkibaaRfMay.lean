/-
  The reference's event, walked.
-/
import Derived.Test.YtjaegddnikkibaaMayEv
set_option linter.unusedVariables false
set_option linter.unusedSimpArgs false
namespace Go.Proofs.Ytjaegddnikkibaa
open Go.RowKit Go.Sort

set_option maxHeartbeats 2000000 in
set_option maxRecDepth 100000 in
theorem rfEvent_any (xth xkd xbg xen xck xpl : Int) (xwr : Bool) (xd : Value) (th kd ea eb : Int) (w : World) :
    Calls Try.prog 79 #[.agg #[.int .i64 xth, .int .u8 xkd, .int .i64 xbg, .int .i64 xen, .int .i64 xck, .int .i64 xpl, .bool xwr, xd], .agg #[.int .i64 th, .int .u8 kd, .int .i64 ea, .int .i64 eb]] w fun e w' => e = .returned (.bool (evB xth ⟨th, kd, ea, eb⟩)) ∧ Below w.heap.size w w' := by
  by_cases h1 : th = xth
  · have k1 : (th == xth) = true := by simp; omega
    have k1b : (th != xth) = false := by simp; omega
    by_cases h2 : 0 ≤ ea
    · have k2 : decide (ea < 0) = false := by simp; omega
      by_cases h3 : ea < 262144
      · have k3 : decide (262144 ≤ ea) = false := by simp; omega
        by_cases h4 : kd = 6
        · subst h4
          have k0 : IntKind.i64.wrap (ea + eb) = IntKind.i64.wrap (ea + eb) := rfl
          by_cases h5 : 0 ≤ eb
          · have k5 : decide (0 ≤ eb) = true := by simp; omega
            by_cases h6 : eb ≤ 64
            · have k6 : decide (eb ≤ 64) = true := by simp; omega
              have k0 : IntKind.i64.wrap (ea + eb) = ea + eb := by rw [IntKind.wrap_i64]; omega
              by_cases h7 : ea + eb ≤ 262144
              · have k7 : decide (ea + eb ≤ 262144) = true := by simp; omega
                rw [show evB xth ⟨th, 6, ea, eb⟩ = true from evB_true (by omega)]
                go_enter Try.func79, Try.ntmps79
                go_wp2_with fail
                go_ret
                exact ⟨rfl, ((Below.refl _ _).alloc (Nat.le_refl _) _).alloc (by simp) _⟩
              · have k7 : decide (ea + eb ≤ 262144) = false := by simp; omega
                rw [show evB xth ⟨th, 6, ea, eb⟩ = false from evB_false (by omega)]
                go_enter Try.func79, Try.ntmps79
                go_wp2_with fail
                go_ret
                exact ⟨rfl, ((Below.refl _ _).alloc (Nat.le_refl _) _).alloc (by simp) _⟩
            · have k6 : decide (eb ≤ 64) = false := by simp; omega
              rw [show evB xth ⟨th, 6, ea, eb⟩ = false from evB_false (by omega)]
              go_enter Try.func79, Try.ntmps79
              go_wp2_with fail
              go_ret
              exact ⟨rfl, ((Below.refl _ _).alloc (Nat.le_refl _) _).alloc (by simp) _⟩
          · have k5 : decide (0 ≤ eb) = false := by simp; omega
            rw [show evB xth ⟨th, 6, ea, eb⟩ = false from evB_false (by omega)]
            go_enter Try.func79, Try.ntmps79
            go_wp2_with fail
            go_ret
            exact ⟨rfl, ((Below.refl _ _).alloc (Nat.le_refl _) _).alloc (by simp) _⟩
        · by_cases h8 : kd = 2 ∨ kd = 3 ∨ kd = 4 ∨ kd = 5
          · rcases h8 with rfl | rfl | rfl | rfl
            · skip
              rw [show evB xth ⟨th, 2, ea, eb⟩ = true from evB_true (by omega)]
              go_enter Try.func79, Try.ntmps79
              go_wp2_with fail
              go_ret
              exact ⟨rfl, ((Below.refl _ _).alloc (Nat.le_refl _) _).alloc (by simp) _⟩
            · skip
              rw [show evB xth ⟨th, 3, ea, eb⟩ = true from evB_true (by omega)]
              go_enter Try.func79, Try.ntmps79
              go_wp2_with fail
              go_ret
              exact ⟨rfl, ((Below.refl _ _).alloc (Nat.le_refl _) _).alloc (by simp) _⟩
            · skip
              rw [show evB xth ⟨th, 4, ea, eb⟩ = true from evB_true (by omega)]
              go_enter Try.func79, Try.ntmps79
              go_wp2_with fail
              go_ret
              exact ⟨rfl, ((Below.refl _ _).alloc (Nat.le_refl _) _).alloc (by simp) _⟩
            · skip
              rw [show evB xth ⟨th, 5, ea, eb⟩ = true from evB_true (by omega)]
              go_enter Try.func79, Try.ntmps79
              go_wp2_with fail
              go_ret
              exact ⟨rfl, ((Below.refl _ _).alloc (Nat.le_refl _) _).alloc (by simp) _⟩
          · have g2 : (kd == 2) = false := by simp; omega
            have g3 : (kd == 3) = false := by simp; omega
            have g4 : (kd == 4) = false := by simp; omega
            have g5 : (kd == 5) = false := by simp; omega
            have g6 : (kd == 6) = false := by simp; omega
            rw [show evB xth ⟨th, kd, ea, eb⟩ = false from evB_false (by omega)]
            go_enter Try.func79, Try.ntmps79
            go_wp2_with fail
            go_ret
            exact ⟨rfl, ((Below.refl _ _).alloc (Nat.le_refl _) _).alloc (by simp) _⟩
      · have k3 : decide (262144 ≤ ea) = true := by simp; omega
        rw [show evB xth ⟨th, kd, ea, eb⟩ = false from evB_false (by omega)]
        go_enter Try.func79, Try.ntmps79
        go_wp2_with fail
        go_ret
        exact ⟨rfl, ((Below.refl _ _).alloc (Nat.le_refl _) _).alloc (by simp) _⟩
    · have k2 : decide (ea < 0) = true := by simp; omega
      rw [show evB xth ⟨th, kd, ea, eb⟩ = false from evB_false (by omega)]
      go_enter Try.func79, Try.ntmps79
      go_wp2_with fail
      go_ret
      exact ⟨rfl, ((Below.refl _ _).alloc (Nat.le_refl _) _).alloc (by simp) _⟩
  · have k1 : (th == xth) = false := by simp; omega
    have k1b : (th != xth) = true := by simp; omega
    rw [show evB xth ⟨th, kd, ea, eb⟩ = false from evB_false (by omega)]
    go_enter Try.func79, Try.ntmps79
    go_wp2_with fail
    go_ret
    exact ⟨rfl, ((Below.refl _ _).alloc (Nat.le_refl _) _).alloc (by simp) _⟩
end Go.Proofs.Ytjaegddnikkibaa
