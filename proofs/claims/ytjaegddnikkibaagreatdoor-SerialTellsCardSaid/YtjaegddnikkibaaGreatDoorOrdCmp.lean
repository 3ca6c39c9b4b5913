/-
  The comparing of two attempts walked: cmp.Compare, cmp.Or, serial.writer.
-/
import Derived.Test.YtjaegddnikkibaaGreatDoorAttBase
import Derived.Test.YtjaegddnikkibaaGreatDoorSortAll
import Derived.Test.YtjaegddnikkibaaGreatDoorRegion
import Derived.WalkSmall
set_option linter.unusedVariables false
set_option linter.unusedSimpArgs false
namespace Go.Proofs.YtjaegddnikkibaaGreatDoor
open Go.RowKit Go.Sort

def cmpV (x y : Int) : Int := if x < y then -1 else if y < x then 1 else 0
def orV (a b c : Int) : Int := if a ≠ 0 then a else if b ≠ 0 then b else c
def ordC (x y : Att) : Int := orV (cmpV x.pl y.pl) (cmpV (wv x) (wv y)) (cmpV x.en y.en)
theorem cmpV_cases (x y : Int) : (x < y ∧ cmpV x y = -1) ∨ (y < x ∧ cmpV x y = 1) ∨ (x = y ∧ cmpV x y = 0) := by
  unfold cmpV; split
  · exact Or.inl ⟨by assumption, rfl⟩
  · split
    · exact Or.inr (Or.inl ⟨by assumption, rfl⟩)
    · exact Or.inr (Or.inr ⟨by omega, rfl⟩)
theorem ordC_lt (x y : Att) : decide (ordC x y < 0) = aheadB x y := by
  unfold ordC orV aheadB
  rcases cmpV_cases x.pl y.pl with ⟨h1, e1⟩ | ⟨h1, e1⟩ | ⟨h1, e1⟩ <;> rw [e1]
  · simp [h1]
  · have h3 : ¬ x.pl < y.pl := by omega
    have h4 : ¬ x.pl = y.pl := by omega
    simp [h3, h4]
  · have h3 : ¬ x.pl < y.pl := by omega
    rcases cmpV_cases (wv x) (wv y) with ⟨h2, e2⟩ | ⟨h2, e2⟩ | ⟨h2, e2⟩ <;> rw [e2]
    · simp [h1, h2]
    · have h5 : ¬ wv x < wv y := by omega
      have h6 : ¬ wv x = wv y := by omega
      simp [h3, h5, h6]
    · have h5 : ¬ wv x < wv y := by omega
      rcases cmpV_cases x.en y.en with ⟨h7, e7⟩ | ⟨h7, e7⟩ | ⟨h7, e7⟩ <;> rw [e7]
      · simp [h1, h2, h7]
      · have h8 : ¬ x.en < y.en := by omega
        simp [h3, h5, h8]
      · have h8 : ¬ x.en < y.en := by omega
        simp [h3, h5, h8]

set_option maxHeartbeats 400000 in
theorem nan64_any (x : Int) (w : World) : Calls Tryz.prog 127 #[.int .i64 x] w fun e w' => e = .returned (.bool false) ∧ w = w' := by
  go_enter Tryz.func127, Tryz.ntmps127
  go_wp2
  go_ret
  exact ⟨ret_bool (by simp), rfl⟩
set_option maxHeartbeats 400000 in
theorem nan_any (x : Int) (w : World) : Calls Tryz.prog 128 #[.int .i64 x] w fun e w' => e = .returned (.bool false) ∧ w = w' := by
  go_enter Tryz.func128, Tryz.ntmps128
  go_wp2
  go_ret
  exact ⟨ret_bool (by simp), rfl⟩
set_option maxHeartbeats 400000 in
theorem compare64_any (x y : Int) (w : World) : Calls Tryz.prog 27 #[.int .i64 x, .int .i64 y] w fun e w' => e = .returned (.int .i64 (cmpV x y)) ∧ w = w' := by
  rcases cmpV_cases x y with ⟨h, e0⟩ | ⟨h, e0⟩ | ⟨h, e0⟩ <;> rw [e0] <;> clear e0
  · have t1 : decide (x < y) = true := by simp; omega
    go_enter Tryz.func27, Tryz.ntmps27
    go_wp2_with fail
    refine (nan64_any _ _).mono ?_
    rintro e w1 ⟨rfl, rfl⟩
    go_wp2_with fail
    refine (nan64_any _ _).mono ?_
    rintro e w1 ⟨rfl, rfl⟩
    go_wp2_with fail
    go_ret
    exact ⟨rfl, rfl⟩
  · have t1 : decide (x < y) = false := by simp; omega
    have t2 : decide (y < x) = true := by simp; omega
    go_enter Tryz.func27, Tryz.ntmps27
    go_wp2_with fail
    refine (nan64_any _ _).mono ?_
    rintro e w1 ⟨rfl, rfl⟩
    go_wp2_with fail
    refine (nan64_any _ _).mono ?_
    rintro e w1 ⟨rfl, rfl⟩
    go_wp2_with fail
    go_ret
    exact ⟨rfl, rfl⟩
  · have t1 : decide (x < y) = false := by simp; omega
    have t2 : decide (y < x) = false := by simp; omega
    clear h
    go_enter Tryz.func27, Tryz.ntmps27
    go_wp2_with fail
    refine (nan64_any _ _).mono ?_
    rintro e w1 ⟨rfl, rfl⟩
    go_wp2_with fail
    refine (nan64_any _ _).mono ?_
    rintro e w1 ⟨rfl, rfl⟩
    go_wp2_with fail
    go_ret
    exact ⟨rfl, rfl⟩
set_option maxHeartbeats 400000 in
theorem compare_any (x y : Int) (w : World) : Calls Tryz.prog 28 #[.int .i64 x, .int .i64 y] w fun e w' => e = .returned (.int .i64 (cmpV x y)) ∧ w = w' := by
  rcases cmpV_cases x y with ⟨h, e0⟩ | ⟨h, e0⟩ | ⟨h, e0⟩ <;> rw [e0] <;> clear e0
  · have t1 : decide (x < y) = true := by simp; omega
    go_enter Tryz.func28, Tryz.ntmps28
    go_wp2_with fail
    refine (nan_any _ _).mono ?_
    rintro e w1 ⟨rfl, rfl⟩
    go_wp2_with fail
    refine (nan_any _ _).mono ?_
    rintro e w1 ⟨rfl, rfl⟩
    go_wp2_with fail
    go_ret
    exact ⟨rfl, rfl⟩
  · have t1 : decide (x < y) = false := by simp; omega
    have t2 : decide (y < x) = true := by simp; omega
    go_enter Tryz.func28, Tryz.ntmps28
    go_wp2_with fail
    refine (nan_any _ _).mono ?_
    rintro e w1 ⟨rfl, rfl⟩
    go_wp2_with fail
    refine (nan_any _ _).mono ?_
    rintro e w1 ⟨rfl, rfl⟩
    go_wp2_with fail
    go_ret
    exact ⟨rfl, rfl⟩
  · have t1 : decide (x < y) = false := by simp; omega
    have t2 : decide (y < x) = false := by simp; omega
    clear h
    go_enter Tryz.func28, Tryz.ntmps28
    go_wp2_with fail
    refine (nan_any _ _).mono ?_
    rintro e w1 ⟨rfl, rfl⟩
    go_wp2_with fail
    refine (nan_any _ _).mono ?_
    rintro e w1 ⟨rfl, rfl⟩
    go_wp2_with fail
    go_ret
    exact ⟨rfl, rfl⟩

set_option maxHeartbeats 400000 in
theorem writer_any (x : Att) (w : World) : Calls Tryz.prog 29 #[.agg x.cells.toArray] w fun e w' => e = .returned (.int .i64 (wv x)) ∧ Below w.heap.size w w' := by
  unfold Att.cells wv
  cases hx : x.wr
  · go_enter Tryz.func29, Tryz.ntmps29
    go_wp2
    go_ret
    exact ⟨rfl, (Below.refl _ _).alloc (Nat.le_refl _) _⟩
  · go_enter Tryz.func29, Tryz.ntmps29
    go_wp2
    go_ret
    exact ⟨rfl, (Below.refl _ _).alloc (Nat.le_refl _) _⟩

set_option maxHeartbeats 400000 in
theorem or_any (g cap : Nat) (a b c : Int) (w : World) (h0 : w.cell? ⟨g, 0, none⟩ = some (.int .i64 a)) (h1 : w.cell? ⟨g, 1, none⟩ = some (.int .i64 b)) (h2 : w.cell? ⟨g, 2, none⟩ = some (.int .i64 c)) :
    Calls Tryz.prog 26 #[.slice (some ⟨g, 0, none⟩) 3 cap] w fun e w' => e = .returned (.int .i64 (orV a b c)) ∧ w = w' := by
  unfold orV
  by_cases ha : a = 0
  · by_cases hb : b = 0
    · by_cases hc : c = 0
      · simp only [ha, hb, hc, ne_eq, not_true_eq_false, if_false] at *
        go_enter Tryz.func26, Tryz.ntmps26
        go_wp2
        refine wp_loop_rounds 4 ?_
        rw [rounds_succ]
        go_wp2
        rw [rounds_succ]
        go_wp2
        rw [rounds_succ]
        go_wp2
        rw [rounds_succ]
        go_wp2
        go_ret
        exact ⟨rfl, rfl⟩
      · have t : (c == 0) = false := by simpa using hc
        simp only [ha, hb, ne_eq, not_true_eq_false, if_false] at *
        go_enter Tryz.func26, Tryz.ntmps26
        go_wp2
        refine wp_loop_rounds 3 ?_
        rw [rounds_succ]
        go_wp2
        rw [rounds_succ]
        go_wp2
        rw [rounds_succ]
        go_wp2
        go_ret
        exact ⟨rfl, rfl⟩
    · have t : (b == 0) = false := by simpa using hb
      simp only [ha, hb, ne_eq, not_true_eq_false, not_false_eq_true, if_false, if_true] at *
      go_enter Tryz.func26, Tryz.ntmps26
      go_wp2
      refine wp_loop_rounds 2 ?_
      rw [rounds_succ]
      go_wp2
      rw [rounds_succ]
      go_wp2
      go_ret
      exact ⟨rfl, rfl⟩
  · have t : (a == 0) = false := by simpa using ha
    simp only [ha, ne_eq, not_false_eq_true, if_true] at *
    go_enter Tryz.func26, Tryz.ntmps26
    go_wp2
    refine wp_loop_rounds 1 ?_
    rw [rounds_succ]
    go_wp2
    go_ret
    exact ⟨rfl, rfl⟩
end Go.Proofs.YtjaegddnikkibaaGreatDoor
