/-
  What attempts may be, walked: serial.may.
-/
import Derived.Test.YtjaegddnikkibaaGreatDoorMay
import Derived.Laws.EntriesVeiled
set_option linter.unusedVariables false
set_option linter.unusedSimpArgs false
namespace Go.Proofs.YtjaegddnikkibaaGreatDoor
open Go.RowKit Go.Sort

set_option maxHeartbeats 4000000 in
set_option maxRecDepth 100000 in
theorem may_any (th kd bg en ck pl : Int) (wr : Bool) (dA : Option Addr) (dc : Nat) (evs : List Ev) (B : Nat) (hx : (⟨th, kd, bg, en, ck, pl, wr, dA, dc, evs⟩ : Att).Ok) (w : World) (ha : EvsAt w B dA evs) (hB : B ≤ w.heap.size) :
    Calls Tryz.prog 125 #[.agg #[.int .i64 th, .int .u8 kd, .int .i64 bg, .int .i64 en, .int .i64 ck, .int .i64 pl, .bool wr, .slice dA evs.length dc]] w fun e w' => e = .returned (.bool (attB ⟨th, kd, bg, en, ck, pl, wr, dA, dc, evs⟩)) ∧ Below w.heap.size w w' := by
  have HX := Lib.hid hx
  have HA := Lib.hid ha
  clear hx ha
  by_cases h1 : th < 0
  · have t1 : decide (th < 0) = true := by simp; omega
    rw [show attB ⟨th, kd, bg, en, ck, pl, wr, dA, dc, evs⟩ = false from attB_false (by omega)]
    go_enter Tryz.func125, Tryz.ntmps125
    go_wp2_with fail
    refine (fits_any _ _).mono ?_
    rintro e w1 ⟨rfl, hc1, hs1, hb1⟩
    replace hb1 := Lib.hid hb1
    have HB := Lib.hid (may_below hb1.out)
    have c0 := fun o => (may_box ⟨th, kd, bg, en, ck, pl, wr, dA, dc, evs⟩ hb1.out o).c0
    have c1 := fun o => (may_box ⟨th, kd, bg, en, ck, pl, wr, dA, dc, evs⟩ hb1.out o).c1
    have c2 := fun o => (may_box ⟨th, kd, bg, en, ck, pl, wr, dA, dc, evs⟩ hb1.out o).c2
    have c3 := fun o => (may_box ⟨th, kd, bg, en, ck, pl, wr, dA, dc, evs⟩ hb1.out o).c3
    have c4 := fun o => (may_box ⟨th, kd, bg, en, ck, pl, wr, dA, dc, evs⟩ hb1.out o).c4
    have c5 := fun o => (may_box ⟨th, kd, bg, en, ck, pl, wr, dA, dc, evs⟩ hb1.out o).c5
    have c6 := fun o => (may_box ⟨th, kd, bg, en, ck, pl, wr, dA, dc, evs⟩ hb1.out o).c6
    have c7 := fun o => (may_box ⟨th, kd, bg, en, ck, pl, wr, dA, dc, evs⟩ hb1.out o).c7
    simp only [Nat.zero_add] at c0 c1 c2 c3 c4 c5 c6 c7
    replace hs1 : w1.heap.size = w.heap.size + 2 := by simpa using hs1
    replace hc1 : w1.cell? ⟨w.heap.size + 1, 0, none⟩ = some (.int .i64 th) := by simpa using hc1
    have hTB := Lib.hid (fun o => (((Below.refl w1.heap.size w1).alloc (Nat.le_refl _) o).cell (p := ⟨w.heap.size + 1, 0, none⟩) (by rw [hs1]; exact Nat.lt_succ_self _)).trans hc1)
    have hFB := Lib.hid (World.cell?_alloc_new w1)
    have HB2 := Lib.hid (fun o => (HB.out o).size)
    clear hc1 hs1 hb1
    clear c7 hFB hTB HB2
    go_wp2_with fail
    go_ret
    exact ⟨rfl, HB.out _⟩
  have t1 : decide (th < 0) = false := by simp; omega
  by_cases h2 : th < 4
  case neg =>
    have t2 : decide (4 ≤ th) = true := by simp; omega
    rw [show attB ⟨th, kd, bg, en, ck, pl, wr, dA, dc, evs⟩ = false from attB_false (by omega)]
    go_enter Tryz.func125, Tryz.ntmps125
    go_wp2_with fail
    refine (fits_any _ _).mono ?_
    rintro e w1 ⟨rfl, hc1, hs1, hb1⟩
    replace hb1 := Lib.hid hb1
    have HB := Lib.hid (may_below hb1.out)
    have c0 := fun o => (may_box ⟨th, kd, bg, en, ck, pl, wr, dA, dc, evs⟩ hb1.out o).c0
    have c1 := fun o => (may_box ⟨th, kd, bg, en, ck, pl, wr, dA, dc, evs⟩ hb1.out o).c1
    have c2 := fun o => (may_box ⟨th, kd, bg, en, ck, pl, wr, dA, dc, evs⟩ hb1.out o).c2
    have c3 := fun o => (may_box ⟨th, kd, bg, en, ck, pl, wr, dA, dc, evs⟩ hb1.out o).c3
    have c4 := fun o => (may_box ⟨th, kd, bg, en, ck, pl, wr, dA, dc, evs⟩ hb1.out o).c4
    have c5 := fun o => (may_box ⟨th, kd, bg, en, ck, pl, wr, dA, dc, evs⟩ hb1.out o).c5
    have c6 := fun o => (may_box ⟨th, kd, bg, en, ck, pl, wr, dA, dc, evs⟩ hb1.out o).c6
    have c7 := fun o => (may_box ⟨th, kd, bg, en, ck, pl, wr, dA, dc, evs⟩ hb1.out o).c7
    simp only [Nat.zero_add] at c0 c1 c2 c3 c4 c5 c6 c7
    replace hs1 : w1.heap.size = w.heap.size + 2 := by simpa using hs1
    replace hc1 : w1.cell? ⟨w.heap.size + 1, 0, none⟩ = some (.int .i64 th) := by simpa using hc1
    have hTB := Lib.hid (fun o => (((Below.refl w1.heap.size w1).alloc (Nat.le_refl _) o).cell (p := ⟨w.heap.size + 1, 0, none⟩) (by rw [hs1]; exact Nat.lt_succ_self _)).trans hc1)
    have hFB := Lib.hid (World.cell?_alloc_new w1)
    have HB2 := Lib.hid (fun o => (HB.out o).size)
    clear hc1 hs1 hb1
    clear c7 hFB hTB HB2
    go_wp2_with fail
    go_ret
    exact ⟨rfl, HB.out _⟩
  have t2 : decide (4 ≤ th) = false := by simp; omega
  by_cases h3 : 3 < kd
  · have t3 : decide (3 < kd) = true := by simp; omega
    rw [show attB ⟨th, kd, bg, en, ck, pl, wr, dA, dc, evs⟩ = false from attB_false (by omega)]
    go_enter Tryz.func125, Tryz.ntmps125
    go_wp2_with fail
    refine (fits_any _ _).mono ?_
    rintro e w1 ⟨rfl, hc1, hs1, hb1⟩
    replace hb1 := Lib.hid hb1
    have HB := Lib.hid (may_below hb1.out)
    have c0 := fun o => (may_box ⟨th, kd, bg, en, ck, pl, wr, dA, dc, evs⟩ hb1.out o).c0
    have c1 := fun o => (may_box ⟨th, kd, bg, en, ck, pl, wr, dA, dc, evs⟩ hb1.out o).c1
    have c2 := fun o => (may_box ⟨th, kd, bg, en, ck, pl, wr, dA, dc, evs⟩ hb1.out o).c2
    have c3 := fun o => (may_box ⟨th, kd, bg, en, ck, pl, wr, dA, dc, evs⟩ hb1.out o).c3
    have c4 := fun o => (may_box ⟨th, kd, bg, en, ck, pl, wr, dA, dc, evs⟩ hb1.out o).c4
    have c5 := fun o => (may_box ⟨th, kd, bg, en, ck, pl, wr, dA, dc, evs⟩ hb1.out o).c5
    have c6 := fun o => (may_box ⟨th, kd, bg, en, ck, pl, wr, dA, dc, evs⟩ hb1.out o).c6
    have c7 := fun o => (may_box ⟨th, kd, bg, en, ck, pl, wr, dA, dc, evs⟩ hb1.out o).c7
    simp only [Nat.zero_add] at c0 c1 c2 c3 c4 c5 c6 c7
    replace hs1 : w1.heap.size = w.heap.size + 2 := by simpa using hs1
    replace hc1 : w1.cell? ⟨w.heap.size + 1, 0, none⟩ = some (.int .i64 th) := by simpa using hc1
    have hTB := Lib.hid (fun o => (((Below.refl w1.heap.size w1).alloc (Nat.le_refl _) o).cell (p := ⟨w.heap.size + 1, 0, none⟩) (by rw [hs1]; exact Nat.lt_succ_self _)).trans hc1)
    have hFB := Lib.hid (World.cell?_alloc_new w1)
    have HB2 := Lib.hid (fun o => (HB.out o).size)
    clear hc1 hs1 hb1
    clear c7 hFB hTB HB2
    go_wp2_with fail
    go_ret
    exact ⟨rfl, HB.out _⟩
  have t3 : decide (3 < kd) = false := by simp; omega
  by_cases h4 : bg < 0
  · have t4 : decide (bg < 0) = true := by simp; omega
    rw [show attB ⟨th, kd, bg, en, ck, pl, wr, dA, dc, evs⟩ = false from attB_false (by omega)]
    go_enter Tryz.func125, Tryz.ntmps125
    go_wp2_with fail
    refine (fits_any _ _).mono ?_
    rintro e w1 ⟨rfl, hc1, hs1, hb1⟩
    replace hb1 := Lib.hid hb1
    have HB := Lib.hid (may_below hb1.out)
    have c0 := fun o => (may_box ⟨th, kd, bg, en, ck, pl, wr, dA, dc, evs⟩ hb1.out o).c0
    have c1 := fun o => (may_box ⟨th, kd, bg, en, ck, pl, wr, dA, dc, evs⟩ hb1.out o).c1
    have c2 := fun o => (may_box ⟨th, kd, bg, en, ck, pl, wr, dA, dc, evs⟩ hb1.out o).c2
    have c3 := fun o => (may_box ⟨th, kd, bg, en, ck, pl, wr, dA, dc, evs⟩ hb1.out o).c3
    have c4 := fun o => (may_box ⟨th, kd, bg, en, ck, pl, wr, dA, dc, evs⟩ hb1.out o).c4
    have c5 := fun o => (may_box ⟨th, kd, bg, en, ck, pl, wr, dA, dc, evs⟩ hb1.out o).c5
    have c6 := fun o => (may_box ⟨th, kd, bg, en, ck, pl, wr, dA, dc, evs⟩ hb1.out o).c6
    have c7 := fun o => (may_box ⟨th, kd, bg, en, ck, pl, wr, dA, dc, evs⟩ hb1.out o).c7
    simp only [Nat.zero_add] at c0 c1 c2 c3 c4 c5 c6 c7
    replace hs1 : w1.heap.size = w.heap.size + 2 := by simpa using hs1
    replace hc1 : w1.cell? ⟨w.heap.size + 1, 0, none⟩ = some (.int .i64 th) := by simpa using hc1
    have hTB := Lib.hid (fun o => (((Below.refl w1.heap.size w1).alloc (Nat.le_refl _) o).cell (p := ⟨w.heap.size + 1, 0, none⟩) (by rw [hs1]; exact Nat.lt_succ_self _)).trans hc1)
    have hFB := Lib.hid (World.cell?_alloc_new w1)
    have HB2 := Lib.hid (fun o => (HB.out o).size)
    clear hc1 hs1 hb1
    clear c7 hFB hTB HB2
    go_wp2_with fail
    go_ret
    exact ⟨rfl, HB.out _⟩
  have t4 : decide (bg < 0) = false := by simp; omega
  by_cases h5 : ck < 0
  · have t5 : decide (ck < 0) = true := by simp; omega
    rw [show attB ⟨th, kd, bg, en, ck, pl, wr, dA, dc, evs⟩ = false from attB_false (by omega)]
    go_enter Tryz.func125, Tryz.ntmps125
    go_wp2_with fail
    refine (fits_any _ _).mono ?_
    rintro e w1 ⟨rfl, hc1, hs1, hb1⟩
    replace hb1 := Lib.hid hb1
    have HB := Lib.hid (may_below hb1.out)
    have c0 := fun o => (may_box ⟨th, kd, bg, en, ck, pl, wr, dA, dc, evs⟩ hb1.out o).c0
    have c1 := fun o => (may_box ⟨th, kd, bg, en, ck, pl, wr, dA, dc, evs⟩ hb1.out o).c1
    have c2 := fun o => (may_box ⟨th, kd, bg, en, ck, pl, wr, dA, dc, evs⟩ hb1.out o).c2
    have c3 := fun o => (may_box ⟨th, kd, bg, en, ck, pl, wr, dA, dc, evs⟩ hb1.out o).c3
    have c4 := fun o => (may_box ⟨th, kd, bg, en, ck, pl, wr, dA, dc, evs⟩ hb1.out o).c4
    have c5 := fun o => (may_box ⟨th, kd, bg, en, ck, pl, wr, dA, dc, evs⟩ hb1.out o).c5
    have c6 := fun o => (may_box ⟨th, kd, bg, en, ck, pl, wr, dA, dc, evs⟩ hb1.out o).c6
    have c7 := fun o => (may_box ⟨th, kd, bg, en, ck, pl, wr, dA, dc, evs⟩ hb1.out o).c7
    simp only [Nat.zero_add] at c0 c1 c2 c3 c4 c5 c6 c7
    replace hs1 : w1.heap.size = w.heap.size + 2 := by simpa using hs1
    replace hc1 : w1.cell? ⟨w.heap.size + 1, 0, none⟩ = some (.int .i64 th) := by simpa using hc1
    have hTB := Lib.hid (fun o => (((Below.refl w1.heap.size w1).alloc (Nat.le_refl _) o).cell (p := ⟨w.heap.size + 1, 0, none⟩) (by rw [hs1]; exact Nat.lt_succ_self _)).trans hc1)
    have hFB := Lib.hid (World.cell?_alloc_new w1)
    have HB2 := Lib.hid (fun o => (HB.out o).size)
    clear hc1 hs1 hb1
    clear c7 hFB hTB HB2
    go_wp2_with fail
    go_ret
    exact ⟨rfl, HB.out _⟩
  have t5 : decide (ck < 0) = false := by simp; omega
  by_cases h6 : kd = 0
  · subst h6
    by_cases h7 : en = -1
    case neg =>
      have t8 : decide (en = -1) = false := by simp; omega
      rw [show attB ⟨th, 0, bg, en, ck, pl, wr, dA, dc, evs⟩ = false from attB_false (by omega)]
      go_enter Tryz.func125, Tryz.ntmps125
      go_wp2_with fail
      refine (fits_any _ _).mono ?_
      rintro e w1 ⟨rfl, hc1, hs1, hb1⟩
      replace hb1 := Lib.hid hb1
      have HB := Lib.hid (may_below hb1.out)
      have c0 := fun o => (may_box ⟨th, 0, bg, en, ck, pl, wr, dA, dc, evs⟩ hb1.out o).c0
      have c1 := fun o => (may_box ⟨th, 0, bg, en, ck, pl, wr, dA, dc, evs⟩ hb1.out o).c1
      have c2 := fun o => (may_box ⟨th, 0, bg, en, ck, pl, wr, dA, dc, evs⟩ hb1.out o).c2
      have c3 := fun o => (may_box ⟨th, 0, bg, en, ck, pl, wr, dA, dc, evs⟩ hb1.out o).c3
      have c4 := fun o => (may_box ⟨th, 0, bg, en, ck, pl, wr, dA, dc, evs⟩ hb1.out o).c4
      have c5 := fun o => (may_box ⟨th, 0, bg, en, ck, pl, wr, dA, dc, evs⟩ hb1.out o).c5
      have c6 := fun o => (may_box ⟨th, 0, bg, en, ck, pl, wr, dA, dc, evs⟩ hb1.out o).c6
      have c7 := fun o => (may_box ⟨th, 0, bg, en, ck, pl, wr, dA, dc, evs⟩ hb1.out o).c7
      simp only [Nat.zero_add] at c0 c1 c2 c3 c4 c5 c6 c7
      replace hs1 : w1.heap.size = w.heap.size + 2 := by simpa using hs1
      replace hc1 : w1.cell? ⟨w.heap.size + 1, 0, none⟩ = some (.int .i64 th) := by simpa using hc1
      have hTB := Lib.hid (fun o => (((Below.refl w1.heap.size w1).alloc (Nat.le_refl _) o).cell (p := ⟨w.heap.size + 1, 0, none⟩) (by rw [hs1]; exact Nat.lt_succ_self _)).trans hc1)
      have hFB := Lib.hid (World.cell?_alloc_new w1)
      have HB2 := Lib.hid (fun o => (HB.out o).size)
      clear hc1 hs1 hb1
      clear c7 hFB hTB HB2
      go_wp2_with fail
      go_ret
      exact ⟨rfl, HB.out _⟩
    subst h7
    by_cases h8 : pl = 0
    case neg =>
      have t9 : decide (pl = 0) = false := by simp; omega
      rw [show attB ⟨th, 0, bg, (-1), ck, pl, wr, dA, dc, evs⟩ = false from attB_false (by omega)]
      go_enter Tryz.func125, Tryz.ntmps125
      go_wp2_with fail
      refine (fits_any _ _).mono ?_
      rintro e w1 ⟨rfl, hc1, hs1, hb1⟩
      replace hb1 := Lib.hid hb1
      have HB := Lib.hid (may_below hb1.out)
      have c0 := fun o => (may_box ⟨th, 0, bg, (-1), ck, pl, wr, dA, dc, evs⟩ hb1.out o).c0
      have c1 := fun o => (may_box ⟨th, 0, bg, (-1), ck, pl, wr, dA, dc, evs⟩ hb1.out o).c1
      have c2 := fun o => (may_box ⟨th, 0, bg, (-1), ck, pl, wr, dA, dc, evs⟩ hb1.out o).c2
      have c3 := fun o => (may_box ⟨th, 0, bg, (-1), ck, pl, wr, dA, dc, evs⟩ hb1.out o).c3
      have c4 := fun o => (may_box ⟨th, 0, bg, (-1), ck, pl, wr, dA, dc, evs⟩ hb1.out o).c4
      have c5 := fun o => (may_box ⟨th, 0, bg, (-1), ck, pl, wr, dA, dc, evs⟩ hb1.out o).c5
      have c6 := fun o => (may_box ⟨th, 0, bg, (-1), ck, pl, wr, dA, dc, evs⟩ hb1.out o).c6
      have c7 := fun o => (may_box ⟨th, 0, bg, (-1), ck, pl, wr, dA, dc, evs⟩ hb1.out o).c7
      simp only [Nat.zero_add] at c0 c1 c2 c3 c4 c5 c6 c7
      replace hs1 : w1.heap.size = w.heap.size + 2 := by simpa using hs1
      replace hc1 : w1.cell? ⟨w.heap.size + 1, 0, none⟩ = some (.int .i64 th) := by simpa using hc1
      have hTB := Lib.hid (fun o => (((Below.refl w1.heap.size w1).alloc (Nat.le_refl _) o).cell (p := ⟨w.heap.size + 1, 0, none⟩) (by rw [hs1]; exact Nat.lt_succ_self _)).trans hc1)
      have hFB := Lib.hid (World.cell?_alloc_new w1)
      have HB2 := Lib.hid (fun o => (HB.out o).size)
      clear hc1 hs1 hb1
      clear c7 hFB hTB HB2
      go_wp2_with fail
      go_ret
      exact ⟨rfl, HB.out _⟩
    subst h8
    cases wr
    case true =>
      rw [show attB ⟨th, 0, bg, (-1), ck, 0, true, dA, dc, evs⟩ = false from attB_false (by simp)]
      go_enter Tryz.func125, Tryz.ntmps125
      go_wp2_with fail
      refine (fits_any _ _).mono ?_
      rintro e w1 ⟨rfl, hc1, hs1, hb1⟩
      replace hb1 := Lib.hid hb1
      have HB := Lib.hid (may_below hb1.out)
      have c0 := fun o => (may_box ⟨th, 0, bg, (-1), ck, 0, true, dA, dc, evs⟩ hb1.out o).c0
      have c1 := fun o => (may_box ⟨th, 0, bg, (-1), ck, 0, true, dA, dc, evs⟩ hb1.out o).c1
      have c2 := fun o => (may_box ⟨th, 0, bg, (-1), ck, 0, true, dA, dc, evs⟩ hb1.out o).c2
      have c3 := fun o => (may_box ⟨th, 0, bg, (-1), ck, 0, true, dA, dc, evs⟩ hb1.out o).c3
      have c4 := fun o => (may_box ⟨th, 0, bg, (-1), ck, 0, true, dA, dc, evs⟩ hb1.out o).c4
      have c5 := fun o => (may_box ⟨th, 0, bg, (-1), ck, 0, true, dA, dc, evs⟩ hb1.out o).c5
      have c6 := fun o => (may_box ⟨th, 0, bg, (-1), ck, 0, true, dA, dc, evs⟩ hb1.out o).c6
      have c7 := fun o => (may_box ⟨th, 0, bg, (-1), ck, 0, true, dA, dc, evs⟩ hb1.out o).c7
      simp only [Nat.zero_add] at c0 c1 c2 c3 c4 c5 c6 c7
      replace hs1 : w1.heap.size = w.heap.size + 2 := by simpa using hs1
      replace hc1 : w1.cell? ⟨w.heap.size + 1, 0, none⟩ = some (.int .i64 th) := by simpa using hc1
      have hTB := Lib.hid (fun o => (((Below.refl w1.heap.size w1).alloc (Nat.le_refl _) o).cell (p := ⟨w.heap.size + 1, 0, none⟩) (by rw [hs1]; exact Nat.lt_succ_self _)).trans hc1)
      have hFB := Lib.hid (World.cell?_alloc_new w1)
      have HB2 := Lib.hid (fun o => (HB.out o).size)
      clear hc1 hs1 hb1
      clear c7 hFB hTB HB2
      go_wp2_with fail
      go_ret
      exact ⟨rfl, HB.out _⟩
    rw [attB_rest (by omega) (Or.inr ⟨rfl, rfl⟩)]
    go_enter Tryz.func125, Tryz.ntmps125
    go_wp2_with fail
    refine (fits_any _ _).mono ?_
    rintro e w1 ⟨rfl, hc1, hs1, hb1⟩
    replace hb1 := Lib.hid hb1
    have HB := Lib.hid (may_below hb1.out)
    have c0 := fun o => (may_box ⟨th, 0, bg, (-1), ck, 0, false, dA, dc, evs⟩ hb1.out o).c0
    have c1 := fun o => (may_box ⟨th, 0, bg, (-1), ck, 0, false, dA, dc, evs⟩ hb1.out o).c1
    have c2 := fun o => (may_box ⟨th, 0, bg, (-1), ck, 0, false, dA, dc, evs⟩ hb1.out o).c2
    have c3 := fun o => (may_box ⟨th, 0, bg, (-1), ck, 0, false, dA, dc, evs⟩ hb1.out o).c3
    have c4 := fun o => (may_box ⟨th, 0, bg, (-1), ck, 0, false, dA, dc, evs⟩ hb1.out o).c4
    have c5 := fun o => (may_box ⟨th, 0, bg, (-1), ck, 0, false, dA, dc, evs⟩ hb1.out o).c5
    have c6 := fun o => (may_box ⟨th, 0, bg, (-1), ck, 0, false, dA, dc, evs⟩ hb1.out o).c6
    have c7 := fun o => (may_box ⟨th, 0, bg, (-1), ck, 0, false, dA, dc, evs⟩ hb1.out o).c7
    simp only [Nat.zero_add] at c0 c1 c2 c3 c4 c5 c6 c7
    replace hs1 : w1.heap.size = w.heap.size + 2 := by simpa using hs1
    replace hc1 : w1.cell? ⟨w.heap.size + 1, 0, none⟩ = some (.int .i64 th) := by simpa using hc1
    have hTB := Lib.hid (fun o => (((Below.refl w1.heap.size w1).alloc (Nat.le_refl _) o).cell (p := ⟨w.heap.size + 1, 0, none⟩) (by rw [hs1]; exact Nat.lt_succ_self _)).trans hc1)
    have hFB := Lib.hid (World.cell?_alloc_new w1)
    have HB2 := Lib.hid (fun o => (HB.out o).size)
    clear hc1 hs1 hb1
    go_wp2_with fail
    refine (contains_any th w1.heap.size (w.heap.size + 1) B dc dA evs HX.out.len HX.out.evs _ (HA.out.keep ((HB.out _).mono hB) (Nat.le_refl _)) (Nat.le_trans hB (HB2.out _)) (hFB.out _ _ _) (hTB.out _)).mono ?_
    rintro e w2 ⟨rfl, hb2⟩
    have hE := Lib.hid ((HB.out _).trans (hb2.mono (HB2.out _)))
    clear hb2
    go_wp2_with fail
    go_ret
    exact ⟨ret_bool (by simp), hE.out⟩
  · have t6 : decide (kd = 0) = false := by simp; omega
    by_cases h7 : bg < en
    case neg =>
      have t8 : decide (en ≤ bg) = true := by simp; omega
      rw [show attB ⟨th, kd, bg, en, ck, pl, wr, dA, dc, evs⟩ = false from attB_false (by omega)]
      go_enter Tryz.func125, Tryz.ntmps125
      go_wp2_with fail
      refine (fits_any _ _).mono ?_
      rintro e w1 ⟨rfl, hc1, hs1, hb1⟩
      replace hb1 := Lib.hid hb1
      have HB := Lib.hid (may_below hb1.out)
      have c0 := fun o => (may_box ⟨th, kd, bg, en, ck, pl, wr, dA, dc, evs⟩ hb1.out o).c0
      have c1 := fun o => (may_box ⟨th, kd, bg, en, ck, pl, wr, dA, dc, evs⟩ hb1.out o).c1
      have c2 := fun o => (may_box ⟨th, kd, bg, en, ck, pl, wr, dA, dc, evs⟩ hb1.out o).c2
      have c3 := fun o => (may_box ⟨th, kd, bg, en, ck, pl, wr, dA, dc, evs⟩ hb1.out o).c3
      have c4 := fun o => (may_box ⟨th, kd, bg, en, ck, pl, wr, dA, dc, evs⟩ hb1.out o).c4
      have c5 := fun o => (may_box ⟨th, kd, bg, en, ck, pl, wr, dA, dc, evs⟩ hb1.out o).c5
      have c6 := fun o => (may_box ⟨th, kd, bg, en, ck, pl, wr, dA, dc, evs⟩ hb1.out o).c6
      have c7 := fun o => (may_box ⟨th, kd, bg, en, ck, pl, wr, dA, dc, evs⟩ hb1.out o).c7
      simp only [Nat.zero_add] at c0 c1 c2 c3 c4 c5 c6 c7
      replace hs1 : w1.heap.size = w.heap.size + 2 := by simpa using hs1
      replace hc1 : w1.cell? ⟨w.heap.size + 1, 0, none⟩ = some (.int .i64 th) := by simpa using hc1
      have hTB := Lib.hid (fun o => (((Below.refl w1.heap.size w1).alloc (Nat.le_refl _) o).cell (p := ⟨w.heap.size + 1, 0, none⟩) (by rw [hs1]; exact Nat.lt_succ_self _)).trans hc1)
      have hFB := Lib.hid (World.cell?_alloc_new w1)
      have HB2 := Lib.hid (fun o => (HB.out o).size)
      clear hc1 hs1 hb1
      clear c7 hFB hTB HB2
      go_wp2_with fail
      go_ret
      exact ⟨rfl, HB.out _⟩
    have t8 : decide (en ≤ bg) = false := by simp; omega
    by_cases h9 : kd = 1
    · subst h9
      rw [attB_rest (by omega) (Or.inl rfl)]
      go_enter Tryz.func125, Tryz.ntmps125
      go_wp2_with fail
      refine (fits_any _ _).mono ?_
      rintro e w1 ⟨rfl, hc1, hs1, hb1⟩
      replace hb1 := Lib.hid hb1
      have HB := Lib.hid (may_below hb1.out)
      have c0 := fun o => (may_box ⟨th, 1, bg, en, ck, pl, wr, dA, dc, evs⟩ hb1.out o).c0
      have c1 := fun o => (may_box ⟨th, 1, bg, en, ck, pl, wr, dA, dc, evs⟩ hb1.out o).c1
      have c2 := fun o => (may_box ⟨th, 1, bg, en, ck, pl, wr, dA, dc, evs⟩ hb1.out o).c2
      have c3 := fun o => (may_box ⟨th, 1, bg, en, ck, pl, wr, dA, dc, evs⟩ hb1.out o).c3
      have c4 := fun o => (may_box ⟨th, 1, bg, en, ck, pl, wr, dA, dc, evs⟩ hb1.out o).c4
      have c5 := fun o => (may_box ⟨th, 1, bg, en, ck, pl, wr, dA, dc, evs⟩ hb1.out o).c5
      have c6 := fun o => (may_box ⟨th, 1, bg, en, ck, pl, wr, dA, dc, evs⟩ hb1.out o).c6
      have c7 := fun o => (may_box ⟨th, 1, bg, en, ck, pl, wr, dA, dc, evs⟩ hb1.out o).c7
      simp only [Nat.zero_add] at c0 c1 c2 c3 c4 c5 c6 c7
      replace hs1 : w1.heap.size = w.heap.size + 2 := by simpa using hs1
      replace hc1 : w1.cell? ⟨w.heap.size + 1, 0, none⟩ = some (.int .i64 th) := by simpa using hc1
      have hTB := Lib.hid (fun o => (((Below.refl w1.heap.size w1).alloc (Nat.le_refl _) o).cell (p := ⟨w.heap.size + 1, 0, none⟩) (by rw [hs1]; exact Nat.lt_succ_self _)).trans hc1)
      have hFB := Lib.hid (World.cell?_alloc_new w1)
      have HB2 := Lib.hid (fun o => (HB.out o).size)
      clear hc1 hs1 hb1
      go_wp2_with fail
      refine (contains_any th w1.heap.size (w.heap.size + 1) B dc dA evs HX.out.len HX.out.evs _ (HA.out.keep ((HB.out _).mono hB) (Nat.le_refl _)) (Nat.le_trans hB (HB2.out _)) (hFB.out _ _ _) (hTB.out _)).mono ?_
      rintro e w2 ⟨rfl, hb2⟩
      have hE := Lib.hid ((HB.out _).trans (hb2.mono (HB2.out _)))
      clear hb2
      go_wp2_with fail
      go_ret
      exact ⟨ret_bool (by simp), hE.out⟩
    · have t7 : decide (kd = 1) = false := by simp; omega
      by_cases h8 : pl = 0
      case neg =>
        have t9 : decide (pl = 0) = false := by simp; omega
        rw [show attB ⟨th, kd, bg, en, ck, pl, wr, dA, dc, evs⟩ = false from attB_false (by omega)]
        go_enter Tryz.func125, Tryz.ntmps125
        go_wp2_with fail
        refine (fits_any _ _).mono ?_
        rintro e w1 ⟨rfl, hc1, hs1, hb1⟩
        replace hb1 := Lib.hid hb1
        have HB := Lib.hid (may_below hb1.out)
        have c0 := fun o => (may_box ⟨th, kd, bg, en, ck, pl, wr, dA, dc, evs⟩ hb1.out o).c0
        have c1 := fun o => (may_box ⟨th, kd, bg, en, ck, pl, wr, dA, dc, evs⟩ hb1.out o).c1
        have c2 := fun o => (may_box ⟨th, kd, bg, en, ck, pl, wr, dA, dc, evs⟩ hb1.out o).c2
        have c3 := fun o => (may_box ⟨th, kd, bg, en, ck, pl, wr, dA, dc, evs⟩ hb1.out o).c3
        have c4 := fun o => (may_box ⟨th, kd, bg, en, ck, pl, wr, dA, dc, evs⟩ hb1.out o).c4
        have c5 := fun o => (may_box ⟨th, kd, bg, en, ck, pl, wr, dA, dc, evs⟩ hb1.out o).c5
        have c6 := fun o => (may_box ⟨th, kd, bg, en, ck, pl, wr, dA, dc, evs⟩ hb1.out o).c6
        have c7 := fun o => (may_box ⟨th, kd, bg, en, ck, pl, wr, dA, dc, evs⟩ hb1.out o).c7
        simp only [Nat.zero_add] at c0 c1 c2 c3 c4 c5 c6 c7
        replace hs1 : w1.heap.size = w.heap.size + 2 := by simpa using hs1
        replace hc1 : w1.cell? ⟨w.heap.size + 1, 0, none⟩ = some (.int .i64 th) := by simpa using hc1
        have hTB := Lib.hid (fun o => (((Below.refl w1.heap.size w1).alloc (Nat.le_refl _) o).cell (p := ⟨w.heap.size + 1, 0, none⟩) (by rw [hs1]; exact Nat.lt_succ_self _)).trans hc1)
        have hFB := Lib.hid (World.cell?_alloc_new w1)
        have HB2 := Lib.hid (fun o => (HB.out o).size)
        clear hc1 hs1 hb1
        clear c7 hFB hTB HB2
        go_wp2_with fail
        go_ret
        exact ⟨rfl, HB.out _⟩
      subst h8
      cases wr
      case true =>
        rw [show attB ⟨th, kd, bg, en, ck, 0, true, dA, dc, evs⟩ = false from attB_false (by simp; omega)]
        go_enter Tryz.func125, Tryz.ntmps125
        go_wp2_with fail
        refine (fits_any _ _).mono ?_
        rintro e w1 ⟨rfl, hc1, hs1, hb1⟩
        replace hb1 := Lib.hid hb1
        have HB := Lib.hid (may_below hb1.out)
        have c0 := fun o => (may_box ⟨th, kd, bg, en, ck, 0, true, dA, dc, evs⟩ hb1.out o).c0
        have c1 := fun o => (may_box ⟨th, kd, bg, en, ck, 0, true, dA, dc, evs⟩ hb1.out o).c1
        have c2 := fun o => (may_box ⟨th, kd, bg, en, ck, 0, true, dA, dc, evs⟩ hb1.out o).c2
        have c3 := fun o => (may_box ⟨th, kd, bg, en, ck, 0, true, dA, dc, evs⟩ hb1.out o).c3
        have c4 := fun o => (may_box ⟨th, kd, bg, en, ck, 0, true, dA, dc, evs⟩ hb1.out o).c4
        have c5 := fun o => (may_box ⟨th, kd, bg, en, ck, 0, true, dA, dc, evs⟩ hb1.out o).c5
        have c6 := fun o => (may_box ⟨th, kd, bg, en, ck, 0, true, dA, dc, evs⟩ hb1.out o).c6
        have c7 := fun o => (may_box ⟨th, kd, bg, en, ck, 0, true, dA, dc, evs⟩ hb1.out o).c7
        simp only [Nat.zero_add] at c0 c1 c2 c3 c4 c5 c6 c7
        replace hs1 : w1.heap.size = w.heap.size + 2 := by simpa using hs1
        replace hc1 : w1.cell? ⟨w.heap.size + 1, 0, none⟩ = some (.int .i64 th) := by simpa using hc1
        have hTB := Lib.hid (fun o => (((Below.refl w1.heap.size w1).alloc (Nat.le_refl _) o).cell (p := ⟨w.heap.size + 1, 0, none⟩) (by rw [hs1]; exact Nat.lt_succ_self _)).trans hc1)
        have hFB := Lib.hid (World.cell?_alloc_new w1)
        have HB2 := Lib.hid (fun o => (HB.out o).size)
        clear hc1 hs1 hb1
        clear c7 hFB hTB HB2
        go_wp2_with fail
        go_ret
        exact ⟨rfl, HB.out _⟩
      rw [attB_rest (by omega) (Or.inr ⟨rfl, rfl⟩)]
      go_enter Tryz.func125, Tryz.ntmps125
      go_wp2_with fail
      refine (fits_any _ _).mono ?_
      rintro e w1 ⟨rfl, hc1, hs1, hb1⟩
      replace hb1 := Lib.hid hb1
      have HB := Lib.hid (may_below hb1.out)
      have c0 := fun o => (may_box ⟨th, kd, bg, en, ck, 0, false, dA, dc, evs⟩ hb1.out o).c0
      have c1 := fun o => (may_box ⟨th, kd, bg, en, ck, 0, false, dA, dc, evs⟩ hb1.out o).c1
      have c2 := fun o => (may_box ⟨th, kd, bg, en, ck, 0, false, dA, dc, evs⟩ hb1.out o).c2
      have c3 := fun o => (may_box ⟨th, kd, bg, en, ck, 0, false, dA, dc, evs⟩ hb1.out o).c3
      have c4 := fun o => (may_box ⟨th, kd, bg, en, ck, 0, false, dA, dc, evs⟩ hb1.out o).c4
      have c5 := fun o => (may_box ⟨th, kd, bg, en, ck, 0, false, dA, dc, evs⟩ hb1.out o).c5
      have c6 := fun o => (may_box ⟨th, kd, bg, en, ck, 0, false, dA, dc, evs⟩ hb1.out o).c6
      have c7 := fun o => (may_box ⟨th, kd, bg, en, ck, 0, false, dA, dc, evs⟩ hb1.out o).c7
      simp only [Nat.zero_add] at c0 c1 c2 c3 c4 c5 c6 c7
      replace hs1 : w1.heap.size = w.heap.size + 2 := by simpa using hs1
      replace hc1 : w1.cell? ⟨w.heap.size + 1, 0, none⟩ = some (.int .i64 th) := by simpa using hc1
      have hTB := Lib.hid (fun o => (((Below.refl w1.heap.size w1).alloc (Nat.le_refl _) o).cell (p := ⟨w.heap.size + 1, 0, none⟩) (by rw [hs1]; exact Nat.lt_succ_self _)).trans hc1)
      have hFB := Lib.hid (World.cell?_alloc_new w1)
      have HB2 := Lib.hid (fun o => (HB.out o).size)
      clear hc1 hs1 hb1
      go_wp2_with fail
      refine (contains_any th w1.heap.size (w.heap.size + 1) B dc dA evs HX.out.len HX.out.evs _ (HA.out.keep ((HB.out _).mono hB) (Nat.le_refl _)) (Nat.le_trans hB (HB2.out _)) (hFB.out _ _ _) (hTB.out _)).mono ?_
      rintro e w2 ⟨rfl, hb2⟩
      have hE := Lib.hid ((HB.out _).trans (hb2.mono (HB2.out _)))
      clear hb2
      go_wp2_with fail
      go_ret
      exact ⟨ret_bool (by simp), hE.out⟩
end Go.Proofs.YtjaegddnikkibaaGreatDoor
