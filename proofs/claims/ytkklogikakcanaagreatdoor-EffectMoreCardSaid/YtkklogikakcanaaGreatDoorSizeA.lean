import Derived.Test.YtkklogikakcanaaGreatDoorTreeB
import Derived.Test.YtkklogikakcanaaGreatDoorTreePlain2
import Derived.Test.YtkklogikakcanaaGreatDoorRowKit
set_option linter.unusedVariables false
set_option linter.unusedSimpArgs false
namespace Go.Proofs.YtkklogikakcanaaGreatDoor
open Go.RowKit
theorem exCounts_mem : ∀ {l : List Ex} {y : Ex}, y ∈ l → exCount y ≤ exCounts l
 | x :: r, y, h => by
  rw [exCounts]
  rcases List.mem_cons.1 h with rfl | h
  ·omega
  ·have := exCounts_mem h; omega
structure ExsIn (w : World) (B : Nat) (d : Hd) (l : List Ex) : Prop where
 len : lenOk l.length
 row : RowIn ExAt 7 w B d l
 sub : ∀ y, y ∈ l → ExIn w B y
theorem ExIn.args {w : World} {B : Nat} {x : Ex} (h : ExIn w B x) : ExsIn w B x.d x.args := ⟨h.len, h.row, h.sub⟩
set_option maxHeartbeats 4000000 in
set_option maxRecDepth 100000 in
theorem rexprs_any (B : Nat) : ∀ (sz : Nat) (l : List Ex), exCounts l ≤ sz → ∀ (d : Hd) (left : Int) (w : World), ExsIn w B d l → 0 ≤ left → left ≤ 262144 →
  Calls Tryz.prog 67 #[.slice d.a l.length d.c, .int .i64 left] w fun e w' => e = .returned (.int .i64 (lfL l (left - (l.length : Int)))) ∧ w' = w := by
 intro sz
 induction sz using Nat.strongRecOn with
 | ind sz ih =>
 intro l hsz d left w hI h0 h1
 obtain ⟨R, hR⟩ : ∃ R, lfL l (left - (l.length : Int)) = R := ⟨_, rfl⟩
 rw [hR]
 have HR := Lib.hid hR
 have HI := Lib.hid hI
 have hlen : l.length ≤ 140737488355328 := hI.len
 clear hR hI
 go_enter Tryz.func67, Tryz.ntmps67
 go_wp2_with fail
 go_loopw [1, 5] (fun lf ii wr => ∃ (j : Nat) (lft : Int), lf = .int .i64 lft ∧ ii = .int .i64 j ∧ j ≤ l.length ∧ lft ≤ 262144 ∧ Hid (wr = w) ∧ Hid (lfL (l.drop j) lft = R)) (fun lf ii _ => l.length - (intOf ii).toNat)
 case atStart => exact ⟨0, left - (l.length : Int), by go_num, rfl, Nat.zero_le _, by omega, Lib.hid rfl, Lib.hid (by rw [List.drop_zero]; exact HR.out)⟩
 case round =>
  obtain ⟨j, lft, rfl, rfl, hj, hlt2, hw, hC⟩ := hrel
  obtain rfl := hw.out
  have p2 : (0 : Int) ≤ (j : Int) := Int.natCast_nonneg _
  by_cases hlt : j < l.length
  ·have p1 : (j : Int) < (l.length : Int) := by omega
   have d1 : decide ((j : Int) < (l.length : Int)) = true := by simpa using hlt
   have d1n : decide (j < l.length) = true := by simpa using hlt
   obtain ⟨y, hy⟩ : ∃ y, l[j]? = some y := ⟨_, List.getElem?_eq_getElem hlt⟩
   have hdrop : l.drop j = y :: l.drop (j + 1) := by
    have := List.drop_eq_getElem_cons hlt
    rw [List.getElem?_eq_getElem hlt] at hy
    injection hy with hy
    rw [this, hy]
   have hC1 := hC.out
   rw [hdrop, lfL] at hC1
   by_cases hneg : lft < 0
   ·obtain rfl : lft = R := by rw [if_pos hneg] at hC1; exact hC1
    have d2 : decide (0 ≤ lft) = false := by simp; omega
    clear hC hC1 hdrop hy
    go_wp2_with fail
    go_ret
    exact ⟨rfl, rfl⟩
   ·rw [if_neg hneg] at hC1
    have d2 : decide (0 ≤ lft) = true := by simp; omega
    have hmem := List.mem_of_getElem? hy
    obtain ⟨rb, ro, hda, hrb, hrow⟩ := HI.out.row (by intro h0; rw [h0] at hlt; simp at hlt)
    have z6 := (hrow j y hy).c6
    have hyI := HI.out.sub y hmem
    have hcnt : exCounts y.args < exCount y := by
     obtain ⟨k, n, nm, t, d, args⟩ := y
     rw [exCount, Ex.args]; omega
    have hcl := exCounts_mem hmem
    have C := Lib.hid (ih (exCounts y.args) (by omega) y.args (Nat.le_refl _) y.d lft wr hyI.args (by omega) hlt2)
    have HC1 : Hid (lfL (l.drop (j + 1)) (lfE y lft) = R) := Lib.hid hC1
    have hle := (lfE_le y lft).1
    have hE : lfL y.args (lft - (y.args.length : Int)) = lfE y lft := by
     obtain ⟨k, n, nm, t, d, args⟩ := y
     rw [lfE, Ex.args]
    rw [hE] at C
    generalize lfE y lft = lf2 at *
    clear hC hC1 hdrop hy hcnt hcl hyI hrow hmem hE hrb ih
    rw [hda]
    go_wp2_with fail
    refine C.out.mono ?_
    rintro e w2 ⟨rfl, hw2⟩
    rw [hw2]
    clear hw2 z6 C
    go_wp2_with fail
    go_roundw
    case rel => exact ⟨j + 1, lf2, rfl, by go_num, by omega, by omega, (by first | exact Lib.hid trivial | exact Lib.hid rfl | trivial), HC1⟩
    case measure => simp [intOf]; omega
  ·obtain rfl : j = l.length := by omega
   obtain rfl : lft = R := by have h := hC.out; rw [List.drop_length, lfL] at h; exact h
   clear hC ih
   go_wp2_with fail
   go_ret
   exact ⟨rfl, rfl⟩
theorem counted_any (left : Int) (h : -140737488355328 ≤ left ∨ True) (h1 : left ≤ 262144) (w : World) :
  Calls Tryz.prog 33 #[.int .i64 left] w fun e w' => e = .returned (.int .i64 (cntS left)) ∧ w = w' := by
 clear h
 by_cases hn : left < 0
 ·rw [show cntS left = 262145 by unfold cntS; rw [if_pos hn]]
  go_enter Tryz.func33, Tryz.ntmps33
  go_wp2
  go_ret
  exact ⟨rfl, rfl⟩
 ·rw [show cntS left = 262144 - left by unfold cntS; rw [if_neg hn]]
  have e0 : IntKind.i64.wrap (262144 - left) = 262144 - left := by rw [IntKind.wrap_i64]; omega
  go_enter Tryz.func33, Tryz.ntmps33
  go_wp2
  go_ret
  exact ⟨rfl, rfl⟩
end Go.Proofs.YtkklogikakcanaaGreatDoor
