/-
  The sort's exchanges and rotations walked.
-/
import Derived.Test.YtjaegddnikkibaaGreatDoorProg
import Derived.WalkKit
import Derived.WalkLawsBesides
import Derived.BigQuiet
import Derived.BigRegion
import Derived.Lib.Hide
import Derived.Deep.LoopGhost
import Derived.Test.YtjaegddnikkibaaGreatDoorRowW
set_option linter.unusedVariables false
set_option linter.unusedSimpArgs false
namespace Go.Proofs.YtjaegddnikkibaaGreatDoor
open Go.RowKit Go.Sort

set_option maxHeartbeats 4000000 in
set_option maxRecDepth 100000 in
theorem swapRange_any (N : Nat) (blk off cap a b n : Nat) (f : Value) (d : Array (Fin (N + 1))) (w0 w : World) (S : RowW N w0 blk off d w) (hab : a + n ≤ b) (hb : b + n ≤ d.size) (hsz : d.size < 4611686018427387904) :
    Calls Tryz.prog 215 #[.slice (some ⟨blk, off, none⟩) d.size cap, .int .i64 a, .int .i64 b, .int .i64 n, f] w fun e w' =>
      e = .returned (.tuple #[]) ∧ ∃ d', SwapIn a b n d d' ∧ RowW N w0 blk off d' w' := by
  have S0 := Lib.hid S
  have SI := Lib.hid (SwapIn.start a b d)
  obtain ⟨m, hm⟩ : ∃ m, d.size = m := ⟨_, rfl⟩
  have HM := Lib.hid hm
  rw [hm] at hb hsz ⊢
  clear hm S
  go_enter Tryz.func215, Tryz.ntmps215
  go_wp2_with fail
  go_loopw [10] (fun vi wr => ∃ (i : Nat) (dk : Array (Fin (N + 1))), i ≤ n ∧ vi = .int .i64 i ∧ Hid (SwapIn a b i d dk) ∧ Hid (RowW N w0 blk off dk wr)) (fun vi _ => n - (intOf vi).toNat)
  case atStart => exact ⟨0, d, Nat.zero_le _, rfl, SI, S0⟩
  case round =>
    clear SI S0
    obtain ⟨i, dk, hi, rfl, hSI, hW⟩ := hrel
    by_cases hlt : i < n
    · have hs := hSI.out.size
      have hm := HM.out
      have HSI := Lib.hid (hSI.out.step (by omega) (by omega))
      obtain ⟨c1, c2, z1, z2, u3, c3⟩ := hW.out.pair (i := a + i) (j := b + i) (by omega) (by omega)
      have HS2 := Lib.hid (hW.out.swap (i := a + i) (j := b + i) (by omega) (by omega))
      unfold encF at HS2
      have p1 : (0 : Int) ≤ (a : Int) + (i : Int) := by omega
      have p2 : (0 : Int) ≤ (b : Int) + (i : Int) := by omega
      have p3 : (a : Int) + (i : Int) < (m : Int) := by omega
      have p4 : (b : Int) + (i : Int) < (m : Int) := by omega
      have e1 : ((a : Int) + (i : Int)).toNat = a + i := by omega
      have e2 : ((b : Int) + (i : Int)).toNat = b + i := by omega
      clear hs hm hSI hW
      generalize (dk[a + i]!).val = x at *
      generalize (dk[b + i]!).val = y at *
      go_wp2_with fail
      go_region
      go_wp2_with fail
      go_roundw
      case rel => exact ⟨i + 1, _, by omega, by go_num, HSI, HS2.out.drew⟩
      case measure => simp [intOf]; omega
    · obtain rfl : i = n := by omega
      go_wp2_with fail
      refine bodyPost_end (results_none rfl _ _ _) rfl ?_
      exact ⟨rfl, dk, hSI.out, hW.out⟩

theorem swapRange_int (N : Nat) (blk off cap : Nat) (f : Value) (d : Array (Fin (N + 1))) (w0 w : World) (S : RowW N w0 blk off d w) (A B C : Int) (m a b n : Nat) (hm : m = d.size) (hA : A = a) (hB : B = b) (hC : C = n) (hab : a + n ≤ b) (hb : b + n ≤ m) (hsz : m < 4611686018427387904) :
    Calls Tryz.prog 215 #[.slice (some ⟨blk, off, none⟩) m cap, .int .i64 A, .int .i64 B, .int .i64 C, f] w fun e w' =>
      e = .returned (.tuple #[]) ∧ ∃ d', SwapIn a b n d d' ∧ RowW N w0 blk off d' w' := by
  subst hA hB hC hm
  exact swapRange_any N blk off cap a b n f d w0 w S hab hb hsz

set_option maxHeartbeats 4000000 in
set_option maxRecDepth 100000 in
theorem rotate_any (N : Nat) (blk off cap a m b : Nat) (f : Value) (d : Array (Fin (N + 1))) (w0 w : World) (S : RowW N w0 blk off d w) (h1 : a < m) (h2 : m < b) (hb : b ≤ d.size) (hsz : d.size < 4611686018427387904) :
    Calls Tryz.prog 208 #[.slice (some ⟨blk, off, none⟩) d.size cap, .int .i64 a, .int .i64 m, .int .i64 b, f] w fun e w' =>
      e = .returned (.tuple #[]) ∧ ∃ d', RotIn a m b d d' ∧ RowW N w0 blk off d' w' := by
  have S0 := Lib.hid S
  have SI := Lib.hid (RotMid.start (d := d) h1 h2)
  obtain ⟨z, hz⟩ : ∃ z, d.size = z := ⟨_, rfl⟩
  have HZ := Lib.hid hz
  rw [hz] at hb hsz ⊢
  clear hz S
  obtain ⟨i0, hi0⟩ : ∃ i0, m - a = i0 := ⟨_, rfl⟩
  obtain ⟨j0, hj0⟩ : ∃ j0, b - m = j0 := ⟨_, rfl⟩
  rw [hi0, hj0] at SI
  have q1 : (m : Int) - (a : Int) = (i0 : Int) := by omega
  have q2 : (b : Int) - (m : Int) = (j0 : Int) := by omega
  have p0 : (0 : Int) ≤ (a : Int) := Int.natCast_nonneg _
  have HI0 := Lib.hid hi0
  have HJ0 := Lib.hid hj0
  clear hi0 hj0
  go_enter Tryz.func208, Tryz.ntmps208
  go_wp2_with fail
  clear q1 q2
  go_loopw [10, 11] (fun vi vj wr => ∃ (i j : Nat) (dk : Array (Fin (N + 1))), vi = .int .i64 i ∧ vj = .int .i64 j ∧ Hid (RotMid a m b i j d dk) ∧ Hid (RowW N w0 blk off dk wr)) (fun vi vj _ => (intOf vi).toNat + (intOf vj).toNat)
  case atStart => exact ⟨i0, j0, d, rfl, rfl, SI, S0⟩
  case round =>
    clear SI S0
    obtain ⟨i, j, dk, rfl, rfl, hR, hW⟩ := hrel
    have r1 := hR.out.ipos
    have r2 := hR.out.jpos
    have r3 := hR.out.ile
    have r4 := hR.out.jle
    have hds : Hid (z = dk.size) := Lib.hid (by rw [hR.out.size, HZ.out])
    rcases Nat.lt_trichotomy i j with hij | hij | hij
    · have t1 : ((i : Int) != (j : Int)) = true := by simp; omega
      have t2 : decide ((j : Int) < (i : Int)) = false := by simp; omega
      go_wp2_with fail
      refine (swapRange_int N blk off cap f dk w0 _ hW.out _ _ _ z (m - i) (m + j - i) i hds.out (by omega) (by omega) (by omega) (by omega) (by omega) hsz).mono ?_
      rintro e w1 ⟨rfl, dn, hsw, hW1⟩
      have HN := Lib.hid (hR.out.lt hij (by rw [HZ.out]; exact hb) hsw)
      have HW1 := Lib.hid hW1
      clear hsw hW1 hR hW hds
      have q3 : (j : Int) - (i : Int) = ((j - i : Nat) : Int) := by omega
      go_wp2_with fail
      go_roundw
      case rel => exact ⟨i, j - i, dn, rfl, by first | rfl | (rw [q3]), HN, HW1⟩
      case measure => simp [intOf]; omega
    · have hN : Hid (i = j) := Lib.hid hij
      have t1 : ((i : Int) != (j : Int)) = false := by simp; omega
      clear hij
      go_wp2_with fail
      refine (swapRange_int N blk off cap f dk w0 _ hW.out _ _ _ z (m - i) m i hds.out (by omega) (by omega) (by omega) (by omega) (by have := hN.out; omega) hsz).mono ?_
      rintro e w1 ⟨rfl, dn, hsw, hW1⟩
      have HN := Lib.hid (show RotIn a m b d dn from by
        have h9 := hR.out
        rw [← hN.out] at h9
        exact h9.eq (by rw [HZ.out]; exact hb) hsw)
      have HW1 := Lib.hid hW1
      clear hsw hW1 hR hW hds
      go_wp2_with fail
      refine bodyPost_end (results_none rfl _ _ _) rfl ?_
      exact ⟨rfl, dn, HN.out, HW1.out⟩
    · have t1 : ((i : Int) != (j : Int)) = true := by simp; omega
      have t2 : decide ((j : Int) < (i : Int)) = true := by simp; omega
      go_wp2_with fail
      refine (swapRange_int N blk off cap f dk w0 _ hW.out _ _ _ z (m - i) m j hds.out (by omega) (by omega) (by omega) (by omega) (by omega) hsz).mono ?_
      rintro e w1 ⟨rfl, dn, hsw, hW1⟩
      have HN := Lib.hid (hR.out.gt hij (by rw [HZ.out]; exact hb) hsw)
      have HW1 := Lib.hid hW1
      clear hsw hW1 hR hW hds
      have q3 : (i : Int) - (j : Int) = ((i - j : Nat) : Int) := by omega
      go_wp2_with fail
      go_roundw
      case rel => exact ⟨i - j, j, dn, by first | rfl | (rw [q3]), rfl, HN, HW1⟩
      case measure => simp [intOf]; omega

theorem rotate_int (N : Nat) (blk off cap : Nat) (f : Value) (d : Array (Fin (N + 1))) (w0 w : World) (S : RowW N w0 blk off d w) (A M B : Int) (z a m b : Nat) (hz : z = d.size) (hA : A = a) (hM : M = m) (hB : B = b) (h1 : a < m) (h2 : m < b) (hb : b ≤ z) (hsz : z < 4611686018427387904) :
    Calls Tryz.prog 208 #[.slice (some ⟨blk, off, none⟩) z cap, .int .i64 A, .int .i64 M, .int .i64 B, f] w fun e w' =>
      e = .returned (.tuple #[]) ∧ ∃ d', RotIn a m b d d' ∧ RowW N w0 blk off d' w' := by
  subst hA hM hB hz
  exact rotate_any N blk off cap a m b f d w0 w S h1 h2 hb hsz
end Go.Proofs.YtjaegddnikkibaaGreatDoor
