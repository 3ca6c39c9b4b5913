/-
  The sort's merge walked.
-/
import Derived.Test.YtjaegddnikkibaaGreatDoorSortIns
set_option linter.unusedVariables false
set_option linter.unusedSimpArgs false
namespace Go.Proofs.YtjaegddnikkibaaGreatDoor
open Go.RowKit Go.Sort

/-- what a merge answers -/
def SymOut (N : Nat) (cf : Fin (N + 1) → Fin (N + 1) → Int) (blk off a b : Nat) (d : Array (Fin (N + 1))) (w0 : World) (e : Ending) (w' : World) : Prop :=
  e = .returned (.tuple #[]) ∧ ∃ d', Merged (numF N) (ltC cf) a b d d' ∧ RowW N w0 blk off d' w'

set_option maxHeartbeats 6400000 in
set_option maxRecDepth 100000 in
theorem sym_left (N LB : Nat) (cf : Fin (N + 1) → Fin (N + 1) → Int) (hO : SWO (ltC cf)) (blk off cap a b : Nat) (d : Array (Fin (N + 1))) (w0 w : World) (S : RowW N w0 blk off d w) (hC : CmpO N LB cf w0 blk off d.size)
    (hT : Two (numF N) (ltC cf) a (a + 1) b d) (h2 : a + 1 < b) (hb : b ≤ d.size) (hsz : d.size < 4611686018427387904) :
    Calls Tryz.prog 191 #[.slice (some ⟨blk, off, none⟩) d.size cap, .int .i64 a, .int .i64 (a + 1), .int .i64 b, fV LB] w (SymOut N cf blk off a b d w0) := by
  have S0 := Lib.hid S
  have HC := Lib.hid hC
  have HT := Lib.hid hT
  obtain ⟨m, hm⟩ : ∃ m, d.size = m := ⟨_, rfl⟩
  have HM := Lib.hid hm
  rw [hm] at hb hsz HC ⊢
  have p0 : (0 : Int) ≤ (a : Int) := Int.natCast_nonneg _
  have t0 : ((a : Int) + 1 - (a : Int) == 1) = true := by simp; omega
  have t1 : ((1 : Int) == 1) = true := rfl
  clear hm S hC hT
  go_enter Tryz.func191, Tryz.ntmps191
  go_wp2_with fail
  go_loopw [10, 11] (fun vi vj wr => ∃ i j : Nat, vi = .int .i64 i ∧ vj = .int .i64 j ∧ a + 1 ≤ i ∧ i ≤ j ∧ j ≤ b ∧ Hid (i = a + 1 ∨ ltC cf d[i - 1]! d[a]! = true) ∧ Hid (j = b ∨ ltC cf d[j]! d[a]! = false) ∧ Hid (RowW N w0 blk off d wr)) (fun vi vj _ => (intOf vj).toNat - (intOf vi).toNat)
  case atStart => exact ⟨a + 1, b, by go_num, rfl, Nat.le_refl _, by omega, Nat.le_refl _, Lib.hid (Or.inl rfl), Lib.hid (Or.inl rfl), S0⟩
  case round =>
    clear S0
    obtain ⟨i, j, rfl, rfl, hi, hij, hj, hI, hJ, hW⟩ := hrel
    by_cases hlt : i < j
    · obtain ⟨h, hh⟩ : ∃ h, (i + j) / 2 = h := ⟨_, rfl⟩
      have hh1 : i ≤ h := by omega
      have hh2 : h < j := by omega
      have q1 : ((i : Int) + (j : Int)) / 2 = (h : Int) := by omega
      have p3 : (h : Int) < (m : Int) := by omega
      have p4 : (a : Int) < (m : Int) := by omega
      clear hh
      have c1 := hW.out.cell (h) (by rw [HM.out]; omega)
      have c2 := hW.out.cell (a) (by rw [HM.out]; omega)
      unfold encF at c1 c2
      have c1L : ({ heap := wr.heap, tape := wr.tape, drawn := wr.drawn + 1, os := wr.os, output := wr.output } : World).cell? ⟨blk, off + (h), none⟩ = _ := c1
      have c2L : ({ heap := wr.heap, tape := wr.tape, drawn := wr.drawn + 1, os := wr.os, output := wr.output } : World).cell? ⟨blk, off + (a), none⟩ = _ := c2
      have HCM := Lib.hid (fun (W : World) (hw : RowW N w0 blk off d W) => HC.out.at HM.out hw d[h]! d[a]!)
      have HLT : Hid (ltC cf d[h]! d[a]! = decide (cf d[h]! d[a]! < 0)) := Lib.hid rfl
      generalize hcv : cf d[h]! d[a]! = cv at *
      clear hcv
      cases hlv : decide (cv < 0)
      · have HJ2 : Hid (ltC cf d[h]! d[a]! = false) := Lib.hid (by rw [HLT.out]; exact hlv)
        go_wp2_with fail
        go_still_tail 9, (by kernel_rfl)
        change wpList _ _ _ _ _ wr.drew
        have hWd := Lib.hid hW.out.drew
        clear c1 c2 c1L c2L hW
        generalize wr.drew = w2 at *
        go_wp2_with fail
        refine (HCM.out w2 hWd.out).mono ?_
        rintro e w3 ⟨rfl, hW3⟩
        have hW3 := Lib.hid hW3
        clear hWd HCM
        go_wp2_with fail
        go_roundw
        case rel => exact ⟨i, h, rfl, rfl, hi, hh1, by omega, hI, Lib.hid (Or.inr HJ2.out), hW3⟩
        case measure => simp [intOf]; omega
      · have HI2 : Hid (ltC cf d[h + 1 - 1]! d[a]! = true) := Lib.hid (by rw [show h + 1 - 1 = h from rfl, HLT.out]; exact hlv)
        go_wp2_with fail
        go_still_tail 9, (by kernel_rfl)
        change wpList _ _ _ _ _ wr.drew
        have hWd := Lib.hid hW.out.drew
        clear c1 c2 c1L c2L hW
        generalize wr.drew = w2 at *
        go_wp2_with fail
        refine (HCM.out w2 hWd.out).mono ?_
        rintro e w3 ⟨rfl, hW3⟩
        have hW3 := Lib.hid hW3
        clear hWd HCM
        go_wp2_with fail
        go_roundw
        case rel => exact ⟨h + 1, j, by go_num, rfl, by omega, by omega, by omega, Lib.hid (Or.inr HI2.out), hJ, hW3⟩
        case measure => simp [intOf]; omega
    · have hij2 : Hid (i = j) := Lib.hid (by omega)
      have HR0 : Hid (RotIn a (a + 1) (a + 1) d d) := Lib.hid (RotIn.none (by omega) (by omega) (Or.inr rfl))
      obtain ⟨q, hq⟩ : ∃ q, i - 1 = q := ⟨_, rfl⟩
      have q1 : (i : Int) - 1 = (q : Int) := by omega
      have hq2 : q + 1 = i := by omega
      have HQ := Lib.hid hq2
      have hqa : a ≤ q := by omega
      have hqb : q + 1 ≤ b := by omega
      have HI2 : Hid (q + 1 = a + 1 ∨ ltC cf d[q]! d[a]! = true) := Lib.hid (by
        have h := hI.out
        rw [← hq2] at h
        exact h)
      have HJ2 : Hid (q + 1 = b ∨ ltC cf d[q + 1]! d[a]! = false) := Lib.hid (by
        have h := hJ.out
        rw [← hij2.out, ← hq2] at h
        exact h)
      have t2 : decide ((i : Int) < (j : Int)) = false := by simp; omega
      clear hq hq2 hI hJ
      go_wp2_with fail
      clear t2
      obtain ⟨wo, rfl⟩ : ∃ wo : World, wo = wr := ⟨_, rfl⟩
      go_loopw [13] (fun vk wr => ∃ (k : Nat) (dk : Array (Fin (N + 1))), a ≤ k ∧ k ≤ q ∧ vk = .int .i64 k ∧ Hid (dk.size = m) ∧ Hid (RotIn a (a + 1) (k + 1) d dk) ∧ Hid (RowW N w0 blk off dk wr)) (fun vk _ => q - (intOf vk).toNat)
      case atStart => exact ⟨a, d, Nat.le_refl _, hqa, rfl, HM, HR0, hW⟩
      case round =>
        clear HR0 hW
        obtain ⟨k, dk, hk1, hk2, rfl, hds, hR, hW⟩ := hrel
        by_cases hkq : k < q
        · have HR2 := Lib.hid (rot_up hR.out hk1 (by have := HM.out; omega))
          have p3 : (k : Int) + 1 < (m : Int) := by omega
          have p4 : (k : Int) < (m : Int) := by omega
          have p5 : (0 : Int) ≤ (k : Int) := by omega
          have e1 : ((k : Int) + 1).toNat = k + 1 := by omega
          clear hR
          obtain ⟨c1, c2, z1, z2, u3, c3⟩ := hW.out.pair (i := k) (j := k + 1) (by rw [hds.out]; omega) (by rw [hds.out]; omega)
          have HS2 := Lib.hid (hW.out.swap (i := k) (j := k + 1) (by rw [hds.out]; omega) (by rw [hds.out]; omega)).drew
          unfold encF at HS2
          have hds2 : Hid ((swp dk (k) (k + 1)).size = m) := Lib.hid (by rw [size_swp, hds.out])
          clear hW hds
          generalize (dk[k]!).val = x at *
          generalize (dk[k + 1]!).val = y at *
          go_wp2_with fail
          go_region
          go_wp2_with fail
          go_roundw
          case rel => exact ⟨k + 1, swp dk k (k + 1), by omega, by omega, by go_num, hds2, HR2, HS2⟩
          case measure => simp [intOf]; omega
        · obtain rfl : k = q := by omega
          have HE : Hid (Merged (numF N) (ltC cf) a b d dk) := Lib.hid (merged_one_left hO HT.out hR.out (by omega) hqb (by rw [HM.out]; exact hb)
            (fun h => by
              have h1 := HI2.out.resolve_left (by omega)
              rw [show k + 1 - 1 = k from rfl]
              rw [← HT.out.cmp (Nat.le_refl _) (by omega) (by omega) (by omega)]; exact h1)
            (fun h => by
              have h1 := HJ2.out.resolve_left (by omega)
              rw [← HT.out.cmp (Nat.le_refl _) (by omega) (by omega) (by omega)]; exact h1))
          clear HI2 HJ2
          go_wp2_with fail
          go_end0
          exact ⟨rfl, dk, HE.out, hW.out⟩
end Go.Proofs.YtjaegddnikkibaaGreatDoor
