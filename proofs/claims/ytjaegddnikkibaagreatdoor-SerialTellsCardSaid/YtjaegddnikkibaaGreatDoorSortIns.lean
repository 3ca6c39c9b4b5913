/-
  The sort's insertion walked.
-/
import Derived.Test.YtjaegddnikkibaaGreatDoorSortWalk
import Derived.StillTailTactics
import Derived.Sort.WalkA
set_option linter.unusedVariables false
set_option linter.unusedSimpArgs false
namespace Go.Proofs.YtjaegddnikkibaaGreatDoor
open Go.RowKit Go.Sort

/-- the comparing function as a value -/
abbrev fV (LB : Nat) : Value := .func (.func 25) #[] #[.pointer (some ⟨LB, 0, none⟩)]
abbrev CmpO (N LB : Nat) (cf : Fin (N + 1) → Fin (N + 1) → Int) (w0 : World) (g off n : Nat) : Prop := CmpW Tryz.prog N 25 #[.pointer (some ⟨LB, 0, none⟩)] cf w0 g off n
theorem CmpO.at {N LB : Nat} {cf : Fin (N + 1) → Fin (N + 1) → Int} {w0 : World} {g off n : Nat} (h : CmpO N LB cf w0 g off n) {W : World} {d : Array (Fin (N + 1))} (hd : d.size = n) (hW : RowW N w0 g off d W) (x y : Fin (N + 1)) :
    Calls Tryz.prog 25 #[.int .i64 (x.val : Int), .int .i64 (y.val : Int), .pointer (some ⟨LB, 0, none⟩)] W fun e w' => e = .returned (.int .i64 (cf x y)) ∧ RowW N w0 g off d w' :=
  (h W d hd hW x y).mono fun e w' h => ⟨h.1, hW.below h.2⟩

set_option maxHeartbeats 4000000 in
set_option maxRecDepth 100000 in
theorem insertion_any (N LB : Nat) (cf : Fin (N + 1) → Fin (N + 1) → Int) (blk off cap a b : Nat) (d : Array (Fin (N + 1))) (w0 w : World) (S : RowW N w0 blk off d w) (hC : CmpO N LB cf w0 blk off d.size) (hab : a ≤ b) (hb : b ≤ d.size) (hsz : d.size < 4611686018427387904) :
    Calls Tryz.prog 190 #[.slice (some ⟨blk, off, none⟩) d.size cap, .int .i64 a, .int .i64 b, fV LB] w fun e w' =>
      e = .returned (.tuple #[]) ∧ RowW N w0 blk off (insertionSort (ltC cf) d a b) w' := by
  have S0 := Lib.hid S
  have HC := Lib.hid hC
  obtain ⟨m, hm⟩ : ∃ m, d.size = m := ⟨_, rfl⟩
  have HM := Lib.hid hm
  rw [hm] at hb hsz HC ⊢
  have HG : Hid (insertionSort (ltC cf) d a b = insOuter (ltC cf) a b (a + 1) d) := Lib.hid rfl
  generalize insertionSort (ltC cf) d a b = res at *
  have p0 : (0 : Int) ≤ (a : Int) := Int.natCast_nonneg _
  clear hm S hC
  go_enter Tryz.func190, Tryz.ntmps190
  go_wp2_with fail
  go_loopw [8] (fun vi wr => ∃ (i : Nat) (dk : Array (Fin (N + 1))), a + 1 ≤ i ∧ i ≤ b + 1 ∧ vi = .int .i64 i ∧ Hid (dk.size = m) ∧ Hid (res = insOuter (ltC cf) a b i dk) ∧ Hid (RowW N w0 blk off dk wr)) (fun vi _ => b + 1 - (intOf vi).toNat)
  case atStart => exact ⟨a + 1, d, Nat.le_refl _, by omega, by go_num, HM, HG, S0⟩
  case round =>
    clear S0 HG
    obtain ⟨i, dk, hi1, hi2, rfl, hds, hG, hW⟩ := hrel
    by_cases hlt : i < b
    · have hG1 : Hid (res = insOuter (ltC cf) a b (i + 1) (insInner (ltC cf) a i dk)) := Lib.hid (by rw [hG.out, insOuter_go _ _ _ _ _ hlt])
      clear hG
      go_wp2_with fail
      obtain ⟨wo, rfl⟩ : ∃ wo : World, wo = wr := ⟨_, rfl⟩
      go_loopw [9] (fun vj wr => ∃ (j : Nat) (dj : Array (Fin (N + 1))), a ≤ j ∧ j ≤ i ∧ vj = .int .i64 j ∧ Hid (dj.size = m) ∧ Hid (res = insOuter (ltC cf) a b (i + 1) (insInner (ltC cf) a j dj)) ∧ Hid (RowW N w0 blk off dj wr)) (fun vj _ => (intOf vj).toNat)
      case atStart => exact ⟨i, dk, by omega, Nat.le_refl _, rfl, hds, hG1, hW⟩
      case round =>
        clear hW hG1 hds
        obtain ⟨j, dj, hj1, hj2, rfl, hds, hG, hW⟩ := hrel
        by_cases hja : a < j
        · obtain ⟨q, hq⟩ : ∃ q, j - 1 = q := ⟨_, rfl⟩
          have c1 := hW.out.cell j (by rw [hds.out]; omega)
          have c2 := hW.out.cell q (by rw [hds.out]; omega)
          unfold encF at c1 c2
          have c1L : ({ heap := wr.heap, tape := wr.tape, drawn := wr.drawn + 1, os := wr.os, output := wr.output } : World).cell? ⟨blk, off + j, none⟩ = _ := c1
          have c2L : ({ heap := wr.heap, tape := wr.tape, drawn := wr.drawn + 1, os := wr.os, output := wr.output } : World).cell? ⟨blk, off + q, none⟩ = _ := c2
          have HCM := Lib.hid (fun (W : World) (hw : RowW N w0 blk off dj W) => HC.out.at hds.out hw dj[j]! dj[q]!)
          have t1 : decide ((a : Int) < (j : Int)) = true := by simp; omega
          have p1 : (0 : Int) ≤ (j : Int) - 1 := by omega
          have p1' : (1 : Int) ≤ (j : Int) := by omega
          have p2 : (j : Int) < (m : Int) := by omega
          have p3 : (j : Int) - 1 < (m : Int) := by omega
          have e1 : ((j : Int) - 1).toNat = q := by omega
          have HQ := Lib.hid hq
          clear hq
          have w1 : IntKind.i64.wrap ((j : Int) - 1) = (j : Int) - 1 := by rw [IntKind.wrap_i64]; omega
          have HLT : Hid (ltC cf dj[j]! dj[j - 1]! = decide (cf dj[j]! dj[q]! < 0)) := Lib.hid (by rw [HQ.out]; rfl)
          generalize hcv : cf dj[j]! dj[q]! = cv at *
          clear hcv
          cases hlv : decide (cv < 0)
          · have hlv2 := Lib.hid hlv
            have hG2 : Hid (res = insOuter (ltC cf) a b (i + 1) dj) := Lib.hid (by rw [hG.out, insInner_stop _ _ _ _ (Or.inr (by rw [HLT.out]; exact hlv2.out))])
            go_wp2_with fail
            go_still_tail 14, (by kernel_rfl)
            change wpList _ _ _ _ _ wr.drew
            have hWd := Lib.hid hW.out.drew
            clear c1 c2 c1L c2L hW
            generalize wr.drew = w2 at *
            go_wp2_with fail
            refine (HCM.out w2 hWd.out).mono ?_
            rintro e w3 ⟨rfl, hW3⟩
            have hW3 := Lib.hid hW3
            clear hWd
            go_wp2_with fail
            go_roundw
            case rel => exact ⟨i + 1, dj, by omega, by omega, by go_num, hds, hG2, hW3⟩
            case measure => simp [intOf]; omega
          · have hG2 : Hid (res = insOuter (ltC cf) a b (i + 1) (insInner (ltC cf) a (j - 1) (swp dj j (j - 1)))) := Lib.hid (by rw [hG.out, insInner_go _ a j dj hja (by rw [HLT.out]; exact hlv)])
            go_wp2_with fail
            go_still_tail 14, (by kernel_rfl)
            change wpList _ _ _ _ _ wr.drew
            have hWd := Lib.hid hW.out.drew
            clear c1 c2 c1L c2L hW
            generalize wr.drew = w2 at *
            go_wp2_with fail
            refine (HCM.out w2 hWd.out).mono ?_
            rintro e w3 ⟨rfl, hW3⟩
            have hW3 := Lib.hid hW3
            clear hWd
            go_wp2_with fail
            obtain ⟨c1, c2, z1, z2, u3, c3⟩ := hW3.out.pair (i := j) (j := q) (by rw [hds.out]; omega) (by rw [hds.out]; omega)
            have HS2 := Lib.hid (hW3.out.swap (i := j) (j := q) (by rw [hds.out]; omega) (by rw [hds.out]; omega)).drew
            unfold encF at HS2
            have hds2 : Hid ((swp dj j q).size = m) := Lib.hid (by rw [size_swp, hds.out])
            have hjq := HQ.out
            rw [hjq] at hG2
            clear hW3 HCM HLT hds hG hjq
            generalize (dj[j]!).val = x at *
            generalize (dj[q]!).val = y at *
            have q1 : (j : Int) - 1 = (q : Int) := by omega
            go_region
            go_wp2_with fail
            go_roundw
            case rel => exact ⟨q, swp dj j q, by omega, by omega, by first | rfl | rw [q1], hds2, hG2, HS2⟩
            case measure => simp [intOf]; omega
        · have t1 : decide ((a : Int) < (j : Int)) = false := by simp; omega
          have hG2 : Hid (res = insOuter (ltC cf) a b (i + 1) dj) := Lib.hid (by rw [hG.out, insInner_stop _ _ _ _ (Or.inl (by omega))])
          go_wp2_with fail
          go_quiet (fail)
          go_wp2_with fail
          go_roundw
          case rel => exact ⟨i + 1, dj, by omega, by omega, by go_num, hds, hG2, hW.out.drewN _⟩
          case measure => simp [intOf]; omega
    · have hG2 : Hid (res = dk) := Lib.hid (by rw [hG.out, insOuter_stop _ _ _ _ _ hlt])
      clear hG
      go_wp2_with fail
      refine bodyPost_end (results_none rfl _ _ _) rfl ?_
      rw [hG2.out]
      exact ⟨rfl, hW.out⟩
end Go.Proofs.YtjaegddnikkibaaGreatDoor
