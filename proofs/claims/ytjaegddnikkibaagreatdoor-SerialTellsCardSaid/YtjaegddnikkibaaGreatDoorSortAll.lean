/-
  The stable sort walked: the merge for whatever rows; the passes; the whole.
-/
import Derived.Test.YtjaegddnikkibaaGreatDoorSortSymG
set_option linter.unusedVariables false
set_option linter.unusedSimpArgs false
namespace Go.Proofs.YtjaegddnikkibaaGreatDoor
open Go.RowKit Go.Sort

theorem sym_any (N LB : Nat) (cf : Fin (N + 1) → Fin (N + 1) → Int) (hO : SWO (ltC cf)) (blk off cap z : Nat) (w0 : World) (hC : CmpO N LB cf w0 blk off z) (hsz : z < 4611686018427387904) :
    ∀ (K : Nat) (A M B : Int) (a m b : Nat) (d : Array (Fin (N + 1))) (w : World) (z1 : Nat), z1 = d.size → A = a → M = m → B = b → RowW N w0 blk off d w → Two (numF N) (ltC cf) a m b d → b - a ≤ K → a < m → m < b → (b ≤ z ∧ z1 = z) →
      Calls Tryz.prog 191 #[.slice (some ⟨blk, off, none⟩) z1 cap, .int .i64 A, .int .i64 M, .int .i64 B, fV LB] w (SymOut N cf blk off a b d w0)
  | 0, A, M, B, a, m, b, d, w, z1, hz1, hA, hM, hB, S, hT, hK, h1, h2, hb => by omega
  | K + 1, A, M, B, a, m, b, d, w, z1, hz1, hA, hM, hB, S, hT, hK, h1, h2, hb => by
    have ih := sym_any N LB cf hO blk off cap z w0 hC hsz K
    subst hA; subst hM; subst hB
    obtain ⟨hb, hzz⟩ := hb
    subst hzz
    by_cases hl : m = a + 1
    · subst hl
      subst hz1
      rw [show ((a + 1 : Nat) : Int) = (a : Int) + 1 from rfl]
      exact sym_left N LB cf hO blk off cap a b d w0 w S hC hT h2 hb hsz
    · by_cases hr : b = m + 1
      · subst hr
        subst hz1
        rw [show ((m + 1 : Nat) : Int) = (m : Int) + 1 from rfl]
        exact sym_right N LB cf hO blk off cap a m d w0 w S hC hT (by omega) hb hsz
      · exact sym_step N LB cf hO blk off cap z1 w0 hC hsz K ih a m b d w hz1.symm S hT hK (by omega) (by omega) hb

theorem ins_int (N LB : Nat) (cf : Fin (N + 1) → Fin (N + 1) → Int) (blk off cap z : Nat) (w0 : World) (hC : CmpO N LB cf w0 blk off z) (hsz : z < 4611686018427387904) (A B : Int) (a b : Nat) (d : Array (Fin (N + 1))) (w : World) (z1 : Nat) (hz : d.size = z) (hz1 : z1 = z) (hA : A = a) (hB : B = b)
    (S : RowW N w0 blk off d w) (hab : a ≤ b) (hb : b ≤ z) :
    Calls Tryz.prog 190 #[.slice (some ⟨blk, off, none⟩) z1 cap, .int .i64 A, .int .i64 B, fV LB] w fun e w' =>
      e = .returned (.tuple #[]) ∧ RowW N w0 blk off (insertionSort (ltC cf) d a b) w' := by
  subst hz; subst hz1; subst hA; subst hB
  exact insertion_any N LB cf blk off cap a b d w0 w S hC hab hb hsz

set_option maxHeartbeats 4000000 in
set_option maxRecDepth 100000 in
theorem stable_any (N LB : Nat) (cf : Fin (N + 1) → Fin (N + 1) → Int) (hO : SWO (ltC cf)) (blk off cap z : Nat) (w0 : World) (hC : CmpO N LB cf w0 blk off z) (hsz : z < 1152921504606846976)
    (d : Array (Fin (N + 1))) (w : World) (hz : d.size = z) (S : RowW N w0 blk off d w) (hd : ∀ i j, i < j → j < z → numF N d[i]! < numF N d[j]!) :
    Calls Tryz.prog 126 #[.slice (some ⟨blk, off, none⟩) z cap, .int .i64 z, fV LB] w (SymOut N cf blk off 0 z d w0) := by
  have S0 := Lib.hid S
  have HC := Lib.hid hC
  have HM := Lib.hid hz
  have HF0 := Lib.hid (First.start (lt := ltC cf) (s := 20) hd)
  have hszb : z < 4611686018427387904 := by omega
  clear S hC hz hd
  go_enter Tryz.func126, Tryz.ntmps126
  go_wp2_with fail
  go_loopw [7, 8] (fun vi vj wr => ∃ (t A : Nat) (dk : Array (Fin (N + 1))), vi = .int .i64 A ∧ vj = .int .i64 ((A : Int) + 20) ∧ A ≤ z ∧ Hid (t * 20 = A) ∧ Hid (dk.size = z) ∧ Hid (First (numF N) (ltC cf) 20 z t d dk) ∧ Hid (RowW N w0 blk off dk wr)) (fun vi _ _ => z - (intOf vi).toNat)
  case atStart => exact ⟨0, 0, d, rfl, rfl, Nat.zero_le _, Lib.hid rfl, HM, HF0, S0⟩
  case round =>
    clear S0 HF0
    obtain ⟨t, A, dk, rfl, rfl, hA, hAt, hds, hF, hW⟩ := hrel
    by_cases hlt : A + 20 ≤ z
    · obtain ⟨B, hB⟩ : ∃ B, A + 20 = B := ⟨_, rfl⟩
      have q1 : (A : Int) + 20 = (B : Int) := by omega
      have t1 : decide ((B : Int) ≤ (z : Int)) = true := by simp; omega
      have HB := Lib.hid hB
      have HF2 : Hid (First (numF N) (ltC cf) 20 z (t + 1) d (insertionSort (ltC cf) dk A B)) := Lib.hid (by
        have e := hAt.out
        have e2 := HB.out
        subst e2
        subst e
        exact hF.out.step hlt (Nat.le_of_eq hds.out.symm) (insertion_merged hO (by omega) (by rw [hds.out]; exact hlt) (hF.out.two hlt)))
      have hds2 : Hid ((insertionSort (ltC cf) dk A B).size = z) := Lib.hid (by rw [HF2.out.perm.1]; exact HM.out)
      have hBt : Hid ((t + 1) * 20 = B) := Lib.hid (by have := hAt.out; omega)
      have hB1 : A ≤ B := by omega
      have hB2 : B ≤ z := by omega
      clear hF
      go_wp2_with fail
      refine (ins_int N LB cf blk off cap z w0 HC.out hszb _ _ A B dk _ z hds.out rfl rfl rfl hW.out hB1 hB2).mono ?_
      rintro e1 w1 ⟨rfl, hW1⟩
      have hW1 := Lib.hid hW1
      generalize insertionSort (ltC cf) dk A B = d2 at *
      clear hW
      go_wp2_with fail
      go_roundw
      case rel => exact ⟨t + 1, B, d2, by go_num, by go_num, hB2, hBt, hds2, HF2, hW1⟩
      case measure => simp [intOf]; omega
    · have t1 : decide ((A : Int) + 20 ≤ (z : Int)) = false := by simp; omega
      have HF2 : Hid (Blocks (numF N) (ltC cf) 20 z d (insertionSort (ltC cf) dk A z)) := Lib.hid (by
        have e := hAt.out
        subst e
        exact hF.out.done (by omega) hA (Nat.le_of_eq hds.out.symm) (insertion_merged hO hA (by rw [hds.out]; exact Nat.le_refl _) (hF.out.two (Nat.le_refl _))))
      have hds2 : Hid ((insertionSort (ltC cf) dk A z).size = z) := Lib.hid (by rw [HF2.out.perm.1]; exact HM.out)
      clear hF
      go_wp2_with fail
      refine (ins_int N LB cf blk off cap z w0 HC.out hszb _ _ A z dk _ z hds.out rfl rfl rfl hW.out hA (Nat.le_refl _)).mono ?_
      rintro e1 w1 ⟨rfl, hW1⟩
      have hW1 := Lib.hid hW1
      generalize insertionSort (ltC cf) dk A z = d2 at *
      clear hW hds hAt t1
      go_wp2_with fail
      go_loopw [6] (fun vi wr => ∃ (s : Nat) (dk : Array (Fin (N + 1))), vi = .int .i64 s ∧ 20 ≤ s ∧ s ≤ 20 + 2 * z ∧ Hid (dk.size = z) ∧ Hid (Blocks (numF N) (ltC cf) s z d dk) ∧ Hid (RowW N w0 blk off dk wr)) (fun vi _ => z - (intOf vi).toNat)
      case atStart => exact ⟨20, d2, rfl, Nat.le_refl _, by omega, hds2, HF2, hW1⟩
      case round =>
        clear hW1 hds2 HF2
        obtain ⟨s, dk, rfl, hs1, hs2, hds, hF, hW⟩ := hrel
        by_cases hsz2 : s < z
        · obtain ⟨s2, hs3⟩ : ∃ s2, 2 * s = s2 := ⟨_, rfl⟩
          have q1 : (2 : Int) * (s : Int) = (s2 : Int) := by omega
          have q2 : (s : Int) * 2 = (s2 : Int) := by omega
          have hs4 : s2 ≤ 20 + 2 * z := by omega
          have hs5 : s < s2 := by omega
          have HS2 := Lib.hid hs3
          have HP0 := Lib.hid (Pass.start hF.out)
          clear hF hs3
          go_wp2_with fail
          go_loopw [7, 8] (fun vi vj wr => ∃ (t A : Nat) (dk : Array (Fin (N + 1))), vi = .int .i64 A ∧ vj = .int .i64 ((A : Int) + (s2 : Int)) ∧ A ≤ z ∧ Hid (t * (2 * s) = A) ∧ Hid (dk.size = z) ∧ Hid (Pass (numF N) (ltC cf) s z t d dk) ∧ Hid (RowW N w0 blk off dk wr)) (fun vi _ _ => z - (intOf vi).toNat)
          case atStart => exact ⟨0, 0, dk, rfl, by go_num, Nat.zero_le _, Lib.hid (Nat.zero_mul _), hds, HP0, hW⟩
          case round =>
            clear hW hds HP0
            obtain ⟨t, A, dk, rfl, rfl, hA, hAt, hds, hP, hW⟩ := hrel
            obtain ⟨B, hB⟩ : ∃ B, A + s2 = B := ⟨_, rfl⟩
            obtain ⟨M, hM⟩ : ∃ M, A + s = M := ⟨_, rfl⟩
            have q3 : (A : Int) + (s2 : Int) = (B : Int) := by omega
            have q4 : (A : Int) + (s : Int) = (M : Int) := by omega
            have hM1 : A < M := by omega
            have hM2 : M < B := by omega
            have HB := Lib.hid hB
            have HMM := Lib.hid hM
            have hB3 : B ≤ z + (20 + 2 * z) := by omega
            clear hB hM
            have hds' := Lib.hid hds.out.symm
            by_cases hlt : B ≤ z
            · have t1 : decide ((B : Int) ≤ (z : Int)) = true := by simp; omega
              have HT : Hid (Two (numF N) (ltC cf) A M B dk) := Lib.hid (by
                have h2 := hP.out.two (b := B) (by rw [hAt.out, HMM.out]; omega) (by rw [hAt.out, HS2.out, HB.out, Nat.min_eq_left hlt])
                rw [hAt.out, HMM.out] at h2
                exact h2)
              have hBt : Hid ((t + 1) * (2 * s) = B) := Lib.hid (by rw [Nat.succ_mul, hAt.out, HS2.out, HB.out])
              go_wp2_with fail
              refine (sym_any N LB cf hO blk off cap z w0 HC.out hszb B _ _ _ A M B dk _ z hds'.out rfl rfl rfl hW.out HT.out (by omega) hM1 hM2 ⟨hlt, rfl⟩).mono ?_
              rintro e1 w1 ⟨rfl, d2, hm2, hW2⟩
              have HP2 : Hid (Pass (numF N) (ltC cf) s z (t + 1) d d2) := Lib.hid (by
                refine hP.out.step (by rw [hAt.out, HS2.out, HB.out]; exact hlt) (Nat.le_of_eq hds'.out) ?_
                rw [hAt.out, HS2.out, HB.out]
                exact hm2)
              have hds2 : Hid (d2.size = z) := Lib.hid (by rw [hm2.perm.1]; exact hds.out)
              have hW2 := Lib.hid hW2
              clear hm2 hW hP
              go_wp2_with fail
              go_roundw
              case rel => exact ⟨t + 1, B, d2, by go_num, by go_num, hlt, hBt, hds2, HP2, hW2⟩
              case measure => simp [intOf]; omega
            · have t1 : decide ((B : Int) ≤ (z : Int)) = false := by simp; omega
              by_cases hmz : M < z
              · have t2 : decide ((M : Int) < (z : Int)) = true := by simp; omega
                have HT : Hid (Two (numF N) (ltC cf) A M z dk) := Lib.hid (by
                  have h2 := hP.out.two (b := z) (by rw [hAt.out, HMM.out]; omega) (by rw [hAt.out, HS2.out, HB.out, Nat.min_eq_right (by omega)])
                  rw [hAt.out, HMM.out] at h2
                  exact h2)
                go_wp2_with fail
                refine (sym_any N LB cf hO blk off cap z w0 HC.out hszb z _ _ _ A M z dk _ z hds'.out rfl rfl rfl hW.out HT.out (by omega) hM1 hmz ⟨Nat.le_refl _, rfl⟩).mono ?_
                rintro e1 w1 ⟨rfl, d2, hm2, hW2⟩
                have HP2 : Hid (Blocks (numF N) (ltC cf) s2 z d d2) := Lib.hid (by
                  rw [← HS2.out]
                  refine hP.out.done (by rw [hAt.out]; exact hA) (by rw [hAt.out, HS2.out, HB.out]; omega) (Nat.le_of_eq hds'.out) (Or.inl ?_)
                  rw [hAt.out, HMM.out]
                  exact ⟨hmz, hm2⟩)
                have hds2 : Hid (d2.size = z) := Lib.hid (by rw [hm2.perm.1]; exact hds.out)
                have hW2 := Lib.hid hW2
                clear hm2 hW hP
                go_wp2_with fail
                go_roundw
                case rel => exact ⟨s2, d2, by go_num, by omega, hs4, hds2, HP2, hW2⟩
                case measure => simp [intOf]; omega
              · have t2 : decide ((M : Int) < (z : Int)) = false := by simp; omega
                have HP2 : Hid (Blocks (numF N) (ltC cf) s2 z d dk) := Lib.hid (by
                  rw [← HS2.out]
                  refine hP.out.done (by rw [hAt.out]; exact hA) (by rw [hAt.out, HS2.out, HB.out]; omega) (Nat.le_of_eq hds'.out) (Or.inr ?_)
                  rw [hAt.out, HMM.out]
                  exact ⟨by omega, rfl⟩)
                clear hP
                go_wp2_with fail
                go_roundw
                case rel => exact ⟨s2, dk, by go_num, by omega, hs4, hds, HP2, hW⟩
                case measure => simp [intOf]; omega
        · have t2 : decide ((s : Int) < (z : Int)) = false := by simp; omega
          have HE : Hid (Merged (numF N) (ltC cf) 0 z d dk) := Lib.hid (hF.out.whole (by omega))
          go_wp2_with fail
          refine bodyPost_end (results_none rfl _ _ _) rfl ?_
          exact ⟨rfl, dk, HE.out, hW.out⟩

set_option maxHeartbeats 400000 in
theorem sortStable_any (N LB : Nat) (cf : Fin (N + 1) → Fin (N + 1) → Int) (hO : SWO (ltC cf)) (blk off cap z : Nat) (w0 : World) (hC : CmpO N LB cf w0 blk off z) (hsz : z < 1152921504606846976)
    (d : Array (Fin (N + 1))) (w : World) (hz : d.size = z) (S : RowW N w0 blk off d w) (hd : ∀ i j, i < j → j < z → numF N d[i]! < numF N d[j]!) :
    Calls Tryz.prog 24 #[.slice (some ⟨blk, off, none⟩) z cap, fV LB] w (SymOut N cf blk off 0 z d w0) := by
  have S0 := Lib.hid S
  have HC := Lib.hid hC
  have HD := Lib.hid hd
  clear S hC hd
  go_enter Tryz.func24, Tryz.ntmps24
  go_wp2_with fail
  refine (stable_any N LB cf hO blk off cap z w0 HC.out hsz d _ hz S0.out HD.out).mono ?_
  rintro e1 w1 ⟨rfl, d2, hm2, hW2⟩
  go_wp2_with fail
  refine bodyPost_end (results_none rfl _ _ _) rfl ?_
  exact ⟨rfl, d2, hm2, hW2⟩
end Go.Proofs.YtjaegddnikkibaaGreatDoor
