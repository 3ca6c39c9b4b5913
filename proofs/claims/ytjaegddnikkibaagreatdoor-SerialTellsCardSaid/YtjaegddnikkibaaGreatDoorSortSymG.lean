/-
  The sort's merge walked: whole.
-/
import Derived.Test.YtjaegddnikkibaaGreatDoorSortSymR
set_option linter.unusedVariables false
set_option linter.unusedSimpArgs false
namespace Go.Proofs.YtjaegddnikkibaaGreatDoor
open Go.RowKit Go.Sort

set_option maxHeartbeats 25600000 in
set_option maxRecDepth 100000 in
theorem sym_step (N LB : Nat) (cf : Fin (N + 1) → Fin (N + 1) → Int) (hO : SWO (ltC cf)) (blk off cap z : Nat) (w0 : World) (hC : CmpO N LB cf w0 blk off z) (hsz : z < 4611686018427387904) (K : Nat)
    (ih : ∀ (A M B : Int) (a m b : Nat) (d : Array (Fin (N + 1))) (w : World) (z1 : Nat), z1 = d.size → A = a → M = m → B = b → RowW N w0 blk off d w → Two (numF N) (ltC cf) a m b d → b - a ≤ K → a < m → m < b → (b ≤ z ∧ z1 = z) →
      Calls Tryz.prog 191 #[.slice (some ⟨blk, off, none⟩) z1 cap, .int .i64 A, .int .i64 M, .int .i64 B, fV LB] w (SymOut N cf blk off a b d w0))
    (a m b : Nat) (d : Array (Fin (N + 1))) (w : World) (hz : d.size = z) (S : RowW N w0 blk off d w) (hT : Two (numF N) (ltC cf) a m b d) (hK : b - a ≤ K + 1) (h1 : a + 1 < m) (h2 : m + 1 < b) (hb : b ≤ z) :
    Calls Tryz.prog 191 #[.slice (some ⟨blk, off, none⟩) z cap, .int .i64 a, .int .i64 m, .int .i64 b, fV LB] w (SymOut N cf blk off a b d w0) := by
  have S0 := Lib.hid S
  have HC := Lib.hid hC
  have HT := Lib.hid hT
  have HM := Lib.hid hz
  have HM2 := Lib.hid hz.symm
  have IH := Lib.hid ih
  obtain ⟨mid, hmidd⟩ : ∃ mid, (a + b) / 2 = mid := ⟨_, rfl⟩
  obtain ⟨p, hp⟩ : ∃ p, mid + m - 1 = p := ⟨_, rfl⟩
  have g1 : a < mid := by omega
  have g2 : mid < b := by omega
  have g3 : 2 * mid ≤ a + b := by omega
  have g4 : a + b ≤ 2 * mid + 1 := by omega
  have p0 : (0 : Int) ≤ (a : Int) := Int.natCast_nonneg _
  have t0 : ((m : Int) - (a : Int) == 1) = false := by simp; omega
  have t1 : ((b : Int) - (m : Int) == 1) = false := by simp; omega
  clear hz S hC hT ih hmidd
  by_cases hmm : mid < m
  · have tm : decide ((mid : Int) < (m : Int)) = true := by simp; omega
    obtain ⟨s0, hs0⟩ : ∃ s0, mid + m - b = s0 := ⟨_, rfl⟩
    have q0 : (mid : Int) + (m : Int) - (b : Int) = (s0 : Int) := by omega
    skip
    have HSR : Hid (a ≤ s0 ∧ s0 ≤ mid ∧ mid ≤ m ∧ mid ≤ mid ∧ mid + m ≤ s0 + b ∧ m + mid ≤ mid + m ∧ mid + mid ≤ mid + m) := Lib.hid (by omega)
    have HSE : Hid (s0 = a ∨ mid + m = s0 + b) := Lib.hid (by omega)
    have HRE : Hid (mid = m ∨ mid = mid) := Lib.hid (by omega)
    have q4 : (mid : Int) + (m : Int) - 1 = (p : Int) := by omega
    have qm : ((a : Int) + (b : Int)) / 2 = (mid : Int) := by omega
    clear hs0
    go_enter Tryz.func191, Tryz.ntmps191
    go_wp2_with fail
    clear q4 qm
    go_loopw [20, 21] (fun vi vj wr => ∃ s r : Nat, vi = .int .i64 s ∧ vj = .int .i64 r ∧ s0 ≤ s ∧ s ≤ r ∧ r ≤ mid ∧ Hid (s = s0 ∨ ltC cf d[p - (s - 1)]! d[s - 1]! = false) ∧ Hid (r = mid ∨ ltC cf d[p - r]! d[r]! = true) ∧ Hid (RowW N w0 blk off d wr)) (fun vi vj _ => (intOf vj).toNat - (intOf vi).toNat)
    case atStart => exact ⟨s0, mid, rfl, rfl, Nat.le_refl _, by have := HSR.out; omega, Nat.le_refl _, Lib.hid (Or.inl rfl), Lib.hid (Or.inl rfl), S0⟩
    case round =>
      clear S0
      obtain ⟨s, r, rfl, rfl, hi, hij, hj, hI, hJ, hW⟩ := hrel
      obtain ⟨hr1, hr2, hr3, hr4, hr5, hr6, hr7⟩ := HSR.out
      by_cases hlt : s < r
      · obtain ⟨c, hh⟩ : ∃ c, (s + r) / 2 = c := ⟨_, rfl⟩
        obtain ⟨y, hy⟩ : ∃ y, p - c = y := ⟨_, rfl⟩
        have hh1 : s ≤ c := by omega
        have hh2 : c < r := by omega
        have q1 : ((s : Int) + (r : Int)) / 2 = (c : Int) := by omega
        have q2 : (p : Int) - (c : Int) = (y : Int) := by omega
        have p3 : (c : Int) < (z : Int) := by omega
        have p4 : (y : Int) < (z : Int) := by omega
        have HY := Lib.hid hy
        have hyz : y < z := by omega
        have hcz : c < z := by omega
        have w1 : IntKind.i64.wrap (y : Int) = (y : Int) := by rw [IntKind.wrap_i64]; omega
        clear hh hy
        have c1 := hW.out.cell (y) (by rw [HM.out]; omega)
        have c2 := hW.out.cell (c) (by rw [HM.out]; omega)
        unfold encF at c1 c2
        have c1L : ({ heap := wr.heap, tape := wr.tape, drawn := wr.drawn + 1, os := wr.os, output := wr.output } : World).cell? ⟨blk, off + (y), none⟩ = _ := c1
        have c2L : ({ heap := wr.heap, tape := wr.tape, drawn := wr.drawn + 1, os := wr.os, output := wr.output } : World).cell? ⟨blk, off + (c), none⟩ = _ := c2
        have HCM := Lib.hid (fun (W : World) (hw : RowW N w0 blk off d W) => HC.out.at HM.out hw d[y]! d[c]!)
        have HLT : Hid (ltC cf d[y]! d[c]! = decide (cf d[y]! d[c]! < 0)) := Lib.hid rfl
        generalize hcv : cf d[y]! d[c]! = cv at *
        clear hcv
        cases hlv : decide (cv < 0)
        · have HI2 : Hid (ltC cf d[p - (c + 1 - 1)]! d[c + 1 - 1]! = false) := Lib.hid (by rw [show c + 1 - 1 = c from rfl, HY.out, HLT.out]; exact hlv)
          go_wp2_with fail
          go_still_tail 11, (by kernel_rfl)
          change wpList _ _ _ _ _ wr.drew
          have hWd := Lib.hid hW.out.drew
          clear c1 c2 c1L c2L hW
          generalize wr.drew = w2 at *
          go_wp2_with fail
          refine (HCM.out w2 hWd.out).mono ?_
          rintro e w3 ⟨rfl, hW3⟩
          have hW3 := Lib.hid hW3
          clear hWd HCM
          go_wp2_with fail
          go_roundw
          case rel => exact ⟨c + 1, r, by go_num, rfl, by omega, by omega, by omega, Lib.hid (Or.inr HI2.out), hJ, hW3⟩
          case measure => simp [intOf]; omega
        · have HJ2 : Hid (ltC cf d[p - c]! d[c]! = true) := Lib.hid (by rw [HY.out, HLT.out]; exact hlv)
          go_wp2_with fail
          go_still_tail 11, (by kernel_rfl)
          change wpList _ _ _ _ _ wr.drew
          have hWd := Lib.hid hW.out.drew
          clear c1 c2 c1L c2L hW
          generalize wr.drew = w2 at *
          go_wp2_with fail
          refine (HCM.out w2 hWd.out).mono ?_
          rintro e w3 ⟨rfl, hW3⟩
          have hW3 := Lib.hid hW3
          clear hWd HCM
          go_wp2_with fail
          go_roundw
          case rel => exact ⟨s, c, rfl, rfl, hi, hh1, by omega, hI, Lib.hid (Or.inr HJ2.out), hW3⟩
          case measure => simp [intOf]; omega
      · obtain ⟨e, he⟩ : ∃ e, mid + m - s = e := ⟨_, rfl⟩
        have has : a ≤ s := by omega
        have hsm : s ≤ m := by omega
        have hsmid : s ≤ mid := by omega
        have hme : m ≤ e := by omega
        have heb : e ≤ b := by omega
        have hmid : s + (e - m) = mid := by omega
        have q3 : (mid : Int) + (m : Int) - (s : Int) = (e : Int) := by omega
        have t2 : decide ((s : Int) < (r : Int)) = false := by simp; omega
        have HMID := Lib.hid hmid
        have hrs : r = s := by omega
        have HF1 : Hid (a < s → e < b → stB (numF N) (ltC cf) d[e]! d[s - 1]! = false) := Lib.hid (fun h1 h2 => by
          have h3 := hI.out.resolve_left (fun h => by have := HSE.out; omega)
          have h4 : p - (s - 1) = e := by omega
          rw [h4] at h3
          rw [← HT.out.cmp (by omega) (by omega) (by omega) (by omega)]; exact h3)
        have HF2 : Hid (s < m → m < e → stB (numF N) (ltC cf) d[e - 1]! d[s]! = true) := Lib.hid (fun h1 h2 => by
          have h3 := hJ.out
          rw [hrs] at h3
          have h3 := h3.resolve_left (fun h => by have := HRE.out; omega)
          have h4 : p - s = e - 1 := by omega
          rw [h4] at h3
          rw [← HT.out.cmp (by omega) (by omega) (by omega) (by omega)]; exact h3)
        clear hI hJ hrs hj hij
        by_cases kA : s < m <;> by_cases kB : m < e <;> by_cases kC : a < s <;> by_cases kF : e < b
        all_goals try (exfalso; omega)
        · -- 1111
          have u1 : decide ((s : Int) < (m : Int)) = true := by simp; omega
          have u2 : decide ((m : Int) < (e : Int)) = true := by simp; omega
          have u3 : decide ((a : Int) < (s : Int)) = true := by simp; omega
          have u4 : decide ((s : Int) < (mid : Int)) = true := by simp; omega
          have u5 : decide ((mid : Int) < (e : Int)) = true := by simp; omega
          have u6 : decide ((e : Int) < (b : Int)) = true := by simp; omega
          go_wp2_with fail
          refine (rotate_int N blk off cap (fV LB) d w0 _ hW.out _ _ _ z s m e HM2.out rfl rfl rfl (by omega) (by omega) (by omega) hsz).mono ?_
          rintro e1 w1 ⟨rfl, d1, hr1, hW1⟩
          have HR := Lib.hid hr1
          have HZ1 : Hid (z = d1.size) := Lib.hid (by rw [hr1.size]; exact HM2.out)
          have hW1 := Lib.hid hW1
          clear hr1
          go_wp2_with fail
          have HTL : Hid (Two (numF N) (ltC cf) a s mid d1) := Lib.hid (by have h := two_of_rot_left HT.out HR.out has hsm hme heb; rw [HMID.out] at h; exact h)
          refine (IH.out _ _ _ a s mid d1 _ z HZ1.out rfl rfl rfl hW1.out HTL.out (by omega) (by omega) (by omega) (by omega)).mono ?_
          rintro e2 w2 ⟨rfl, d2, hm2, hW2⟩
          have HL := Lib.hid hm2
          have HZ2 : Hid (z = d2.size) := Lib.hid (by rw [hm2.perm.1]; exact HZ1.out)
          have hW2 := Lib.hid hW2
          clear hm2
          go_wp2_with fail
          have HTR : Hid (Two (numF N) (ltC cf) mid e b d2) := Lib.hid (by
            have h := two_of_rot_right HT.out HR.out has hsm hme heb (d2 := d2) (fun x hx => by rw [HMID.out] at hx; exact HL.out.perm.2.1 x (Or.inr hx))
            rw [HMID.out] at h; exact h)
          refine (IH.out _ _ _ mid e b d2 _ z HZ2.out rfl rfl rfl hW2.out HTR.out (by omega) (by omega) (by omega) (by omega)).mono ?_
          rintro e3 w3 ⟨rfl, d3, hm3, hW3⟩
          have HH := Lib.hid hm3
          have hW3 := Lib.hid hW3
          clear hm3
          have HE : Hid (Merged (numF N) (ltC cf) a b d d3) := Lib.hid (merged_of hO HT.out HR.out has hsm hme heb (by rw [← HM2.out]; exact hb) HF1.out HF2.out (by rw [HMID.out]; exact HL.out) (by rw [HMID.out]; exact HH.out))
          go_wp2_with fail
          go_end0
          exact ⟨rfl, d3, HE.out, hW3.out⟩
        · -- 1110
          have u1 : decide ((s : Int) < (m : Int)) = true := by simp; omega
          have u2 : decide ((m : Int) < (e : Int)) = true := by simp; omega
          have u3 : decide ((a : Int) < (s : Int)) = true := by simp; omega
          have u4 : decide ((s : Int) < (mid : Int)) = true := by simp; omega
          have u5 : decide ((mid : Int) < (e : Int)) = true := by simp; omega
          have u6 : decide ((e : Int) < (b : Int)) = false := by simp; omega
          go_wp2_with fail
          refine (rotate_int N blk off cap (fV LB) d w0 _ hW.out _ _ _ z s m e HM2.out rfl rfl rfl (by omega) (by omega) (by omega) hsz).mono ?_
          rintro e1 w1 ⟨rfl, d1, hr1, hW1⟩
          have HR := Lib.hid hr1
          have HZ1 : Hid (z = d1.size) := Lib.hid (by rw [hr1.size]; exact HM2.out)
          have hW1 := Lib.hid hW1
          clear hr1
          go_wp2_with fail
          have HTL : Hid (Two (numF N) (ltC cf) a s mid d1) := Lib.hid (by have h := two_of_rot_left HT.out HR.out has hsm hme heb; rw [HMID.out] at h; exact h)
          refine (IH.out _ _ _ a s mid d1 _ z HZ1.out rfl rfl rfl hW1.out HTL.out (by omega) (by omega) (by omega) (by omega)).mono ?_
          rintro e2 w2 ⟨rfl, d2, hm2, hW2⟩
          have HL := Lib.hid hm2
          have HZ2 : Hid (z = d2.size) := Lib.hid (by rw [hm2.perm.1]; exact HZ1.out)
          have hW2 := Lib.hid hW2
          clear hm2
          go_wp2_with fail
          have HTR : Hid (Two (numF N) (ltC cf) mid e b d2) := Lib.hid (by
            have h := two_of_rot_right HT.out HR.out has hsm hme heb (d2 := d2) (fun x hx => by rw [HMID.out] at hx; exact HL.out.perm.2.1 x (Or.inr hx))
            rw [HMID.out] at h; exact h)
          obtain ⟨d3, hd3⟩ : ∃ d3, d2 = d3 := ⟨_, rfl⟩
          have HH : Hid (Merged (numF N) (ltC cf) mid b d2 d3) := Lib.hid (by rw [← hd3]; exact merged_left HTR.out (by omega))
          have hW3 : Hid (RowW N w0 blk off d3 _) := Lib.hid (by rw [← hd3]; exact hW2.out)
          clear hd3
          have HE : Hid (Merged (numF N) (ltC cf) a b d d3) := Lib.hid (merged_of hO HT.out HR.out has hsm hme heb (by rw [← HM2.out]; exact hb) HF1.out HF2.out (by rw [HMID.out]; exact HL.out) (by rw [HMID.out]; exact HH.out))
          skip
          go_end0
          exact ⟨rfl, d3, HE.out, hW3.out⟩
        · -- 1100
          have u1 : decide ((s : Int) < (m : Int)) = true := by simp; omega
          have u2 : decide ((m : Int) < (e : Int)) = true := by simp; omega
          have u3 : decide ((a : Int) < (s : Int)) = false := by simp; omega
          have u4 : decide ((s : Int) < (mid : Int)) = true := by simp; omega
          have u5 : decide ((mid : Int) < (e : Int)) = true := by simp; omega
          have u6 : decide ((e : Int) < (b : Int)) = false := by simp; omega
          go_wp2_with fail
          refine (rotate_int N blk off cap (fV LB) d w0 _ hW.out _ _ _ z s m e HM2.out rfl rfl rfl (by omega) (by omega) (by omega) hsz).mono ?_
          rintro e1 w1 ⟨rfl, d1, hr1, hW1⟩
          have HR := Lib.hid hr1
          have HZ1 : Hid (z = d1.size) := Lib.hid (by rw [hr1.size]; exact HM2.out)
          have hW1 := Lib.hid hW1
          clear hr1
          go_wp2_with fail
          have HTL : Hid (Two (numF N) (ltC cf) a s mid d1) := Lib.hid (by have h := two_of_rot_left HT.out HR.out has hsm hme heb; rw [HMID.out] at h; exact h)
          obtain ⟨d2, hd2⟩ : ∃ d2, d1 = d2 := ⟨_, rfl⟩
          have HL : Hid (Merged (numF N) (ltC cf) a mid d1 d2) := Lib.hid (by rw [← hd2]; exact merged_left HTL.out (by omega))
          have HZ2 : Hid (z = d2.size) := Lib.hid (by rw [← hd2]; exact HZ1.out)
          have hW2 : Hid (RowW N w0 blk off d2 _) := Lib.hid (by rw [← hd2]; exact hW1.out)
          clear hd2
          have HTR : Hid (Two (numF N) (ltC cf) mid e b d2) := Lib.hid (by
            have h := two_of_rot_right HT.out HR.out has hsm hme heb (d2 := d2) (fun x hx => by rw [HMID.out] at hx; exact HL.out.perm.2.1 x (Or.inr hx))
            rw [HMID.out] at h; exact h)
          obtain ⟨d3, hd3⟩ : ∃ d3, d2 = d3 := ⟨_, rfl⟩
          have HH : Hid (Merged (numF N) (ltC cf) mid b d2 d3) := Lib.hid (by rw [← hd3]; exact merged_left HTR.out (by omega))
          have hW3 : Hid (RowW N w0 blk off d3 _) := Lib.hid (by rw [← hd3]; exact hW2.out)
          clear hd3
          have HE : Hid (Merged (numF N) (ltC cf) a b d d3) := Lib.hid (merged_of hO HT.out HR.out has hsm hme heb (by rw [← HM2.out]; exact hb) HF1.out HF2.out (by rw [HMID.out]; exact HL.out) (by rw [HMID.out]; exact HH.out))
          skip
          go_end0
          exact ⟨rfl, d3, HE.out, hW3.out⟩
        · -- 1011
          have u1 : decide ((s : Int) < (m : Int)) = true := by simp; omega
          have u2 : decide ((m : Int) < (e : Int)) = false := by simp; omega
          have u3 : decide ((a : Int) < (s : Int)) = true := by simp; omega
          have u4 : decide ((s : Int) < (mid : Int)) = false := by simp; omega
          have u5 : decide ((mid : Int) < (e : Int)) = true := by simp; omega
          have u6 : decide ((e : Int) < (b : Int)) = true := by simp; omega
          go_wp2_with fail
          obtain ⟨d1, hd1⟩ : ∃ d1, d = d1 := ⟨_, rfl⟩
          have HR : Hid (RotIn s m e d d1) := Lib.hid (by rw [← hd1]; exact RotIn.none (by omega) (by omega) (by omega))
          have HZ1 : Hid (z = d1.size) := Lib.hid (by rw [← hd1]; exact HM2.out)
          have hW1 : Hid (RowW N w0 blk off d1 _) := Lib.hid (by rw [← hd1]; exact hW.out)
          clear hd1
          have HTL : Hid (Two (numF N) (ltC cf) a s mid d1) := Lib.hid (by have h := two_of_rot_left HT.out HR.out has hsm hme heb; rw [HMID.out] at h; exact h)
          obtain ⟨d2, hd2⟩ : ∃ d2, d1 = d2 := ⟨_, rfl⟩
          have HL : Hid (Merged (numF N) (ltC cf) a mid d1 d2) := Lib.hid (by rw [← hd2]; exact merged_left HTL.out (by omega))
          have HZ2 : Hid (z = d2.size) := Lib.hid (by rw [← hd2]; exact HZ1.out)
          have hW2 : Hid (RowW N w0 blk off d2 _) := Lib.hid (by rw [← hd2]; exact hW1.out)
          clear hd2
          have HTR : Hid (Two (numF N) (ltC cf) mid e b d2) := Lib.hid (by
            have h := two_of_rot_right HT.out HR.out has hsm hme heb (d2 := d2) (fun x hx => by rw [HMID.out] at hx; exact HL.out.perm.2.1 x (Or.inr hx))
            rw [HMID.out] at h; exact h)
          refine (IH.out _ _ _ mid e b d2 _ z HZ2.out rfl rfl rfl hW2.out HTR.out (by omega) (by omega) (by omega) (by omega)).mono ?_
          rintro e3 w3 ⟨rfl, d3, hm3, hW3⟩
          have HH := Lib.hid hm3
          have hW3 := Lib.hid hW3
          clear hm3
          have HE : Hid (Merged (numF N) (ltC cf) a b d d3) := Lib.hid (merged_of hO HT.out HR.out has hsm hme heb (by rw [← HM2.out]; exact hb) HF1.out HF2.out (by rw [HMID.out]; exact HL.out) (by rw [HMID.out]; exact HH.out))
          go_wp2_with fail
          go_end0
          exact ⟨rfl, d3, HE.out, hW3.out⟩
  · have tm : decide ((mid : Int) < (m : Int)) = false := by simp; omega
    skip
    have HSR : Hid (a ≤ a ∧ a ≤ m ∧ m ≤ m ∧ m ≤ mid ∧ mid + m ≤ a + b ∧ m + m ≤ mid + m ∧ mid + m ≤ mid + m) := Lib.hid (by omega)
    have HSE : Hid (a = a ∨ mid + m = a + b) := Lib.hid (by omega)
    have HRE : Hid (m = m ∨ m = mid) := Lib.hid (by omega)
    have q4 : (mid : Int) + (m : Int) - 1 = (p : Int) := by omega
    have qm : ((a : Int) + (b : Int)) / 2 = (mid : Int) := by omega
    skip
    go_enter Tryz.func191, Tryz.ntmps191
    go_wp2_with fail
    clear q4 qm
    go_loopw [20, 21] (fun vi vj wr => ∃ s r : Nat, vi = .int .i64 s ∧ vj = .int .i64 r ∧ a ≤ s ∧ s ≤ r ∧ r ≤ m ∧ Hid (s = a ∨ ltC cf d[p - (s - 1)]! d[s - 1]! = false) ∧ Hid (r = m ∨ ltC cf d[p - r]! d[r]! = true) ∧ Hid (RowW N w0 blk off d wr)) (fun vi vj _ => (intOf vj).toNat - (intOf vi).toNat)
    case atStart => exact ⟨a, m, rfl, rfl, Nat.le_refl _, by have := HSR.out; omega, Nat.le_refl _, Lib.hid (Or.inl rfl), Lib.hid (Or.inl rfl), S0⟩
    case round =>
      clear S0
      obtain ⟨s, r, rfl, rfl, hi, hij, hj, hI, hJ, hW⟩ := hrel
      obtain ⟨hr1, hr2, hr3, hr4, hr5, hr6, hr7⟩ := HSR.out
      by_cases hlt : s < r
      · obtain ⟨c, hh⟩ : ∃ c, (s + r) / 2 = c := ⟨_, rfl⟩
        obtain ⟨y, hy⟩ : ∃ y, p - c = y := ⟨_, rfl⟩
        have hh1 : s ≤ c := by omega
        have hh2 : c < r := by omega
        have q1 : ((s : Int) + (r : Int)) / 2 = (c : Int) := by omega
        have q2 : (p : Int) - (c : Int) = (y : Int) := by omega
        have p3 : (c : Int) < (z : Int) := by omega
        have p4 : (y : Int) < (z : Int) := by omega
        have HY := Lib.hid hy
        have hyz : y < z := by omega
        have hcz : c < z := by omega
        have w1 : IntKind.i64.wrap (y : Int) = (y : Int) := by rw [IntKind.wrap_i64]; omega
        clear hh hy
        have c1 := hW.out.cell (y) (by rw [HM.out]; omega)
        have c2 := hW.out.cell (c) (by rw [HM.out]; omega)
        unfold encF at c1 c2
        have c1L : ({ heap := wr.heap, tape := wr.tape, drawn := wr.drawn + 1, os := wr.os, output := wr.output } : World).cell? ⟨blk, off + (y), none⟩ = _ := c1
        have c2L : ({ heap := wr.heap, tape := wr.tape, drawn := wr.drawn + 1, os := wr.os, output := wr.output } : World).cell? ⟨blk, off + (c), none⟩ = _ := c2
        have HCM := Lib.hid (fun (W : World) (hw : RowW N w0 blk off d W) => HC.out.at HM.out hw d[y]! d[c]!)
        have HLT : Hid (ltC cf d[y]! d[c]! = decide (cf d[y]! d[c]! < 0)) := Lib.hid rfl
        generalize hcv : cf d[y]! d[c]! = cv at *
        clear hcv
        cases hlv : decide (cv < 0)
        · have HI2 : Hid (ltC cf d[p - (c + 1 - 1)]! d[c + 1 - 1]! = false) := Lib.hid (by rw [show c + 1 - 1 = c from rfl, HY.out, HLT.out]; exact hlv)
          go_wp2_with fail
          go_still_tail 11, (by kernel_rfl)
          change wpList _ _ _ _ _ wr.drew
          have hWd := Lib.hid hW.out.drew
          clear c1 c2 c1L c2L hW
          generalize wr.drew = w2 at *
          go_wp2_with fail
          refine (HCM.out w2 hWd.out).mono ?_
          rintro e w3 ⟨rfl, hW3⟩
          have hW3 := Lib.hid hW3
          clear hWd HCM
          go_wp2_with fail
          go_roundw
          case rel => exact ⟨c + 1, r, by go_num, rfl, by omega, by omega, by omega, Lib.hid (Or.inr HI2.out), hJ, hW3⟩
          case measure => simp [intOf]; omega
        · have HJ2 : Hid (ltC cf d[p - c]! d[c]! = true) := Lib.hid (by rw [HY.out, HLT.out]; exact hlv)
          go_wp2_with fail
          go_still_tail 11, (by kernel_rfl)
          change wpList _ _ _ _ _ wr.drew
          have hWd := Lib.hid hW.out.drew
          clear c1 c2 c1L c2L hW
          generalize wr.drew = w2 at *
          go_wp2_with fail
          refine (HCM.out w2 hWd.out).mono ?_
          rintro e w3 ⟨rfl, hW3⟩
          have hW3 := Lib.hid hW3
          clear hWd HCM
          go_wp2_with fail
          go_roundw
          case rel => exact ⟨s, c, rfl, rfl, hi, hh1, by omega, hI, Lib.hid (Or.inr HJ2.out), hW3⟩
          case measure => simp [intOf]; omega
      · obtain ⟨e, he⟩ : ∃ e, mid + m - s = e := ⟨_, rfl⟩
        have has : a ≤ s := by omega
        have hsm : s ≤ m := by omega
        have hsmid : s ≤ mid := by omega
        have hme : m ≤ e := by omega
        have heb : e ≤ b := by omega
        have hmid : s + (e - m) = mid := by omega
        have q3 : (mid : Int) + (m : Int) - (s : Int) = (e : Int) := by omega
        have t2 : decide ((s : Int) < (r : Int)) = false := by simp; omega
        have HMID := Lib.hid hmid
        have hrs : r = s := by omega
        have HF1 : Hid (a < s → e < b → stB (numF N) (ltC cf) d[e]! d[s - 1]! = false) := Lib.hid (fun h1 h2 => by
          have h3 := hI.out.resolve_left (fun h => by have := HSE.out; omega)
          have h4 : p - (s - 1) = e := by omega
          rw [h4] at h3
          rw [← HT.out.cmp (by omega) (by omega) (by omega) (by omega)]; exact h3)
        have HF2 : Hid (s < m → m < e → stB (numF N) (ltC cf) d[e - 1]! d[s]! = true) := Lib.hid (fun h1 h2 => by
          have h3 := hJ.out
          rw [hrs] at h3
          have h3 := h3.resolve_left (fun h => by have := HRE.out; omega)
          have h4 : p - s = e - 1 := by omega
          rw [h4] at h3
          rw [← HT.out.cmp (by omega) (by omega) (by omega) (by omega)]; exact h3)
        clear hI hJ hrs hj hij
        by_cases kA : s < m <;> by_cases kB : m < e <;> by_cases kC : a < s <;> by_cases kF : e < b
        all_goals try (exfalso; omega)
        · -- 1111
          have u1 : decide ((s : Int) < (m : Int)) = true := by simp; omega
          have u2 : decide ((m : Int) < (e : Int)) = true := by simp; omega
          have u3 : decide ((a : Int) < (s : Int)) = true := by simp; omega
          have u4 : decide ((s : Int) < (mid : Int)) = true := by simp; omega
          have u5 : decide ((mid : Int) < (e : Int)) = true := by simp; omega
          have u6 : decide ((e : Int) < (b : Int)) = true := by simp; omega
          go_wp2_with fail
          refine (rotate_int N blk off cap (fV LB) d w0 _ hW.out _ _ _ z s m e HM2.out rfl rfl rfl (by omega) (by omega) (by omega) hsz).mono ?_
          rintro e1 w1 ⟨rfl, d1, hr1, hW1⟩
          have HR := Lib.hid hr1
          have HZ1 : Hid (z = d1.size) := Lib.hid (by rw [hr1.size]; exact HM2.out)
          have hW1 := Lib.hid hW1
          clear hr1
          go_wp2_with fail
          have HTL : Hid (Two (numF N) (ltC cf) a s mid d1) := Lib.hid (by have h := two_of_rot_left HT.out HR.out has hsm hme heb; rw [HMID.out] at h; exact h)
          refine (IH.out _ _ _ a s mid d1 _ z HZ1.out rfl rfl rfl hW1.out HTL.out (by omega) (by omega) (by omega) (by omega)).mono ?_
          rintro e2 w2 ⟨rfl, d2, hm2, hW2⟩
          have HL := Lib.hid hm2
          have HZ2 : Hid (z = d2.size) := Lib.hid (by rw [hm2.perm.1]; exact HZ1.out)
          have hW2 := Lib.hid hW2
          clear hm2
          go_wp2_with fail
          have HTR : Hid (Two (numF N) (ltC cf) mid e b d2) := Lib.hid (by
            have h := two_of_rot_right HT.out HR.out has hsm hme heb (d2 := d2) (fun x hx => by rw [HMID.out] at hx; exact HL.out.perm.2.1 x (Or.inr hx))
            rw [HMID.out] at h; exact h)
          refine (IH.out _ _ _ mid e b d2 _ z HZ2.out rfl rfl rfl hW2.out HTR.out (by omega) (by omega) (by omega) (by omega)).mono ?_
          rintro e3 w3 ⟨rfl, d3, hm3, hW3⟩
          have HH := Lib.hid hm3
          have hW3 := Lib.hid hW3
          clear hm3
          have HE : Hid (Merged (numF N) (ltC cf) a b d d3) := Lib.hid (merged_of hO HT.out HR.out has hsm hme heb (by rw [← HM2.out]; exact hb) HF1.out HF2.out (by rw [HMID.out]; exact HL.out) (by rw [HMID.out]; exact HH.out))
          go_wp2_with fail
          go_end0
          exact ⟨rfl, d3, HE.out, hW3.out⟩
        · -- 1101
          have u1 : decide ((s : Int) < (m : Int)) = true := by simp; omega
          have u2 : decide ((m : Int) < (e : Int)) = true := by simp; omega
          have u3 : decide ((a : Int) < (s : Int)) = false := by simp; omega
          have u4 : decide ((s : Int) < (mid : Int)) = true := by simp; omega
          have u5 : decide ((mid : Int) < (e : Int)) = true := by simp; omega
          have u6 : decide ((e : Int) < (b : Int)) = true := by simp; omega
          go_wp2_with fail
          refine (rotate_int N blk off cap (fV LB) d w0 _ hW.out _ _ _ z s m e HM2.out rfl rfl rfl (by omega) (by omega) (by omega) hsz).mono ?_
          rintro e1 w1 ⟨rfl, d1, hr1, hW1⟩
          have HR := Lib.hid hr1
          have HZ1 : Hid (z = d1.size) := Lib.hid (by rw [hr1.size]; exact HM2.out)
          have hW1 := Lib.hid hW1
          clear hr1
          go_wp2_with fail
          have HTL : Hid (Two (numF N) (ltC cf) a s mid d1) := Lib.hid (by have h := two_of_rot_left HT.out HR.out has hsm hme heb; rw [HMID.out] at h; exact h)
          obtain ⟨d2, hd2⟩ : ∃ d2, d1 = d2 := ⟨_, rfl⟩
          have HL : Hid (Merged (numF N) (ltC cf) a mid d1 d2) := Lib.hid (by rw [← hd2]; exact merged_left HTL.out (by omega))
          have HZ2 : Hid (z = d2.size) := Lib.hid (by rw [← hd2]; exact HZ1.out)
          have hW2 : Hid (RowW N w0 blk off d2 _) := Lib.hid (by rw [← hd2]; exact hW1.out)
          clear hd2
          have HTR : Hid (Two (numF N) (ltC cf) mid e b d2) := Lib.hid (by
            have h := two_of_rot_right HT.out HR.out has hsm hme heb (d2 := d2) (fun x hx => by rw [HMID.out] at hx; exact HL.out.perm.2.1 x (Or.inr hx))
            rw [HMID.out] at h; exact h)
          refine (IH.out _ _ _ mid e b d2 _ z HZ2.out rfl rfl rfl hW2.out HTR.out (by omega) (by omega) (by omega) (by omega)).mono ?_
          rintro e3 w3 ⟨rfl, d3, hm3, hW3⟩
          have HH := Lib.hid hm3
          have hW3 := Lib.hid hW3
          clear hm3
          have HE : Hid (Merged (numF N) (ltC cf) a b d d3) := Lib.hid (merged_of hO HT.out HR.out has hsm hme heb (by rw [← HM2.out]; exact hb) HF1.out HF2.out (by rw [HMID.out]; exact HL.out) (by rw [HMID.out]; exact HH.out))
          go_wp2_with fail
          go_end0
          exact ⟨rfl, d3, HE.out, hW3.out⟩
        · -- 1100
          have u1 : decide ((s : Int) < (m : Int)) = true := by simp; omega
          have u2 : decide ((m : Int) < (e : Int)) = true := by simp; omega
          have u3 : decide ((a : Int) < (s : Int)) = false := by simp; omega
          have u4 : decide ((s : Int) < (mid : Int)) = true := by simp; omega
          have u5 : decide ((mid : Int) < (e : Int)) = true := by simp; omega
          have u6 : decide ((e : Int) < (b : Int)) = false := by simp; omega
          go_wp2_with fail
          refine (rotate_int N blk off cap (fV LB) d w0 _ hW.out _ _ _ z s m e HM2.out rfl rfl rfl (by omega) (by omega) (by omega) hsz).mono ?_
          rintro e1 w1 ⟨rfl, d1, hr1, hW1⟩
          have HR := Lib.hid hr1
          have HZ1 : Hid (z = d1.size) := Lib.hid (by rw [hr1.size]; exact HM2.out)
          have hW1 := Lib.hid hW1
          clear hr1
          go_wp2_with fail
          have HTL : Hid (Two (numF N) (ltC cf) a s mid d1) := Lib.hid (by have h := two_of_rot_left HT.out HR.out has hsm hme heb; rw [HMID.out] at h; exact h)
          obtain ⟨d2, hd2⟩ : ∃ d2, d1 = d2 := ⟨_, rfl⟩
          have HL : Hid (Merged (numF N) (ltC cf) a mid d1 d2) := Lib.hid (by rw [← hd2]; exact merged_left HTL.out (by omega))
          have HZ2 : Hid (z = d2.size) := Lib.hid (by rw [← hd2]; exact HZ1.out)
          have hW2 : Hid (RowW N w0 blk off d2 _) := Lib.hid (by rw [← hd2]; exact hW1.out)
          clear hd2
          have HTR : Hid (Two (numF N) (ltC cf) mid e b d2) := Lib.hid (by
            have h := two_of_rot_right HT.out HR.out has hsm hme heb (d2 := d2) (fun x hx => by rw [HMID.out] at hx; exact HL.out.perm.2.1 x (Or.inr hx))
            rw [HMID.out] at h; exact h)
          obtain ⟨d3, hd3⟩ : ∃ d3, d2 = d3 := ⟨_, rfl⟩
          have HH : Hid (Merged (numF N) (ltC cf) mid b d2 d3) := Lib.hid (by rw [← hd3]; exact merged_left HTR.out (by omega))
          have hW3 : Hid (RowW N w0 blk off d3 _) := Lib.hid (by rw [← hd3]; exact hW2.out)
          clear hd3
          have HE : Hid (Merged (numF N) (ltC cf) a b d d3) := Lib.hid (merged_of hO HT.out HR.out has hsm hme heb (by rw [← HM2.out]; exact hb) HF1.out HF2.out (by rw [HMID.out]; exact HL.out) (by rw [HMID.out]; exact HH.out))
          skip
          go_end0
          exact ⟨rfl, d3, HE.out, hW3.out⟩
        · -- 0111
          have u1 : decide ((s : Int) < (m : Int)) = false := by simp; omega
          have u2 : decide ((m : Int) < (e : Int)) = true := by simp; omega
          have u3 : decide ((a : Int) < (s : Int)) = true := by simp; omega
          have u4 : decide ((s : Int) < (mid : Int)) = true := by simp; omega
          have u5 : decide ((mid : Int) < (e : Int)) = false := by simp; omega
          have u6 : decide ((e : Int) < (b : Int)) = true := by simp; omega
          go_wp2_with fail
          obtain ⟨d1, hd1⟩ : ∃ d1, d = d1 := ⟨_, rfl⟩
          have HR : Hid (RotIn s m e d d1) := Lib.hid (by rw [← hd1]; exact RotIn.none (by omega) (by omega) (by omega))
          have HZ1 : Hid (z = d1.size) := Lib.hid (by rw [← hd1]; exact HM2.out)
          have hW1 : Hid (RowW N w0 blk off d1 _) := Lib.hid (by rw [← hd1]; exact hW.out)
          clear hd1
          have HTL : Hid (Two (numF N) (ltC cf) a s mid d1) := Lib.hid (by have h := two_of_rot_left HT.out HR.out has hsm hme heb; rw [HMID.out] at h; exact h)
          refine (IH.out _ _ _ a s mid d1 _ z HZ1.out rfl rfl rfl hW1.out HTL.out (by omega) (by omega) (by omega) (by omega)).mono ?_
          rintro e2 w2 ⟨rfl, d2, hm2, hW2⟩
          have HL := Lib.hid hm2
          have HZ2 : Hid (z = d2.size) := Lib.hid (by rw [hm2.perm.1]; exact HZ1.out)
          have hW2 := Lib.hid hW2
          clear hm2
          go_wp2_with fail
          have HTR : Hid (Two (numF N) (ltC cf) mid e b d2) := Lib.hid (by
            have h := two_of_rot_right HT.out HR.out has hsm hme heb (d2 := d2) (fun x hx => by rw [HMID.out] at hx; exact HL.out.perm.2.1 x (Or.inr hx))
            rw [HMID.out] at h; exact h)
          obtain ⟨d3, hd3⟩ : ∃ d3, d2 = d3 := ⟨_, rfl⟩
          have HH : Hid (Merged (numF N) (ltC cf) mid b d2 d3) := Lib.hid (by rw [← hd3]; exact merged_left HTR.out (by omega))
          have hW3 : Hid (RowW N w0 blk off d3 _) := Lib.hid (by rw [← hd3]; exact hW2.out)
          clear hd3
          have HE : Hid (Merged (numF N) (ltC cf) a b d d3) := Lib.hid (merged_of hO HT.out HR.out has hsm hme heb (by rw [← HM2.out]; exact hb) HF1.out HF2.out (by rw [HMID.out]; exact HL.out) (by rw [HMID.out]; exact HH.out))
          skip
          go_end0
          exact ⟨rfl, d3, HE.out, hW3.out⟩
        · -- 0011
          have u1 : decide ((s : Int) < (m : Int)) = false := by simp; omega
          have u2 : decide ((m : Int) < (e : Int)) = false := by simp; omega
          have u3 : decide ((a : Int) < (s : Int)) = true := by simp; omega
          have u4 : decide ((s : Int) < (mid : Int)) = false := by simp; omega
          have u5 : decide ((mid : Int) < (e : Int)) = false := by simp; omega
          have u6 : decide ((e : Int) < (b : Int)) = true := by simp; omega
          go_wp2_with fail
          obtain ⟨d1, hd1⟩ : ∃ d1, d = d1 := ⟨_, rfl⟩
          have HR : Hid (RotIn s m e d d1) := Lib.hid (by rw [← hd1]; exact RotIn.none (by omega) (by omega) (by omega))
          have HZ1 : Hid (z = d1.size) := Lib.hid (by rw [← hd1]; exact HM2.out)
          have hW1 : Hid (RowW N w0 blk off d1 _) := Lib.hid (by rw [← hd1]; exact hW.out)
          clear hd1
          have HTL : Hid (Two (numF N) (ltC cf) a s mid d1) := Lib.hid (by have h := two_of_rot_left HT.out HR.out has hsm hme heb; rw [HMID.out] at h; exact h)
          obtain ⟨d2, hd2⟩ : ∃ d2, d1 = d2 := ⟨_, rfl⟩
          have HL : Hid (Merged (numF N) (ltC cf) a mid d1 d2) := Lib.hid (by rw [← hd2]; exact merged_left HTL.out (by omega))
          have HZ2 : Hid (z = d2.size) := Lib.hid (by rw [← hd2]; exact HZ1.out)
          have hW2 : Hid (RowW N w0 blk off d2 _) := Lib.hid (by rw [← hd2]; exact hW1.out)
          clear hd2
          have HTR : Hid (Two (numF N) (ltC cf) mid e b d2) := Lib.hid (by
            have h := two_of_rot_right HT.out HR.out has hsm hme heb (d2 := d2) (fun x hx => by rw [HMID.out] at hx; exact HL.out.perm.2.1 x (Or.inr hx))
            rw [HMID.out] at h; exact h)
          obtain ⟨d3, hd3⟩ : ∃ d3, d2 = d3 := ⟨_, rfl⟩
          have HH : Hid (Merged (numF N) (ltC cf) mid b d2 d3) := Lib.hid (by rw [← hd3]; exact merged_left HTR.out (by omega))
          have hW3 : Hid (RowW N w0 blk off d3 _) := Lib.hid (by rw [← hd3]; exact hW2.out)
          clear hd3
          have HE : Hid (Merged (numF N) (ltC cf) a b d d3) := Lib.hid (merged_of hO HT.out HR.out has hsm hme heb (by rw [← HM2.out]; exact hb) HF1.out HF2.out (by rw [HMID.out]; exact HL.out) (by rw [HMID.out]; exact HH.out))
          skip
          go_end0
          exact ⟨rfl, d3, HE.out, hW3.out⟩
end Go.Proofs.YtjaegddnikkibaaGreatDoor
