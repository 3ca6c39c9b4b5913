/-
  The second reference's fresh, walked.
-/
import Derived.Test.YtjaegddnikkibaaRfLaw
import Derived.Test.YtjaegddnikkibaaOwnKit
import Derived.Test.YtjaegddnikkibaaWrites
import Derived.BigQuiet
set_option linter.unusedVariables false
set_option linter.unusedSimpArgs false
namespace Go.Proofs.Ytjaegddnikkibaa
open Go.RowKit Go.Sort

def staleB (y x : Att) : Bool := decide (x.kd = 1) && (decide (x.en < y.bg) && decide (y.ck < x.pl))
theorem fresh_any {l : List Att} {n : Nat} (h : n < l.length) : freshV l (orderV l) (n : Int) = !l.any (staleB l[n]) := by
  rw [Bool.eq_iff_iff]
  unfold freshV
  rw [List.all_eq_true, Bool.not_eq_true', ← Bool.not_eq_true, List.any_eq_true, attN_get h]
  constructor
  · rintro h1 ⟨x, hx, hs⟩
    obtain ⟨j, hj, rfl⟩ := List.mem_iff_getElem.1 hx
    unfold staleB at hs
    simp only [Bool.and_eq_true, decide_eq_true_eq] at hs
    have hm : (j : Int) ∈ orderV l := (sortB_perm _ _).mem_iff.2 ((committed_mem l 0 (j : Int)).2 ⟨j, by simp, l[j], List.getElem?_eq_getElem hj, hs.1⟩)
    have := h1 _ hm
    rw [attN_get hj] at this
    simp [hs.2.1, hs.2.2] at this
  · intro h1 i hi
    obtain ⟨j, rfl, x, hx, hk⟩ := orderV_mem hi
    rw [attN_some hx]
    cases hb : decide (x.en < l[n].bg) && decide (l[n].ck < x.pl)
    · rfl
    · exact absurd ⟨x, List.mem_of_getElem? hx, by unfold staleB; rw [hb]; simp [hk]⟩ h1

set_option maxHeartbeats 4000000 in
set_option maxRecDepth 100000 in
theorem rfFresh_any (A : Option Addr) (c : Nat) (l : List Att) (n : Nat) (hn : n < l.length) (hl : l.length ≤ 1048576) (B : Nat) (w : World) (ha : AttsAt w B A l) (hB : B ≤ w.heap.size) :
    Calls Try.prog 50 #[.slice A l.length c, .int .i64 n] w fun e w' => e = .returned (.bool (freshV l (orderV l) (n : Int))) ∧ Below w.heap.size w w' := by
  have HA := Lib.hid (fun W (h : Below w.heap.size w W) => ha.keep (h.mono hB) (Nat.le_refl _))
  obtain ⟨b, off, rfl, -, -⟩ := ha.row (by rintro rfl; simp at hn)
  rw [fresh_any hn]
  have HY := Lib.hid (fun W (h : Below w.heap.size w W) => (HA.out W h).at (List.getElem?_eq_getElem hn))
  obtain ⟨y, hy⟩ : ∃ y, l[n] = y := ⟨_, rfl⟩
  rw [hy] at HY ⊢
  clear hy ha
  obtain ⟨R, hR⟩ : ∃ R, l.any (staleB y) = R := ⟨_, rfl⟩
  rw [hR]
  have HR := Lib.hid hR
  have HS0 : Hid ((l.take 0).any (staleB y) = false) := Lib.hid (by simp)
  clear hR
  obtain ⟨yth, ykd, ybg, yen, yck, ypl, ywt, ydA, ydc, yevs⟩ := y
  have p1 : (n : Int) < (l.length : Int) := by omega
  have p2 : (0 : Int) ≤ (n : Int) := Int.natCast_nonneg _
  go_enter Try.func50, Try.ntmps50
  go_wp2_with fail
  go_loopw [5] (fun i wr => ∃ k : Nat, i = .int .i64 k ∧ k ≤ l.length ∧ Hid ((l.take k).any (staleB ⟨yth, ykd, ybg, yen, yck, ypl, ywt, ydA, ydc, yevs⟩) = false) ∧ Hid (Below w.heap.size w wr)) (fun i _ => l.length - (intOf i).toNat)
  case atStart => exact ⟨0, rfl, Nat.zero_le _, HS0, Lib.hid (Below.refl _ _)⟩
  case round =>
    clear HS0
    obtain ⟨k, rfl, hk, hV, hW⟩ := hrel
    obtain ⟨-, -, y2, -, y4, -, -, -⟩ := HY.out _ hW.out
    dsimp only at y2 y4
    have hE := Lib.hid (fun m => below_drewN hW.out m)
    by_cases hlt : k < l.length
    · obtain ⟨c0, c1, c2, c3, c4, c5, c6, c7⟩ := (HA.out _ hW.out).at (List.getElem?_eq_getElem hlt)
      have hst := Lib.hid (any_takeA (p := staleB ⟨yth, ykd, ybg, yen, yck, ypl, ywt, ydA, ydc, yevs⟩) hlt)
      have hall := Lib.hid (fun h => List.any_eq_true.2 ⟨l[k], List.getElem_mem hlt, h⟩ : staleB ⟨yth, ykd, ybg, yen, yck, ypl, ywt, ydA, ydc, yevs⟩ l[k] = true → l.any (staleB ⟨yth, ykd, ybg, yen, yck, ypl, ywt, ydA, ydc, yevs⟩) = true)
      have q1 : (k : Int) < (l.length : Int) := by omega
      have q2 : (0 : Int) ≤ (k : Int) := Int.natCast_nonneg _
      generalize l[k] = x at *
      obtain ⟨th, kd, bg, en, ck, pl, wt, dA, dc, evs⟩ := x
      dsimp only at c0 c1 c2 c3 c4 c5 c6 c7
      clear c0 c2 c4 c6 c7
      by_cases g1 : kd = 1
      · have t1 : decide (kd = 1) = true := by simpa using g1
        have t1b : (kd == 1) = true := by simpa using g1
        by_cases g2 : en < ybg
        · have t2 : decide (en < ybg) = true := by simpa using g2
          by_cases g3 : yck < pl
          · have t3 : decide (yck < pl) = true := by simpa using g3
            have hF : Hid (R = true) := Lib.hid (by rw [← HR.out]; exact hall.out (by unfold staleB; simp [g1, g2, g3]))
            clear hV hst hall g1 g2 g3
            go_wp2_with fail
            go_quiet (fail)
            go_wp2_with fail
            go_ret
            exact ⟨by rw [hF.out]; first | done | rfl, hE.out _⟩
          · have t3 : decide (yck < pl) = false := by simpa using g3
            have hF : Hid ((l.take (k + 1)).any (staleB ⟨yth, ykd, ybg, yen, yck, ypl, ywt, ydA, ydc, yevs⟩) = false) := Lib.hid (by rw [hst.out, hV.out]; unfold staleB; simp [g3])
            clear hV hall g1 g2 g3
            clear hst
            go_wp2_with fail
            go_quiet (fail)
            go_wp2_with fail
            go_roundw
            case rel => exact ⟨k + 1, by go_num, by omega, hF, Lib.hid (hE.out _)⟩
            case measure => simp [intOf]; omega
        · have t2 : decide (en < ybg) = false := by simpa using g2
          have hF : Hid ((l.take (k + 1)).any (staleB ⟨yth, ykd, ybg, yen, yck, ypl, ywt, ydA, ydc, yevs⟩) = false) := Lib.hid (by rw [hst.out, hV.out]; unfold staleB; simp [g2])
          clear hV hall g1 g2
          clear hst
          go_wp2_with fail
          go_quiet (fail)
          go_wp2_with fail
          go_roundw
          case rel => exact ⟨k + 1, by go_num, by omega, hF, Lib.hid (hE.out _)⟩
          case measure => simp [intOf]; omega
      · have t1 : decide (kd = 1) = false := by simpa using g1
        have t1b : (kd == 1) = false := by simpa using g1
        have hF : Hid ((l.take (k + 1)).any (staleB ⟨yth, ykd, ybg, yen, yck, ypl, ywt, ydA, ydc, yevs⟩) = false) := Lib.hid (by rw [hst.out, hV.out]; unfold staleB; simp [g1])
        clear hV hall g1
        clear hst
        go_wp2_with fail
        go_quiet (fail)
        go_wp2_with fail
        go_roundw
        case rel => exact ⟨k + 1, by go_num, by omega, hF, Lib.hid (hE.out _)⟩
        case measure => simp [intOf]; omega
    · have hF : Hid (R = false) := Lib.hid (by rw [← HR.out]; have := hV.out; rwa [List.take_of_length_le (by omega)] at this)
      clear hV
      go_wp2_with fail
      go_ret
      exact ⟨by rw [hF.out]; first | done | rfl, hW.out⟩
end Go.Proofs.Ytjaegddnikkibaa
