/-
  The reference's May walked.
-/
import Derived.Test.YtjaegddnikkibaaRfAtt
import Derived.Test.YtjaegddnikkibaaChkd
set_option linter.unusedVariables false
set_option linter.unusedSimpArgs false
namespace Go.Proofs.Ytjaegddnikkibaa
open Go.RowKit Go.Sort

abbrev RmS (w0 : World) (b o : Nat) (th kd bg en ck pl : Int) (wt : Bool) (dA : Option Addr) (n dc : Nat) (pO : Nat) (pv : Int) (W : World) : Prop :=
  Below w0.heap.size w0 W ∧ W.cell? ⟨b, o, none⟩ = some (.int .i64 th) ∧ W.cell? ⟨b, o + 1, none⟩ = some (.int .u8 kd) ∧ W.cell? ⟨b, o + 2, none⟩ = some (.int .i64 bg) ∧ W.cell? ⟨b, o + 3, none⟩ = some (.int .i64 en) ∧ W.cell? ⟨b, o + 4, none⟩ = some (.int .i64 ck) ∧
    W.cell? ⟨b, o + 5, none⟩ = some (.int .i64 pl) ∧ W.cell? ⟨b, o + 6, none⟩ = some (.bool wt) ∧ W.cell? ⟨b, o + 7, none⟩ = some (.slice dA n dc) ∧ W.cell? ⟨b, pO, none⟩ = some (.int .i64 pv)
theorem rmS_of {w0 : World} {b o : Nat} {x : Att} {pO : Nat} {pv : Int} (h : AttAt w0 b o x) (hp : w0.cell? ⟨b, pO, none⟩ = some (.int .i64 pv)) (W : World) (hW : Below w0.heap.size w0 W) :
    RmS w0 b o x.th x.kd x.bg x.en x.ck x.pl x.wr x.dA x.evs.length x.dc pO pv W := by
  have hb := World.block_lt_of_cell? _ _ hp
  obtain ⟨a0, a1, a2, a3, a4, a5, a6, a7⟩ := h.keep fun o' => hW.cell (p := ⟨b, o', none⟩) hb
  exact ⟨hW, a0, a1, a2, a3, a4, a5, a6, a7, (hW.cell (p := ⟨b, pO, none⟩) hb).trans hp⟩

set_option maxHeartbeats 4000000 in
set_option maxRecDepth 100000 in
theorem rfMay_any (A : Option Addr) (c : Nat) (l : List Att) (hn : l.length ≤ 35184372088832) (hO : ∀ x ∈ l, x.Ok) (w : World) (ha : AttsAt w w.heap.size A l) :
    Calls Try.prog 48 #[.slice A l.length c] w fun e w' => e = .returned (.int .i64 (checkedV l)) ∧ Below w.heap.size w w' := by
  have H := Lib.hid (fun w' (h : Below w.heap.size w w') => ha.keep h (Nat.le_refl _))
  have HOK := Lib.hid hO
  clear ha hO
  go_enter Try.func48, Try.ntmps48
  go_wp2_with fail
  go_loopw [3, 4] (fun v i wr => ∃ (k : Nat) (left : Int), i = .int .i64 k ∧ v = .int .i64 left ∧ k ≤ l.length ∧ 0 ≤ left ∧ left ≤ 1048576 ∧ Hid (left = 1048576 - totalSize (l.take k)) ∧ Hid (Below w.heap.size w wr)) (fun _ i _ => l.length - (intOf i).toNat)
  case atStart => exact ⟨0, 1048576, rfl, rfl, by omega, by omega, by omega, Lib.hid (by simp [totalSize]), Lib.hid (Below.refl _ _)⟩
  case round =>
    obtain ⟨k, left, rfl, rfl, hk, h1, h2, h3, hW⟩ := hrel
    by_cases hlt : k < l.length
    · obtain ⟨b, off, rfl, _, hc⟩ := (H.out _ hW.out).row (by rintro rfl; simp at hlt)
      have hx := List.getElem?_eq_getElem hlt
      obtain ⟨c0, c1, c2, c3, c4, c5, c6, c7⟩ := hc k _ hx
      have hl := (HOK.out _ (List.getElem_mem hlt)).len
      have h4 := Lib.hid (totalSize_take l k hlt)
      clear hc hx
      generalize l[k] = x at *
      obtain ⟨th, kd, bg, en, ck, pl, wt, dA, dc, evs⟩ := x
      dsimp only at *
      generalize hm : evs.length = m at *
      have h5 : Hid (left - 1 - (m : Int) = 1048576 - (totalSize (l.take (k + 1)) : Int)) := Lib.hid (by have h6 := h4.out; have h7 := h3.out; omega)
      have q1 : (k : Int) < (l.length : Int) := by omega
      have q2 : (0 : Int) ≤ (k : Int) := Int.natCast_nonneg _
      have r1 : IntKind.i64.wrap (left - 1) = left - 1 := by rw [IntKind.wrap_i64]; omega
      have r2 : IntKind.i64.wrap (left - 1 - (m : Int)) = left - 1 - (m : Int) := by rw [IntKind.wrap_i64]; omega
      clear hm h4
      by_cases hneg : left - 1 - (m : Int) < 0
      · have F : Hid ((3 : Int) = checkedV l) := Lib.hid (by
          have h6 := h5.out
          have h7 := totalSize_take_le l (k + 1)
          unfold checkedV
          rw [if_pos (by omega)])
        have t1 : decide (left - 1 - (m : Int) < 0) = true := by simp; omega
        clear h3 h5
        go_wp2_with fail
        go_ret
        exact ⟨ret_int F.out, hW.out⟩
      · have t1 : decide (left - 1 - (m : Int) < 0) = false := by simp; omega
        clear h3
        go_wp2_with fail
        go_roundw
        case rel => exact ⟨k + 1, _, by go_num, rfl, by omega, by omega, by omega, h5, hW⟩
        case measure => simp [intOf]; omega
    · have h5 : Hid (¬ 1048576 < totalSize l) := Lib.hid (by
        have h6 := h3.out
        rw [List.take_of_length_le (by omega)] at h6
        omega)
      have h6 : Hid (checkedV l = if okFrom none l then 0 else 15) := Lib.hid (by unfold checkedV; rw [if_neg h5.out])
      clear h3 h5
      go_wp2_with fail
      obtain ⟨wo, rfl⟩ : ∃ wo : World, wo = wr := ⟨_, rfl⟩
      go_loopw [5] (fun i wr => ∃ (k : Nat), i = .int .i64 k ∧ k ≤ l.length ∧ Hid (okFrom none l = okFrom (prevB l k) (l.drop k)) ∧ Hid (Below w.heap.size w wr)) (fun i _ => l.length - (intOf i).toNat)
      case atStart => exact ⟨0, rfl, by omega, Lib.hid rfl, hW⟩
      case round =>
        clear hW
        obtain ⟨k, rfl, hk, h3, hW⟩ := hrel
        by_cases hlt : k < l.length
        · obtain ⟨b, off, rfl, hbl, hc⟩ := (H.out _ hW.out).row (by rintro rfl; simp at hlt)
          have hx := List.getElem?_eq_getElem hlt
          have HCX := Lib.hid (hc k _ hx)
          have HO := Lib.hid (HOK.out _ (List.getElem_mem hlt))
          have hl := HO.out.len
          have h4 := Lib.hid (okFrom_step hlt)
          have HEV := Lib.hid (fun W (h : Below w.heap.size w W) => (H.out W h).evs _ (List.getElem_mem hlt))
          have hbg : Hid (∀ j (h : j < l.length), j + 1 = k → wr.cell? ⟨b, off + j * 8 + 2, none⟩ = some (.int .i64 l[j].bg)) := Lib.hid (fun j h _ => (hc j _ (List.getElem?_eq_getElem h)).c2)
          clear hc hx
          generalize l[k] = x at *
          obtain ⟨th, kd, bg, en, ck, pl, wt, dA, dc, evs⟩ := x
          dsimp only at *
          have HW2 := Lib.hid (fun W (h : Below wr.heap.size wr W) => hW.out.trans (h.mono hW.out.size))
          have HE := Lib.hid (fun W h => HEV.out W (HW2.out W h))
          have HZ := Lib.hid (fun W h => (HW2.out W h).size)
          have hk9 : (0 : Int) ≤ (k : Int) := Int.natCast_nonneg _
          have q1 : (k : Int) < (l.length : Int) := by omega
          cases hat : attB ⟨th, kd, bg, en, ck, pl, wt, dA, dc, evs⟩
          · have F : Hid ((15 : Int) = checkedV l) := Lib.hid (by rw [h6.out, h3.out, h4.out, hat]; simp)
            have HS := Lib.hid (rmS_of HCX.out HCX.out.c2)
            have HAT := Lib.hid hat
            clear h3 h4 h6 hat
            go_wp2_with fail
            refine wp_region_L (l := 23) (S := (RmS wr b (off + k * 8) th kd bg en ck pl wt dA evs.length dc (off + k * 8 + 2) bg)) (by kernel_rfl) ?_ (fun hHeld => ?_)
            · ((try dsimp only); (exact HS.out _ (Below.refl _ _).drew))
            refine wpAnyL_take (i := 0) (oi := _) (v := ?v1) rfl (by kernel_rfl) (fun _ _ _ h => h) (by assumption) (Or.inl ⟨by kernel_rfl, ?y1⟩) ?r1
            case y1 => (intro w hSw; (try dsimp only at hSw); go_simp; all_goals with_reducible rfl)
            try simp only [Act.put, List.setIfInBounds_toArray, List.set_cons_zero, List.set_cons_succ]
            refine wpAnyL_take (i := 1) (oi := _) (v := ?v2) rfl (by kernel_rfl) (fun _ _ _ h => h) (by assumption) (Or.inl ⟨by kernel_rfl, ?y2⟩) ?r2
            case y2 => (intro w hSw; (try dsimp only at hSw); go_simp; all_goals with_reducible rfl)
            try simp only [Act.put, List.setIfInBounds_toArray, List.set_cons_zero, List.set_cons_succ]
            refine wpAnyL_take (i := 2) (oi := _) (v := ?v3) rfl (by kernel_rfl) (fun _ _ _ h => h) (by assumption) (Or.inl ⟨by kernel_rfl, ?y3⟩) ?r3
            case y3 => (intro w hSw; (try dsimp only at hSw); go_simp; all_goals with_reducible rfl)
            try simp only [Act.put, List.setIfInBounds_toArray, List.set_cons_zero, List.set_cons_succ]
            refine wpAnyL_take (i := 3) (oi := _) (v := ?v4) rfl (by kernel_rfl) (fun _ _ _ h => h) (by assumption) (Or.inl ⟨by kernel_rfl, ?y4⟩) ?r4
            case y4 => (intro w hSw; (try dsimp only at hSw); go_simp; all_goals with_reducible rfl)
            try simp only [Act.put, List.setIfInBounds_toArray, List.set_cons_zero, List.set_cons_succ]
            refine wpAnyL_step (j := 4) (o := _) (by kernel_rfl) rfl (fun K hK => ?_)
            (go_simp; go_at_call 65; refine (rfAttempt_any th kd bg en ck pl wt dA dc evs w.heap.size HO.out _ (HE.out _ hHeld.1) (HZ.out _ hHeld.1)).mono ?_; rintro e w1 ⟨rfl, hb1⟩; rw [HAT.out])
            refine hK _ _ ?_ (fun hHeld => ?_)
            · ((try dsimp only); (exact HS.out _ (hHeld.1.trans (hb1.mono hHeld.1.size))))
            clear hK K
            try simp only [Act.put, List.setIfInBounds_toArray, List.set_cons_zero, List.set_cons_succ]
            refine wpAnyL_take (i := 5) (oi := _) (v := ?v6) rfl (by kernel_rfl) (fun _ _ _ h => h) (by assumption) (Or.inl ⟨by kernel_rfl, ?y6⟩) ?r6
            case y6 => (intro w hSw; (try dsimp only at hSw); go_simp; all_goals with_reducible rfl)
            try simp only [Act.put, List.setIfInBounds_toArray, List.set_cons_zero, List.set_cons_succ]
            refine wpAnyL_take (i := 6) (oi := _) (v := ?v7) rfl (by kernel_rfl) (fun _ _ _ h => h) (by assumption) (Or.inl ⟨by kernel_rfl, ?y7⟩) ?r7
            case y7 => (intro w hSw; (try dsimp only at hSw); go_simp; all_goals with_reducible rfl)
            try simp only [Act.put, List.setIfInBounds_toArray, List.set_cons_zero, List.set_cons_succ]
            refine wpAnyL_take (i := 7) (oi := _) (v := undef) rfl (by kernel_rfl) (fun _ _ _ h => h) (by assumption) (Or.inr ⟨by kernel_rfl, rfl⟩) ?_
            try simp only [Act.put, List.setIfInBounds_toArray, List.set_cons_zero, List.set_cons_succ]
            refine wpAnyL_take (i := 8) (oi := _) (v := undef) rfl (by kernel_rfl) (fun _ _ _ h => h) (by assumption) (Or.inr ⟨by kernel_rfl, rfl⟩) ?_
            try simp only [Act.put, List.setIfInBounds_toArray, List.set_cons_zero, List.set_cons_succ]
            refine wpAnyL_take (i := 9) (oi := _) (v := undef) rfl (by kernel_rfl) (fun _ _ _ h => h) (by assumption) (Or.inr ⟨by kernel_rfl, rfl⟩) ?_
            try simp only [Act.put, List.setIfInBounds_toArray, List.set_cons_zero, List.set_cons_succ]
            refine wpAnyL_take (i := 10) (oi := _) (v := undef) rfl (by kernel_rfl) (fun _ _ _ h => h) (by assumption) (Or.inr ⟨by kernel_rfl, rfl⟩) ?_
            try simp only [Act.put, List.setIfInBounds_toArray, List.set_cons_zero, List.set_cons_succ]
            refine wpAnyL_take (i := 11) (oi := _) (v := undef) rfl (by kernel_rfl) (fun _ _ _ h => h) (by assumption) (Or.inr ⟨by kernel_rfl, rfl⟩) ?_
            try simp only [Act.put, List.setIfInBounds_toArray, List.set_cons_zero, List.set_cons_succ]
            refine wpAnyL_take (i := 12) (oi := _) (v := undef) rfl (by kernel_rfl) (fun _ _ _ h => h) (by assumption) (Or.inr ⟨by kernel_rfl, rfl⟩) ?_
            try simp only [Act.put, List.setIfInBounds_toArray, List.set_cons_zero, List.set_cons_succ]
            refine wpAnyL_take (i := 13) (oi := _) (v := undef) rfl (by kernel_rfl) (fun _ _ _ h => h) (by assumption) (Or.inr ⟨by kernel_rfl, rfl⟩) ?_
            try simp only [Act.put, List.setIfInBounds_toArray, List.set_cons_zero, List.set_cons_succ]
            refine wpAnyL_take (i := 14) (oi := _) (v := undef) rfl (by kernel_rfl) (fun _ _ _ h => h) (by assumption) (Or.inr ⟨by kernel_rfl, rfl⟩) ?_
            try simp only [Act.put, List.setIfInBounds_toArray, List.set_cons_zero, List.set_cons_succ]
            refine wpAnyL_take (i := 15) (oi := _) (v := undef) rfl (by kernel_rfl) (fun _ _ _ h => h) (by assumption) (Or.inr ⟨by kernel_rfl, rfl⟩) ?_
            try simp only [Act.put, List.setIfInBounds_toArray, List.set_cons_zero, List.set_cons_succ]
            refine wpAnyL_take (i := 16) (oi := _) (v := undef) rfl (by kernel_rfl) (fun _ _ _ h => h) (by assumption) (Or.inr ⟨by kernel_rfl, rfl⟩) ?_
            try simp only [Act.put, List.setIfInBounds_toArray, List.set_cons_zero, List.set_cons_succ]
            refine wpAnyL_take (i := 17) (oi := _) (v := undef) rfl (by kernel_rfl) (fun _ _ _ h => h) (by assumption) (Or.inr ⟨by kernel_rfl, rfl⟩) ?_
            try simp only [Act.put, List.setIfInBounds_toArray, List.set_cons_zero, List.set_cons_succ]
            refine wpAnyL_take (i := 18) (oi := _) (v := undef) rfl (by kernel_rfl) (fun _ _ _ h => h) (by assumption) (Or.inr ⟨by kernel_rfl, rfl⟩) ?_
            try simp only [Act.put, List.setIfInBounds_toArray, List.set_cons_zero, List.set_cons_succ]
            refine wpAnyL_take (i := 19) (oi := _) (v := undef) rfl (by kernel_rfl) (fun _ _ _ h => h) (by assumption) (Or.inr ⟨by kernel_rfl, rfl⟩) ?_
            try simp only [Act.put, List.setIfInBounds_toArray, List.set_cons_zero, List.set_cons_succ]
            refine wpAnyL_take (i := 20) (oi := _) (v := undef) rfl (by kernel_rfl) (fun _ _ _ h => h) (by assumption) (Or.inr ⟨by kernel_rfl, rfl⟩) ?_
            try simp only [Act.put, List.setIfInBounds_toArray, List.set_cons_zero, List.set_cons_succ]
            refine wpAnyL_take (i := 21) (oi := _) (v := undef) rfl (by kernel_rfl) (fun _ _ _ h => h) (by assumption) (Or.inr ⟨by kernel_rfl, rfl⟩) ?_
            try simp only [Act.put, List.setIfInBounds_toArray, List.set_cons_zero, List.set_cons_succ]
            refine wpAnyL_take (i := 22) (oi := _) (v := undef) rfl (by kernel_rfl) (fun _ _ _ h => h) (by assumption) (Or.inr ⟨by kernel_rfl, rfl⟩) ?_
            try simp only [Act.put, List.setIfInBounds_toArray, List.set_cons_zero, List.set_cons_succ]
            refine wpAnyL_last (j := 23) (o := _) (by kernel_rfl) rfl (by rfl) (by kernel_rfl) (fun K hK => ?_)
            go_simp
            (refine hK _ _ ?_; clear hK K)
            try simp only [Act.put, List.setIfInBounds_toArray, List.set_cons_zero, List.set_cons_succ]
            have HF := Lib.hid (HW2.out _ hHeld.1)
            clear hHeld
            go_wp2_with fail
            go_ret
            exact ⟨ret_int F.out, HF.out⟩
          · have HAT := Lib.hid hat
            by_cases hk0 : k = 0
            · have F : Hid (okFrom none l = okFrom (prevB l (k + 1)) (l.drop (k + 1))) := Lib.hid (by rw [h3.out, h4.out, hat, show prevB l k = none by rw [hk0]; rfl]; simp)
              have HS := Lib.hid (rmS_of HCX.out HCX.out.c2)
              have t1 : decide ((0 : Int) < (k : Int)) = false := by simp; omega
              have t1' : decide (0 < k) = false := by simp; omega
              clear h3 h4 hat hk0
              go_wp2_with fail
              refine wp_region_L (l := 23) (S := (RmS wr b (off + k * 8) th kd bg en ck pl wt dA evs.length dc (off + k * 8 + 2) bg)) (by kernel_rfl) ?_ (fun hHeld => ?_)
              · ((try dsimp only); (exact HS.out _ (Below.refl _ _).drew))
              refine wpAnyL_take (i := 0) (oi := _) (v := ?v25) rfl (by kernel_rfl) (fun _ _ _ h => h) (by assumption) (Or.inl ⟨by kernel_rfl, ?y25⟩) ?r25
              case y25 => (intro w hSw; (try dsimp only at hSw); go_simp; all_goals with_reducible rfl)
              try simp only [Act.put, List.setIfInBounds_toArray, List.set_cons_zero, List.set_cons_succ]
              refine wpAnyL_take (i := 1) (oi := _) (v := ?v26) rfl (by kernel_rfl) (fun _ _ _ h => h) (by assumption) (Or.inl ⟨by kernel_rfl, ?y26⟩) ?r26
              case y26 => (intro w hSw; (try dsimp only at hSw); go_simp; all_goals with_reducible rfl)
              try simp only [Act.put, List.setIfInBounds_toArray, List.set_cons_zero, List.set_cons_succ]
              refine wpAnyL_take (i := 2) (oi := _) (v := ?v27) rfl (by kernel_rfl) (fun _ _ _ h => h) (by assumption) (Or.inl ⟨by kernel_rfl, ?y27⟩) ?r27
              case y27 => (intro w hSw; (try dsimp only at hSw); go_simp; all_goals with_reducible rfl)
              try simp only [Act.put, List.setIfInBounds_toArray, List.set_cons_zero, List.set_cons_succ]
              refine wpAnyL_take (i := 3) (oi := _) (v := ?v28) rfl (by kernel_rfl) (fun _ _ _ h => h) (by assumption) (Or.inl ⟨by kernel_rfl, ?y28⟩) ?r28
              case y28 => (intro w hSw; (try dsimp only at hSw); go_simp; all_goals with_reducible rfl)
              try simp only [Act.put, List.setIfInBounds_toArray, List.set_cons_zero, List.set_cons_succ]
              refine wpAnyL_step (j := 4) (o := _) (by kernel_rfl) rfl (fun K hK => ?_)
              (go_simp; go_at_call 65; refine (rfAttempt_any th kd bg en ck pl wt dA dc evs w.heap.size HO.out _ (HE.out _ hHeld.1) (HZ.out _ hHeld.1)).mono ?_; rintro e w1 ⟨rfl, hb1⟩; rw [HAT.out])
              refine hK _ _ ?_ (fun hHeld => ?_)
              · ((try dsimp only); (exact HS.out _ (hHeld.1.trans (hb1.mono hHeld.1.size))))
              clear hK K
              try simp only [Act.put, List.setIfInBounds_toArray, List.set_cons_zero, List.set_cons_succ]
              refine wpAnyL_take (i := 5) (oi := _) (v := ?v30) rfl (by kernel_rfl) (fun _ _ _ h => h) (by assumption) (Or.inl ⟨by kernel_rfl, ?y30⟩) ?r30
              case y30 => (intro w hSw; (try dsimp only at hSw); go_simp; all_goals with_reducible rfl)
              try simp only [Act.put, List.setIfInBounds_toArray, List.set_cons_zero, List.set_cons_succ]
              refine wpAnyL_take (i := 6) (oi := _) (v := ?v31) rfl (by kernel_rfl) (fun _ _ _ h => h) (by assumption) (Or.inl ⟨by kernel_rfl, ?y31⟩) ?r31
              case y31 => (intro w hSw; (try dsimp only at hSw); go_simp; all_goals with_reducible rfl)
              try simp only [Act.put, List.setIfInBounds_toArray, List.set_cons_zero, List.set_cons_succ]
              refine wpAnyL_take (i := 7) (oi := _) (v := ?v32) rfl (by kernel_rfl) (fun _ _ _ h => h) (by assumption) (Or.inl ⟨by kernel_rfl, ?y32⟩) ?r32
              case y32 => (intro w hSw; (try dsimp only at hSw); go_simp; all_goals with_reducible rfl)
              try simp only [Act.put, List.setIfInBounds_toArray, List.set_cons_zero, List.set_cons_succ]
              refine wpAnyL_take (i := 8) (oi := _) (v := ?v33) rfl (by kernel_rfl) (fun _ _ _ h => h) (by assumption) (Or.inl ⟨by kernel_rfl, ?y33⟩) ?r33
              case y33 => (intro w hSw; (try dsimp only at hSw); go_simp; all_goals with_reducible rfl)
              try simp only [Act.put, List.setIfInBounds_toArray, List.set_cons_zero, List.set_cons_succ]
              refine wpAnyL_take (i := 9) (oi := _) (v := ?v34) rfl (by kernel_rfl) (fun _ _ _ h => h) (by assumption) (Or.inl ⟨by kernel_rfl, ?y34⟩) ?r34
              case y34 => (intro w hSw; (try dsimp only at hSw); go_simp; all_goals with_reducible rfl)
              try simp only [Act.put, List.setIfInBounds_toArray, List.set_cons_zero, List.set_cons_succ]
              refine wpAnyL_take (i := 10) (oi := _) (v := undef) rfl (by kernel_rfl) (fun _ _ _ h => h) (by assumption) (Or.inr ⟨by kernel_rfl, rfl⟩) ?_
              try simp only [Act.put, List.setIfInBounds_toArray, List.set_cons_zero, List.set_cons_succ]
              refine wpAnyL_take (i := 11) (oi := _) (v := undef) rfl (by kernel_rfl) (fun _ _ _ h => h) (by assumption) (Or.inr ⟨by kernel_rfl, rfl⟩) ?_
              try simp only [Act.put, List.setIfInBounds_toArray, List.set_cons_zero, List.set_cons_succ]
              refine wpAnyL_take (i := 12) (oi := _) (v := undef) rfl (by kernel_rfl) (fun _ _ _ h => h) (by assumption) (Or.inr ⟨by kernel_rfl, rfl⟩) ?_
              try simp only [Act.put, List.setIfInBounds_toArray, List.set_cons_zero, List.set_cons_succ]
              refine wpAnyL_take (i := 13) (oi := _) (v := undef) rfl (by kernel_rfl) (fun _ _ _ h => h) (by assumption) (Or.inr ⟨by kernel_rfl, rfl⟩) ?_
              try simp only [Act.put, List.setIfInBounds_toArray, List.set_cons_zero, List.set_cons_succ]
              refine wpAnyL_take (i := 14) (oi := _) (v := undef) rfl (by kernel_rfl) (fun _ _ _ h => h) (by assumption) (Or.inr ⟨by kernel_rfl, rfl⟩) ?_
              try simp only [Act.put, List.setIfInBounds_toArray, List.set_cons_zero, List.set_cons_succ]
              refine wpAnyL_take (i := 15) (oi := _) (v := undef) rfl (by kernel_rfl) (fun _ _ _ h => h) (by assumption) (Or.inr ⟨by kernel_rfl, rfl⟩) ?_
              try simp only [Act.put, List.setIfInBounds_toArray, List.set_cons_zero, List.set_cons_succ]
              refine wpAnyL_take (i := 16) (oi := _) (v := undef) rfl (by kernel_rfl) (fun _ _ _ h => h) (by assumption) (Or.inr ⟨by kernel_rfl, rfl⟩) ?_
              try simp only [Act.put, List.setIfInBounds_toArray, List.set_cons_zero, List.set_cons_succ]
              refine wpAnyL_take (i := 17) (oi := _) (v := undef) rfl (by kernel_rfl) (fun _ _ _ h => h) (by assumption) (Or.inr ⟨by kernel_rfl, rfl⟩) ?_
              try simp only [Act.put, List.setIfInBounds_toArray, List.set_cons_zero, List.set_cons_succ]
              refine wpAnyL_take (i := 18) (oi := _) (v := undef) rfl (by kernel_rfl) (fun _ _ _ h => h) (by assumption) (Or.inr ⟨by kernel_rfl, rfl⟩) ?_
              try simp only [Act.put, List.setIfInBounds_toArray, List.set_cons_zero, List.set_cons_succ]
              refine wpAnyL_take (i := 19) (oi := _) (v := undef) rfl (by kernel_rfl) (fun _ _ _ h => h) (by assumption) (Or.inr ⟨by kernel_rfl, rfl⟩) ?_
              try simp only [Act.put, List.setIfInBounds_toArray, List.set_cons_zero, List.set_cons_succ]
              refine wpAnyL_take (i := 20) (oi := _) (v := undef) rfl (by kernel_rfl) (fun _ _ _ h => h) (by assumption) (Or.inr ⟨by kernel_rfl, rfl⟩) ?_
              try simp only [Act.put, List.setIfInBounds_toArray, List.set_cons_zero, List.set_cons_succ]
              refine wpAnyL_take (i := 21) (oi := _) (v := undef) rfl (by kernel_rfl) (fun _ _ _ h => h) (by assumption) (Or.inr ⟨by kernel_rfl, rfl⟩) ?_
              try simp only [Act.put, List.setIfInBounds_toArray, List.set_cons_zero, List.set_cons_succ]
              refine wpAnyL_take (i := 22) (oi := _) (v := ?v47) rfl (by kernel_rfl) (fun _ _ _ h => h) (by assumption) (Or.inl ⟨by kernel_rfl, ?y47⟩) ?r47
              case y47 => (intro w hSw; (try dsimp only at hSw); go_simp; all_goals with_reducible rfl)
              try simp only [Act.put, List.setIfInBounds_toArray, List.set_cons_zero, List.set_cons_succ]
              refine wpAnyL_last (j := 23) (o := _) (by kernel_rfl) rfl (by rfl) (by kernel_rfl) (fun K hK => ?_)
              go_simp
              (refine hK _ _ ?_; clear hK K)
              try simp only [Act.put, List.setIfInBounds_toArray, List.set_cons_zero, List.set_cons_succ]
              have HF := Lib.hid (HW2.out _ hHeld.1)
              clear hHeld
              go_wp2_with fail
              go_roundw
              case rel => exact ⟨k + 1, by go_num, by omega, F, HF⟩
              case measure => simp [intOf]; omega
            · obtain ⟨q, hq⟩ : ∃ q, q + 1 = k := ⟨k - 1, by omega⟩
              have hql : q < l.length := by omega
              have HP := hbg.out q hql hq
              have HPV : Hid (prevB l k = some l[q].bg) := Lib.hid (by rw [← hq]; simp [prevB, hql])
              generalize l[q].bg = pv at *
              have HS := Lib.hid (rmS_of HCX.out HP)
              have t1 : decide ((0 : Int) < (k : Int)) = true := by simp; omega
              have t1' : decide (0 < k) = true := by simp; omega
              have t1b : 0 < k := by omega
              have q1 : (k : Int) - 1 = (q : Int) := by omega
              have q2 : (q : Int) < (l.length : Int) := by omega
              have q3 : IntKind.i64.wrap (q : Int) = (q : Int) := by rw [IntKind.wrap_i64]; omega
              have hkl : k < l.length := hlt
              clear HP hq
              by_cases hpv : pv < bg
              · have F : Hid (okFrom none l = okFrom (prevB l (k + 1)) (l.drop (k + 1))) := Lib.hid (by rw [h3.out, h4.out, hat, HPV.out]; simp [hpv])
                have t2 : decide (bg ≤ pv) = false := by simp; omega
                clear h3 h4 hat
                go_wp2_with fail
                refine wp_region_L (l := 23) (S := (RmS wr b (off + k * 8) th kd bg en ck pl wt dA evs.length dc (off + q * 8 + 2) pv)) (by kernel_rfl) ?_ (fun hHeld => ?_)
                · ((try dsimp only); (exact HS.out _ (Below.refl _ _).drew))
                refine wpAnyL_take (i := 0) (oi := _) (v := ?v49) rfl (by kernel_rfl) (fun _ _ _ h => h) (by assumption) (Or.inl ⟨by kernel_rfl, ?y49⟩) ?r49
                case y49 => (intro w hSw; (try dsimp only at hSw); go_simp; all_goals with_reducible rfl)
                try simp only [Act.put, List.setIfInBounds_toArray, List.set_cons_zero, List.set_cons_succ]
                refine wpAnyL_take (i := 1) (oi := _) (v := ?v50) rfl (by kernel_rfl) (fun _ _ _ h => h) (by assumption) (Or.inl ⟨by kernel_rfl, ?y50⟩) ?r50
                case y50 => (intro w hSw; (try dsimp only at hSw); go_simp; all_goals with_reducible rfl)
                try simp only [Act.put, List.setIfInBounds_toArray, List.set_cons_zero, List.set_cons_succ]
                refine wpAnyL_take (i := 2) (oi := _) (v := ?v51) rfl (by kernel_rfl) (fun _ _ _ h => h) (by assumption) (Or.inl ⟨by kernel_rfl, ?y51⟩) ?r51
                case y51 => (intro w hSw; (try dsimp only at hSw); go_simp; all_goals with_reducible rfl)
                try simp only [Act.put, List.setIfInBounds_toArray, List.set_cons_zero, List.set_cons_succ]
                refine wpAnyL_take (i := 3) (oi := _) (v := ?v52) rfl (by kernel_rfl) (fun _ _ _ h => h) (by assumption) (Or.inl ⟨by kernel_rfl, ?y52⟩) ?r52
                case y52 => (intro w hSw; (try dsimp only at hSw); go_simp; all_goals with_reducible rfl)
                try simp only [Act.put, List.setIfInBounds_toArray, List.set_cons_zero, List.set_cons_succ]
                refine wpAnyL_step (j := 4) (o := _) (by kernel_rfl) rfl (fun K hK => ?_)
                (go_simp; go_at_call 65; refine (rfAttempt_any th kd bg en ck pl wt dA dc evs w.heap.size HO.out _ (HE.out _ hHeld.1) (HZ.out _ hHeld.1)).mono ?_; rintro e w1 ⟨rfl, hb1⟩; rw [HAT.out])
                refine hK _ _ ?_ (fun hHeld => ?_)
                · ((try dsimp only); (exact HS.out _ (hHeld.1.trans (hb1.mono hHeld.1.size))))
                clear hK K
                try simp only [Act.put, List.setIfInBounds_toArray, List.set_cons_zero, List.set_cons_succ]
                refine wpAnyL_take (i := 5) (oi := _) (v := ?v54) rfl (by kernel_rfl) (fun _ _ _ h => h) (by assumption) (Or.inl ⟨by kernel_rfl, ?y54⟩) ?r54
                case y54 => (intro w hSw; (try dsimp only at hSw); go_simp; all_goals with_reducible rfl)
                try simp only [Act.put, List.setIfInBounds_toArray, List.set_cons_zero, List.set_cons_succ]
                refine wpAnyL_take (i := 6) (oi := _) (v := ?v55) rfl (by kernel_rfl) (fun _ _ _ h => h) (by assumption) (Or.inl ⟨by kernel_rfl, ?y55⟩) ?r55
                case y55 => (intro w hSw; (try dsimp only at hSw); go_simp; all_goals with_reducible rfl)
                try simp only [Act.put, List.setIfInBounds_toArray, List.set_cons_zero, List.set_cons_succ]
                refine wpAnyL_take (i := 7) (oi := _) (v := ?v56) rfl (by kernel_rfl) (fun _ _ _ h => h) (by assumption) (Or.inl ⟨by kernel_rfl, ?y56⟩) ?r56
                case y56 => (intro w hSw; (try dsimp only at hSw); go_simp; all_goals with_reducible rfl)
                try simp only [Act.put, List.setIfInBounds_toArray, List.set_cons_zero, List.set_cons_succ]
                refine wpAnyL_take (i := 8) (oi := _) (v := ?v57) rfl (by kernel_rfl) (fun _ _ _ h => h) (by assumption) (Or.inl ⟨by kernel_rfl, ?y57⟩) ?r57
                case y57 => (intro w hSw; (try dsimp only at hSw); go_simp; all_goals with_reducible rfl)
                try simp only [Act.put, List.setIfInBounds_toArray, List.set_cons_zero, List.set_cons_succ]
                refine wpAnyL_take (i := 9) (oi := _) (v := ?v58) rfl (by kernel_rfl) (fun _ _ _ h => h) (by assumption) (Or.inl ⟨by kernel_rfl, ?y58⟩) ?r58
                case y58 => (intro w hSw; (try dsimp only at hSw); go_simp; all_goals with_reducible rfl)
                try simp only [Act.put, List.setIfInBounds_toArray, List.set_cons_zero, List.set_cons_succ]
                refine wpAnyL_take (i := 10) (oi := _) (v := ?v59) rfl (by kernel_rfl) (fun _ _ _ h => h) (by assumption) (Or.inl ⟨by kernel_rfl, ?y59⟩) ?r59
                case y59 => (intro w hSw; (try dsimp only at hSw); go_simp; all_goals with_reducible rfl)
                try simp only [Act.put, List.setIfInBounds_toArray, List.set_cons_zero, List.set_cons_succ]
                refine wpAnyL_take (i := 11) (oi := _) (v := ?v60) rfl (by kernel_rfl) (fun _ _ _ h => h) (by assumption) (Or.inl ⟨by kernel_rfl, ?y60⟩) ?r60
                case y60 => (intro w hSw; (try dsimp only at hSw); go_simp; all_goals with_reducible rfl)
                try simp only [Act.put, List.setIfInBounds_toArray, List.set_cons_zero, List.set_cons_succ]
                refine wpAnyL_take (i := 12) (oi := _) (v := ?v61) rfl (by kernel_rfl) (fun _ _ _ h => h) (by assumption) (Or.inl ⟨by kernel_rfl, ?y61⟩) ?r61
                case y61 => (intro w hSw; (try dsimp only at hSw); go_simp; all_goals with_reducible rfl)
                try simp only [Act.put, List.setIfInBounds_toArray, List.set_cons_zero, List.set_cons_succ]
                refine wpAnyL_take (i := 13) (oi := _) (v := ?v62) rfl (by kernel_rfl) (fun _ _ _ h => h) (by assumption) (Or.inl ⟨by kernel_rfl, ?y62⟩) ?r62
                case y62 => (intro w hSw; (try dsimp only at hSw); go_simp; all_goals with_reducible rfl)
                try simp only [Act.put, List.setIfInBounds_toArray, List.set_cons_zero, List.set_cons_succ]
                refine wpAnyL_take (i := 14) (oi := _) (v := ?v63) rfl (by kernel_rfl) (fun _ _ _ h => h) (by assumption) (Or.inl ⟨by kernel_rfl, ?y63⟩) ?r63
                case y63 => (intro w hSw; (try dsimp only at hSw); go_simp; all_goals with_reducible rfl)
                try simp only [Act.put, List.setIfInBounds_toArray, List.set_cons_zero, List.set_cons_succ]
                refine wpAnyL_take (i := 15) (oi := _) (v := ?v64) rfl (by kernel_rfl) (fun _ _ _ h => h) (by assumption) (Or.inl ⟨by kernel_rfl, ?y64⟩) ?r64
                case y64 => (intro w hSw; (try dsimp only at hSw); go_simp; all_goals with_reducible rfl)
                try simp only [Act.put, List.setIfInBounds_toArray, List.set_cons_zero, List.set_cons_succ]
                refine wpAnyL_take (i := 16) (oi := _) (v := ?v65) rfl (by kernel_rfl) (fun _ _ _ h => h) (by assumption) (Or.inl ⟨by kernel_rfl, ?y65⟩) ?r65
                case y65 => (intro w hSw; (try dsimp only at hSw); go_simp; all_goals with_reducible rfl)
                try simp only [Act.put, List.setIfInBounds_toArray, List.set_cons_zero, List.set_cons_succ]
                refine wpAnyL_take (i := 17) (oi := _) (v := ?v66) rfl (by kernel_rfl) (fun _ _ _ h => h) (by assumption) (Or.inl ⟨by kernel_rfl, ?y66⟩) ?r66
                case y66 => (intro w hSw; (try dsimp only at hSw); go_simp; all_goals with_reducible rfl)
                try simp only [Act.put, List.setIfInBounds_toArray, List.set_cons_zero, List.set_cons_succ]
                refine wpAnyL_take (i := 18) (oi := _) (v := ?v67) rfl (by kernel_rfl) (fun _ _ _ h => h) (by assumption) (Or.inl ⟨by kernel_rfl, ?y67⟩) ?r67
                case y67 => (intro w hSw; (try dsimp only at hSw); go_simp; all_goals with_reducible rfl)
                try simp only [Act.put, List.setIfInBounds_toArray, List.set_cons_zero, List.set_cons_succ]
                refine wpAnyL_take (i := 19) (oi := _) (v := ?v68) rfl (by kernel_rfl) (fun _ _ _ h => h) (by assumption) (Or.inl ⟨by kernel_rfl, ?y68⟩) ?r68
                case y68 => (intro w hSw; (try dsimp only at hSw); go_simp; all_goals with_reducible rfl)
                try simp only [Act.put, List.setIfInBounds_toArray, List.set_cons_zero, List.set_cons_succ]
                refine wpAnyL_take (i := 20) (oi := _) (v := ?v69) rfl (by kernel_rfl) (fun _ _ _ h => h) (by assumption) (Or.inl ⟨by kernel_rfl, ?y69⟩) ?r69
                case y69 => (intro w hSw; (try dsimp only at hSw); go_simp; all_goals with_reducible rfl)
                try simp only [Act.put, List.setIfInBounds_toArray, List.set_cons_zero, List.set_cons_succ]
                refine wpAnyL_take (i := 21) (oi := _) (v := ?v70) rfl (by kernel_rfl) (fun _ _ _ h => h) (by assumption) (Or.inl ⟨by kernel_rfl, ?y70⟩) ?r70
                case y70 => (intro w hSw; (try dsimp only at hSw); go_simp; all_goals with_reducible rfl)
                try simp only [Act.put, List.setIfInBounds_toArray, List.set_cons_zero, List.set_cons_succ]
                refine wpAnyL_take (i := 22) (oi := _) (v := ?v71) rfl (by kernel_rfl) (fun _ _ _ h => h) (by assumption) (Or.inl ⟨by kernel_rfl, ?y71⟩) ?r71
                case y71 => (intro w hSw; (try dsimp only at hSw); go_simp; all_goals with_reducible rfl)
                try simp only [Act.put, List.setIfInBounds_toArray, List.set_cons_zero, List.set_cons_succ]
                refine wpAnyL_last (j := 23) (o := _) (by kernel_rfl) rfl (by rfl) (by kernel_rfl) (fun K hK => ?_)
                go_simp
                (refine hK _ _ ?_; clear hK K)
                try simp only [Act.put, List.setIfInBounds_toArray, List.set_cons_zero, List.set_cons_succ]
                have HF := Lib.hid (HW2.out _ hHeld.1)
                clear hHeld
                go_wp2_with fail
                go_roundw
                case rel => exact ⟨k + 1, by go_num, by omega, F, HF⟩
                case measure => simp [intOf]; omega
              · have F : Hid ((15 : Int) = checkedV l) := Lib.hid (by rw [h6.out, h3.out, h4.out, hat, HPV.out]; simp [hpv])
                have t2 : decide (bg ≤ pv) = true := by simp; omega
                clear h3 h4 h6 hat
                go_wp2_with fail
                refine wp_region_L (l := 23) (S := (RmS wr b (off + k * 8) th kd bg en ck pl wt dA evs.length dc (off + q * 8 + 2) pv)) (by kernel_rfl) ?_ (fun hHeld => ?_)
                · ((try dsimp only); (exact HS.out _ (Below.refl _ _).drew))
                refine wpAnyL_take (i := 0) (oi := _) (v := ?v73) rfl (by kernel_rfl) (fun _ _ _ h => h) (by assumption) (Or.inl ⟨by kernel_rfl, ?y73⟩) ?r73
                case y73 => (intro w hSw; (try dsimp only at hSw); go_simp; all_goals with_reducible rfl)
                try simp only [Act.put, List.setIfInBounds_toArray, List.set_cons_zero, List.set_cons_succ]
                refine wpAnyL_take (i := 1) (oi := _) (v := ?v74) rfl (by kernel_rfl) (fun _ _ _ h => h) (by assumption) (Or.inl ⟨by kernel_rfl, ?y74⟩) ?r74
                case y74 => (intro w hSw; (try dsimp only at hSw); go_simp; all_goals with_reducible rfl)
                try simp only [Act.put, List.setIfInBounds_toArray, List.set_cons_zero, List.set_cons_succ]
                refine wpAnyL_take (i := 2) (oi := _) (v := ?v75) rfl (by kernel_rfl) (fun _ _ _ h => h) (by assumption) (Or.inl ⟨by kernel_rfl, ?y75⟩) ?r75
                case y75 => (intro w hSw; (try dsimp only at hSw); go_simp; all_goals with_reducible rfl)
                try simp only [Act.put, List.setIfInBounds_toArray, List.set_cons_zero, List.set_cons_succ]
                refine wpAnyL_take (i := 3) (oi := _) (v := ?v76) rfl (by kernel_rfl) (fun _ _ _ h => h) (by assumption) (Or.inl ⟨by kernel_rfl, ?y76⟩) ?r76
                case y76 => (intro w hSw; (try dsimp only at hSw); go_simp; all_goals with_reducible rfl)
                try simp only [Act.put, List.setIfInBounds_toArray, List.set_cons_zero, List.set_cons_succ]
                refine wpAnyL_step (j := 4) (o := _) (by kernel_rfl) rfl (fun K hK => ?_)
                (go_simp; go_at_call 65; refine (rfAttempt_any th kd bg en ck pl wt dA dc evs w.heap.size HO.out _ (HE.out _ hHeld.1) (HZ.out _ hHeld.1)).mono ?_; rintro e w1 ⟨rfl, hb1⟩; rw [HAT.out])
                refine hK _ _ ?_ (fun hHeld => ?_)
                · ((try dsimp only); (exact HS.out _ (hHeld.1.trans (hb1.mono hHeld.1.size))))
                clear hK K
                try simp only [Act.put, List.setIfInBounds_toArray, List.set_cons_zero, List.set_cons_succ]
                refine wpAnyL_take (i := 5) (oi := _) (v := ?v78) rfl (by kernel_rfl) (fun _ _ _ h => h) (by assumption) (Or.inl ⟨by kernel_rfl, ?y78⟩) ?r78
                case y78 => (intro w hSw; (try dsimp only at hSw); go_simp; all_goals with_reducible rfl)
                try simp only [Act.put, List.setIfInBounds_toArray, List.set_cons_zero, List.set_cons_succ]
                refine wpAnyL_take (i := 6) (oi := _) (v := ?v79) rfl (by kernel_rfl) (fun _ _ _ h => h) (by assumption) (Or.inl ⟨by kernel_rfl, ?y79⟩) ?r79
                case y79 => (intro w hSw; (try dsimp only at hSw); go_simp; all_goals with_reducible rfl)
                try simp only [Act.put, List.setIfInBounds_toArray, List.set_cons_zero, List.set_cons_succ]
                refine wpAnyL_take (i := 7) (oi := _) (v := ?v80) rfl (by kernel_rfl) (fun _ _ _ h => h) (by assumption) (Or.inl ⟨by kernel_rfl, ?y80⟩) ?r80
                case y80 => (intro w hSw; (try dsimp only at hSw); go_simp; all_goals with_reducible rfl)
                try simp only [Act.put, List.setIfInBounds_toArray, List.set_cons_zero, List.set_cons_succ]
                refine wpAnyL_take (i := 8) (oi := _) (v := ?v81) rfl (by kernel_rfl) (fun _ _ _ h => h) (by assumption) (Or.inl ⟨by kernel_rfl, ?y81⟩) ?r81
                case y81 => (intro w hSw; (try dsimp only at hSw); go_simp; all_goals with_reducible rfl)
                try simp only [Act.put, List.setIfInBounds_toArray, List.set_cons_zero, List.set_cons_succ]
                refine wpAnyL_take (i := 9) (oi := _) (v := ?v82) rfl (by kernel_rfl) (fun _ _ _ h => h) (by assumption) (Or.inl ⟨by kernel_rfl, ?y82⟩) ?r82
                case y82 => (intro w hSw; (try dsimp only at hSw); go_simp; all_goals with_reducible rfl)
                try simp only [Act.put, List.setIfInBounds_toArray, List.set_cons_zero, List.set_cons_succ]
                refine wpAnyL_take (i := 10) (oi := _) (v := ?v83) rfl (by kernel_rfl) (fun _ _ _ h => h) (by assumption) (Or.inl ⟨by kernel_rfl, ?y83⟩) ?r83
                case y83 => (intro w hSw; (try dsimp only at hSw); go_simp; all_goals with_reducible rfl)
                try simp only [Act.put, List.setIfInBounds_toArray, List.set_cons_zero, List.set_cons_succ]
                refine wpAnyL_take (i := 11) (oi := _) (v := ?v84) rfl (by kernel_rfl) (fun _ _ _ h => h) (by assumption) (Or.inl ⟨by kernel_rfl, ?y84⟩) ?r84
                case y84 => (intro w hSw; (try dsimp only at hSw); go_simp; all_goals with_reducible rfl)
                try simp only [Act.put, List.setIfInBounds_toArray, List.set_cons_zero, List.set_cons_succ]
                refine wpAnyL_take (i := 12) (oi := _) (v := ?v85) rfl (by kernel_rfl) (fun _ _ _ h => h) (by assumption) (Or.inl ⟨by kernel_rfl, ?y85⟩) ?r85
                case y85 => (intro w hSw; (try dsimp only at hSw); go_simp; all_goals with_reducible rfl)
                try simp only [Act.put, List.setIfInBounds_toArray, List.set_cons_zero, List.set_cons_succ]
                refine wpAnyL_take (i := 13) (oi := _) (v := ?v86) rfl (by kernel_rfl) (fun _ _ _ h => h) (by assumption) (Or.inl ⟨by kernel_rfl, ?y86⟩) ?r86
                case y86 => (intro w hSw; (try dsimp only at hSw); go_simp; all_goals with_reducible rfl)
                try simp only [Act.put, List.setIfInBounds_toArray, List.set_cons_zero, List.set_cons_succ]
                refine wpAnyL_take (i := 14) (oi := _) (v := ?v87) rfl (by kernel_rfl) (fun _ _ _ h => h) (by assumption) (Or.inl ⟨by kernel_rfl, ?y87⟩) ?r87
                case y87 => (intro w hSw; (try dsimp only at hSw); go_simp; all_goals with_reducible rfl)
                try simp only [Act.put, List.setIfInBounds_toArray, List.set_cons_zero, List.set_cons_succ]
                refine wpAnyL_take (i := 15) (oi := _) (v := ?v88) rfl (by kernel_rfl) (fun _ _ _ h => h) (by assumption) (Or.inl ⟨by kernel_rfl, ?y88⟩) ?r88
                case y88 => (intro w hSw; (try dsimp only at hSw); go_simp; all_goals with_reducible rfl)
                try simp only [Act.put, List.setIfInBounds_toArray, List.set_cons_zero, List.set_cons_succ]
                refine wpAnyL_take (i := 16) (oi := _) (v := ?v89) rfl (by kernel_rfl) (fun _ _ _ h => h) (by assumption) (Or.inl ⟨by kernel_rfl, ?y89⟩) ?r89
                case y89 => (intro w hSw; (try dsimp only at hSw); go_simp; all_goals with_reducible rfl)
                try simp only [Act.put, List.setIfInBounds_toArray, List.set_cons_zero, List.set_cons_succ]
                refine wpAnyL_take (i := 17) (oi := _) (v := ?v90) rfl (by kernel_rfl) (fun _ _ _ h => h) (by assumption) (Or.inl ⟨by kernel_rfl, ?y90⟩) ?r90
                case y90 => (intro w hSw; (try dsimp only at hSw); go_simp; all_goals with_reducible rfl)
                try simp only [Act.put, List.setIfInBounds_toArray, List.set_cons_zero, List.set_cons_succ]
                refine wpAnyL_take (i := 18) (oi := _) (v := ?v91) rfl (by kernel_rfl) (fun _ _ _ h => h) (by assumption) (Or.inl ⟨by kernel_rfl, ?y91⟩) ?r91
                case y91 => (intro w hSw; (try dsimp only at hSw); go_simp; all_goals with_reducible rfl)
                try simp only [Act.put, List.setIfInBounds_toArray, List.set_cons_zero, List.set_cons_succ]
                refine wpAnyL_take (i := 19) (oi := _) (v := ?v92) rfl (by kernel_rfl) (fun _ _ _ h => h) (by assumption) (Or.inl ⟨by kernel_rfl, ?y92⟩) ?r92
                case y92 => (intro w hSw; (try dsimp only at hSw); go_simp; all_goals with_reducible rfl)
                try simp only [Act.put, List.setIfInBounds_toArray, List.set_cons_zero, List.set_cons_succ]
                refine wpAnyL_take (i := 20) (oi := _) (v := ?v93) rfl (by kernel_rfl) (fun _ _ _ h => h) (by assumption) (Or.inl ⟨by kernel_rfl, ?y93⟩) ?r93
                case y93 => (intro w hSw; (try dsimp only at hSw); go_simp; all_goals with_reducible rfl)
                try simp only [Act.put, List.setIfInBounds_toArray, List.set_cons_zero, List.set_cons_succ]
                refine wpAnyL_take (i := 21) (oi := _) (v := ?v94) rfl (by kernel_rfl) (fun _ _ _ h => h) (by assumption) (Or.inl ⟨by kernel_rfl, ?y94⟩) ?r94
                case y94 => (intro w hSw; (try dsimp only at hSw); go_simp; all_goals with_reducible rfl)
                try simp only [Act.put, List.setIfInBounds_toArray, List.set_cons_zero, List.set_cons_succ]
                refine wpAnyL_take (i := 22) (oi := _) (v := ?v95) rfl (by kernel_rfl) (fun _ _ _ h => h) (by assumption) (Or.inl ⟨by kernel_rfl, ?y95⟩) ?r95
                case y95 => (intro w hSw; (try dsimp only at hSw); go_simp; all_goals with_reducible rfl)
                try simp only [Act.put, List.setIfInBounds_toArray, List.set_cons_zero, List.set_cons_succ]
                refine wpAnyL_last (j := 23) (o := _) (by kernel_rfl) rfl (by rfl) (by kernel_rfl) (fun K hK => ?_)
                go_simp
                (refine hK _ _ ?_; clear hK K)
                try simp only [Act.put, List.setIfInBounds_toArray, List.set_cons_zero, List.set_cons_succ]
                have HF := Lib.hid (HW2.out _ hHeld.1)
                clear hHeld
                go_wp2_with fail
                go_ret
                exact ⟨ret_int F.out, HF.out⟩
        · have F : Hid (checkedV l = 0) := Lib.hid (by rw [h6.out, h3.out, List.drop_eq_nil_of_le (by omega)]; rfl)
          clear h3 h6
          go_wp2_with fail
          go_ret
          exact ⟨ret_int F.out.symm, hW.out⟩
end Go.Proofs.Ytjaegddnikkibaa
