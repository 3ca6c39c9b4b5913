/-
  serial.Checked walked.
-/
import Derived.Test.YtjaegddnikkibaaGreatDoorMayTwo
set_option linter.unusedVariables false
set_option linter.unusedSimpArgs false
namespace Go.Proofs.YtjaegddnikkibaaGreatDoor
open Go.RowKit Go.Sort

theorem totalSize_take : ∀ (l : List Att) (k : Nat) (h : k < l.length), totalSize (l.take (k + 1)) = totalSize (l.take k) + 1 + l[k].evs.length
  | x :: r, 0, _ => by simp [totalSize]
  | x :: r, k + 1, h => by
    have := totalSize_take r k (by simpa using h)
    simp only [List.take_succ_cons, totalSize, List.getElem_cons_succ]
    omega
theorem totalSize_take_le : ∀ (l : List Att) (k : Nat), totalSize (l.take k) ≤ totalSize l
  | [], k => by simp
  | x :: r, 0 => by simp [totalSize]
  | x :: r, k + 1 => by
    have := totalSize_take_le r k
    simp only [List.take_succ_cons, totalSize]
    omega
def prevB (l : List Att) (k : Nat) : Option Int := match k with | 0 => none | k + 1 => (l[k]?).map (·.bg)
theorem okFrom_step {l : List Att} {k : Nat} (h : k < l.length) : okFrom (prevB l k) (l.drop k) = (attB l[k] && (match prevB l k with | none => true | some b => decide (b < l[k].bg)) && okFrom (prevB l (k + 1)) (l.drop (k + 1))) := by
  rw [List.drop_eq_getElem_cons h]
  show (attB l[k] && (match prevB l k with | none => true | some b => decide (b < l[k].bg)) && okFrom (some l[k].bg) (l.drop (k + 1))) = _
  rw [show prevB l (k + 1) = some l[k].bg by simp [prevB, h]]

/-- the cells that the test reads -/
abbrev ChkS (w0 : World) (X : Nat) (th kd bg en ck pl : Int) (wt : Bool) (dA : Option Addr) (n dc : Nat) (pB pO : Nat) (pv : Int) (w' : World) : Prop :=
  Below w0.heap.size w0 w' ∧ w'.cell? ⟨X, 0, none⟩ = some (.int .i64 th) ∧ w'.cell? ⟨X, 1, none⟩ = some (.int .u8 kd) ∧ w'.cell? ⟨X, 2, none⟩ = some (.int .i64 bg) ∧ w'.cell? ⟨X, 3, none⟩ = some (.int .i64 en) ∧ w'.cell? ⟨X, 4, none⟩ = some (.int .i64 ck) ∧
  w'.cell? ⟨X, 5, none⟩ = some (.int .i64 pl) ∧ w'.cell? ⟨X, 6, none⟩ = some (.bool wt) ∧ w'.cell? ⟨X, 7, none⟩ = some (.slice dA n dc) ∧ w'.cell? ⟨pB, pO, none⟩ = some (.int .i64 pv)
theorem chkS_of {wr : World} {th kd bg en ck pl : Int} {wt : Bool} {dA : Option Addr} {n dc pB pO : Nat} {pv : Int} {o : Obj} (ho : o = .cells #[.int .i64 th, .int .u8 kd, .int .i64 bg, .int .i64 en, .int .i64 ck, .int .i64 pl, .bool wt, .slice dA n dc] 74 (0, 0))
    (hp : (wr.alloc o).cell? ⟨pB, pO, none⟩ = some (.int .i64 pv)) (w' : World) (h : Below (wr.alloc o).heap.size (wr.alloc o) w') : ChkS (wr.alloc o) wr.heap.size th kd bg en ck pl wt dA n dc pB pO pv w' := by
  subst ho
  have hX : wr.heap.size < (wr.alloc (.cells #[.int .i64 th, .int .u8 kd, .int .i64 bg, .int .i64 en, .int .i64 ck, .int .i64 pl, .bool wt, .slice dA n dc] 74 (0, 0))).heap.size := by simp
  refine ⟨h, ?_, ?_, ?_, ?_, ?_, ?_, ?_, ?_, (h.cell (p := ⟨pB, pO, none⟩) (World.block_lt_of_cell? _ _ hp)).trans hp⟩ <;> exact (h.cell (p := ⟨wr.heap.size, _, none⟩) hX).trans (by simp)

set_option maxHeartbeats 4000000 in
set_option maxRecDepth 100000 in
theorem checked_any (A : Option Addr) (c : Nat) (l : List Att) (hn : l.length ≤ 35184372088832) (hO : ∀ x ∈ l, x.Ok) (w : World) (ha : AttsAt w w.heap.size A l) :
    Calls Tryz.prog 23 #[.slice A l.length c] w fun e w' => e = .returned (.int .i64 (checkedV l)) ∧ Below w.heap.size w w' := by
  have H := Lib.hid (fun w' (h : Below w.heap.size w w') => ha.keep h (Nat.le_refl _))
  have HOK := Lib.hid hO
  clear ha hO
  go_enter Tryz.func23, Tryz.ntmps23
  go_wp2_with fail
  go_loopw [3, 10] (fun v i wr => ∃ (k : Nat) (left : Int), i = .int .i64 k ∧ v = .int .i64 left ∧ k ≤ l.length ∧ 0 ≤ left ∧ left ≤ 1048576 ∧ Hid (left = 1048576 - totalSize (l.take k)) ∧ Hid (Below w.heap.size w wr)) (fun _ i _ => l.length - (intOf i).toNat)
  case atStart => exact ⟨0, 1048576, rfl, rfl, by omega, by omega, by omega, Lib.hid (by simp [totalSize]), Lib.hid (Below.refl _ _)⟩
  case round =>
    obtain ⟨k, left, rfl, rfl, hk, h1, h2, h3, hW⟩ := hrel
    by_cases hlt : k < l.length
    · obtain ⟨b, off, rfl, _, hc⟩ := (H.out _ hW.out).row (by rintro rfl; simp at hlt)
      have hx := List.getElem?_eq_getElem hlt
      obtain ⟨c0, c1, c2, c3, c4, c5, c6, c7⟩ := hc k _ hx
      have hl := (HOK.out _ (List.getElem_mem hlt)).len
      have h4 := Lib.hid (totalSize_take l k hlt)
      have HB := Lib.hid (fun o => hW.out.alloc hW.out.size o)
      clear hc hx
      generalize l[k] = x at *
      obtain ⟨th, kd, bg, en, ck, pl, wt, dA, dc, evs⟩ := x
      dsimp only at *
      generalize hm : evs.length = m at *
      have h5 : Hid (left - (1 + (m : Int)) = 1048576 - (totalSize (l.take (k + 1)) : Int)) := Lib.hid (by have h6 := h4.out; have h7 := h3.out; omega)
      clear hm h4
      by_cases hneg : left < 1 + (m : Int)
      · have F : Hid ((3 : Int) = checkedV l) := Lib.hid (by
          have h6 := h5.out
          have h7 := totalSize_take_le l (k + 1)
          unfold checkedV
          rw [if_pos (by omega)])
        have t1 : decide (left - (1 + (m : Int)) < 0) = true := by simp; omega
        clear h3 h5
        go_wp2_with fail
        go_ret
        exact ⟨ret_int F.out, HB.out _⟩
      · have t1 : decide (left - (1 + (m : Int)) < 0) = false := by simp; omega
        clear h3
        go_wp2_with fail
        go_roundw
        case rel => exact ⟨k + 1, _, by go_num, rfl, by omega, by omega, by omega, h5, Lib.hid (HB.out _)⟩
        case measure => simp [intOf]; omega
    · have h5 : Hid (¬ 1048576 < totalSize l) := Lib.hid (by
        have h6 := h3.out
        rw [List.take_of_length_le (by omega)] at h6
        omega)
      have h6 : Hid (checkedV l = if okFrom none l then 0 else 15) := Lib.hid (by unfold checkedV; rw [if_neg h5.out])
      clear h3 h5
      go_wp2_with fail
      obtain ⟨wo, rfl⟩ : ∃ wo : World, wo = wr := ⟨_, rfl⟩
      go_loopw [25] (fun i wr => ∃ (k : Nat), i = .int .i64 k ∧ k ≤ l.length ∧ Hid (okFrom none l = okFrom (prevB l k) (l.drop k)) ∧ Hid (Below w.heap.size w wr)) (fun i _ => l.length - (intOf i).toNat)
      case atStart => exact ⟨0, rfl, by omega, Lib.hid rfl, hW⟩
      case round =>
        clear hW
        obtain ⟨k, rfl, hk, h3, hW⟩ := hrel
        by_cases hlt : k < l.length
        · obtain ⟨b, off, rfl, hbl, hc⟩ := (H.out _ hW.out).row (by rintro rfl; simp at hlt)
          have hx := List.getElem?_eq_getElem hlt
          obtain ⟨c0, c1, c2, c3, c4, c5, c6, c7⟩ := hc k _ hx
          have HO := Lib.hid (HOK.out _ (List.getElem_mem hlt))
          have hl := HO.out.len
          have h4 := Lib.hid (okFrom_step hlt)
          have HEV := Lib.hid (fun W (h : Below w.heap.size w W) => (H.out W h).evs _ (List.getElem_mem hlt))
          have hbg : Hid (∀ j (h : j < l.length), j + 1 = k → wr.cell? ⟨b, off + j * 8 + 2, none⟩ = some (.int .i64 l[j].bg)) := Lib.hid (fun j h _ => (hc j _ (List.getElem?_eq_getElem h)).c2)
          clear hc hx
          generalize l[k] = x at *
          obtain ⟨th, kd, bg, en, ck, pl, wt, dA, dc, evs⟩ := x
          dsimp only at *
          have HW2 := Lib.hid (fun W (h : Below (wr.alloc (.cells #[.int .i64 th, .int .u8 kd, .int .i64 bg, .int .i64 en, .int .i64 ck, .int .i64 pl, .bool wt, .slice dA evs.length dc] 74 (0, 0))).heap.size (wr.alloc (.cells #[.int .i64 th, .int .u8 kd, .int .i64 bg, .int .i64 en, .int .i64 ck, .int .i64 pl, .bool wt, .slice dA evs.length dc] 74 (0, 0))) W) => (hW.out.alloc hW.out.size _).trans (h.mono (hW.out.alloc hW.out.size _).size))
          have HE := Lib.hid (fun W h => HEV.out W (HW2.out W h))
          have HZ := Lib.hid (fun W h => (HW2.out W h).size)
          have hne : b ≠ wr.heap.size := by have := hW.out.size; omega
          have hk9 : (0 : Int) ≤ (k : Int) := Int.natCast_nonneg _
          cases hat : attB ⟨th, kd, bg, en, ck, pl, wt, dA, dc, evs⟩
          · have F : Hid ((15 : Int) = checkedV l) := Lib.hid (by rw [h6.out, h3.out, h4.out, hat]; simp)
            have HS := Lib.hid (chkS_of (wr := wr) (th := th) (kd := kd) (bg := bg) (en := en) (ck := ck) (pl := pl) (wt := wt) (dA := dA) (n := evs.length) (dc := dc) (pB := wr.heap.size) (pO := 2) (pv := bg) rfl (by simp))
            have HAT := Lib.hid hat
            clear h3 h4 h6 hat
            go_wp2_with fail
            refine wp_region_L (l := 17) (S := (ChkS (wr.alloc (.cells #[.int .i64 th, .int .u8 kd, .int .i64 bg, .int .i64 en, .int .i64 ck, .int .i64 pl, .bool wt, .slice dA evs.length dc] 74 (0, 0))) wr.heap.size th kd bg en ck pl wt dA evs.length dc wr.heap.size 2 bg)) (by kernel_rfl) ?_ (fun hHeld => ?_)
            · ((try dsimp only); (exact HS.out _ (Below.refl _ _).drew))
            refine wpAnyL_take (i := 0) (oi := _) (v := ?v1) rfl (by kernel_rfl) (fun _ _ _ h => h) (by assumption) (Or.inl ⟨by kernel_rfl, ?y1⟩) ?r1
            case y1 => (intro w hSw; (try dsimp only at hSw); go_simp; all_goals with_reducible rfl)
            try simp only [Act.put, List.setIfInBounds_toArray, List.set_cons_zero, List.set_cons_succ]
            refine wpAnyL_step (j := 1) (o := _) (by kernel_rfl) rfl (fun K hK => ?_)
            (go_simp; go_at_call 125; refine (may_any th kd bg en ck pl wt dA dc evs w.heap.size HO.out _ (HE.out _ hHeld.1) (HZ.out _ hHeld.1)).mono ?_; rintro e w1 ⟨rfl, hb1⟩; rw [HAT.out])
            refine hK _ _ ?_ (fun hHeld => ?_)
            · ((try dsimp only); (exact HS.out _ (hHeld.1.trans (hb1.mono hHeld.1.size))))
            clear hK K
            try simp only [Act.put, List.setIfInBounds_toArray, List.set_cons_zero, List.set_cons_succ]
            refine wpAnyL_take (i := 2) (oi := _) (v := ?v3) rfl (by kernel_rfl) (fun _ _ _ h => h) (by assumption) (Or.inl ⟨by kernel_rfl, ?y3⟩) ?r3
            case y3 => (intro w hSw; (try dsimp only at hSw); go_simp; all_goals with_reducible rfl)
            try simp only [Act.put, List.setIfInBounds_toArray, List.set_cons_zero, List.set_cons_succ]
            refine wpAnyL_take (i := 3) (oi := _) (v := ?v4) rfl (by kernel_rfl) (fun _ _ _ h => h) (by assumption) (Or.inl ⟨by kernel_rfl, ?y4⟩) ?r4
            case y4 => (intro w hSw; (try dsimp only at hSw); go_simp; all_goals with_reducible rfl)
            try simp only [Act.put, List.setIfInBounds_toArray, List.set_cons_zero, List.set_cons_succ]
            refine wpAnyL_take (i := 4) (oi := _) (v := undef) rfl (by kernel_rfl) (fun _ _ _ h => h) (by assumption) (Or.inr ⟨by kernel_rfl, rfl⟩) ?_
            try simp only [Act.put, List.setIfInBounds_toArray, List.set_cons_zero, List.set_cons_succ]
            refine wpAnyL_take (i := 5) (oi := _) (v := undef) rfl (by kernel_rfl) (fun _ _ _ h => h) (by assumption) (Or.inr ⟨by kernel_rfl, rfl⟩) ?_
            try simp only [Act.put, List.setIfInBounds_toArray, List.set_cons_zero, List.set_cons_succ]
            refine wpAnyL_take (i := 6) (oi := _) (v := undef) rfl (by kernel_rfl) (fun _ _ _ h => h) (by assumption) (Or.inr ⟨by kernel_rfl, rfl⟩) ?_
            try simp only [Act.put, List.setIfInBounds_toArray, List.set_cons_zero, List.set_cons_succ]
            refine wpAnyL_take (i := 7) (oi := _) (v := undef) rfl (by kernel_rfl) (fun _ _ _ h => h) (by assumption) (Or.inr ⟨by kernel_rfl, rfl⟩) ?_
            try simp only [Act.put, List.setIfInBounds_toArray, List.set_cons_zero, List.set_cons_succ]
            refine wpAnyL_take (i := 8) (oi := _) (v := undef) rfl (by kernel_rfl) (fun _ _ _ h => h) (by assumption) (Or.inr ⟨by kernel_rfl, rfl⟩) ?_
            try simp only [Act.put, List.setIfInBounds_toArray, List.set_cons_zero, List.set_cons_succ]
            refine wpAnyL_take (i := 9) (oi := _) (v := undef) rfl (by kernel_rfl) (fun _ _ _ h => h) (by assumption) (Or.inr ⟨by kernel_rfl, rfl⟩) ?_
            try simp only [Act.put, List.setIfInBounds_toArray, List.set_cons_zero, List.set_cons_succ]
            refine wpAnyL_take (i := 10) (oi := _) (v := undef) rfl (by kernel_rfl) (fun _ _ _ h => h) (by assumption) (Or.inr ⟨by kernel_rfl, rfl⟩) ?_
            try simp only [Act.put, List.setIfInBounds_toArray, List.set_cons_zero, List.set_cons_succ]
            refine wpAnyL_take (i := 11) (oi := _) (v := undef) rfl (by kernel_rfl) (fun _ _ _ h => h) (by assumption) (Or.inr ⟨by kernel_rfl, rfl⟩) ?_
            try simp only [Act.put, List.setIfInBounds_toArray, List.set_cons_zero, List.set_cons_succ]
            refine wpAnyL_take (i := 12) (oi := _) (v := undef) rfl (by kernel_rfl) (fun _ _ _ h => h) (by assumption) (Or.inr ⟨by kernel_rfl, rfl⟩) ?_
            try simp only [Act.put, List.setIfInBounds_toArray, List.set_cons_zero, List.set_cons_succ]
            refine wpAnyL_take (i := 13) (oi := _) (v := undef) rfl (by kernel_rfl) (fun _ _ _ h => h) (by assumption) (Or.inr ⟨by kernel_rfl, rfl⟩) ?_
            try simp only [Act.put, List.setIfInBounds_toArray, List.set_cons_zero, List.set_cons_succ]
            refine wpAnyL_take (i := 14) (oi := _) (v := undef) rfl (by kernel_rfl) (fun _ _ _ h => h) (by assumption) (Or.inr ⟨by kernel_rfl, rfl⟩) ?_
            try simp only [Act.put, List.setIfInBounds_toArray, List.set_cons_zero, List.set_cons_succ]
            refine wpAnyL_take (i := 15) (oi := _) (v := undef) rfl (by kernel_rfl) (fun _ _ _ h => h) (by assumption) (Or.inr ⟨by kernel_rfl, rfl⟩) ?_
            try simp only [Act.put, List.setIfInBounds_toArray, List.set_cons_zero, List.set_cons_succ]
            refine wpAnyL_take (i := 16) (oi := _) (v := undef) rfl (by kernel_rfl) (fun _ _ _ h => h) (by assumption) (Or.inr ⟨by kernel_rfl, rfl⟩) ?_
            try simp only [Act.put, List.setIfInBounds_toArray, List.set_cons_zero, List.set_cons_succ]
            refine wpAnyL_last (j := 17) (o := _) (by kernel_rfl) rfl (by rfl) (by kernel_rfl) (fun K hK => ?_)
            go_simp
            (refine hK _ _ ?_; clear hK K)
            try simp only [Act.put, List.setIfInBounds_toArray, List.set_cons_zero, List.set_cons_succ]
            have HF := Lib.hid (HW2.out _ hHeld.1)
            clear hHeld
            go_wp2_with fail
            go_ret
            exact ⟨ret_int F.out, HF.out⟩
          · have HAT := Lib.hid hat
            by_cases hk0 : k = 0
            · have F : Hid (okFrom none l = okFrom (prevB l (k + 1)) (l.drop (k + 1))) := Lib.hid (by rw [h3.out, h4.out, hat, show prevB l k = none by rw [hk0]; rfl]; simp)
              have HS := Lib.hid (chkS_of (wr := wr) (th := th) (kd := kd) (bg := bg) (en := en) (ck := ck) (pl := pl) (wt := wt) (dA := dA) (n := evs.length) (dc := dc) (pB := wr.heap.size) (pO := 2) (pv := bg) rfl (by simp))
              have t1 : decide ((0 : Int) < (k : Int)) = false := by simp; omega
              have t1' : decide (0 < k) = false := by simp; omega
              clear h3 h4 hat hk0
              go_wp2_with fail
              refine wp_region_L (l := 17) (S := (ChkS (wr.alloc (.cells #[.int .i64 th, .int .u8 kd, .int .i64 bg, .int .i64 en, .int .i64 ck, .int .i64 pl, .bool wt, .slice dA evs.length dc] 74 (0, 0))) wr.heap.size th kd bg en ck pl wt dA evs.length dc wr.heap.size 2 bg)) (by kernel_rfl) ?_ (fun hHeld => ?_)
              · ((try dsimp only); (exact HS.out _ (Below.refl _ _).drew))
              refine wpAnyL_take (i := 0) (oi := _) (v := ?v19) rfl (by kernel_rfl) (fun _ _ _ h => h) (by assumption) (Or.inl ⟨by kernel_rfl, ?y19⟩) ?r19
              case y19 => (intro w hSw; (try dsimp only at hSw); go_simp; all_goals with_reducible rfl)
              try simp only [Act.put, List.setIfInBounds_toArray, List.set_cons_zero, List.set_cons_succ]
              refine wpAnyL_step (j := 1) (o := _) (by kernel_rfl) rfl (fun K hK => ?_)
              (go_simp; go_at_call 125; refine (may_any th kd bg en ck pl wt dA dc evs w.heap.size HO.out _ (HE.out _ hHeld.1) (HZ.out _ hHeld.1)).mono ?_; rintro e w1 ⟨rfl, hb1⟩; rw [HAT.out])
              refine hK _ _ ?_ (fun hHeld => ?_)
              · ((try dsimp only); (exact HS.out _ (hHeld.1.trans (hb1.mono hHeld.1.size))))
              clear hK K
              try simp only [Act.put, List.setIfInBounds_toArray, List.set_cons_zero, List.set_cons_succ]
              refine wpAnyL_take (i := 2) (oi := _) (v := ?v21) rfl (by kernel_rfl) (fun _ _ _ h => h) (by assumption) (Or.inl ⟨by kernel_rfl, ?y21⟩) ?r21
              case y21 => (intro w hSw; (try dsimp only at hSw); go_simp; all_goals with_reducible rfl)
              try simp only [Act.put, List.setIfInBounds_toArray, List.set_cons_zero, List.set_cons_succ]
              refine wpAnyL_take (i := 3) (oi := _) (v := ?v22) rfl (by kernel_rfl) (fun _ _ _ h => h) (by assumption) (Or.inl ⟨by kernel_rfl, ?y22⟩) ?r22
              case y22 => (intro w hSw; (try dsimp only at hSw); go_simp; all_goals with_reducible rfl)
              try simp only [Act.put, List.setIfInBounds_toArray, List.set_cons_zero, List.set_cons_succ]
              refine wpAnyL_take (i := 4) (oi := _) (v := ?v23) rfl (by kernel_rfl) (fun _ _ _ h => h) (by assumption) (Or.inl ⟨by kernel_rfl, ?y23⟩) ?r23
              case y23 => (intro w hSw; (try dsimp only at hSw); go_simp; all_goals with_reducible rfl)
              try simp only [Act.put, List.setIfInBounds_toArray, List.set_cons_zero, List.set_cons_succ]
              refine wpAnyL_take (i := 5) (oi := _) (v := ?v24) rfl (by kernel_rfl) (fun _ _ _ h => h) (by assumption) (Or.inl ⟨by kernel_rfl, ?y24⟩) ?r24
              case y24 => (intro w hSw; (try dsimp only at hSw); go_simp; all_goals with_reducible rfl)
              try simp only [Act.put, List.setIfInBounds_toArray, List.set_cons_zero, List.set_cons_succ]
              refine wpAnyL_take (i := 6) (oi := _) (v := ?v25) rfl (by kernel_rfl) (fun _ _ _ h => h) (by assumption) (Or.inl ⟨by kernel_rfl, ?y25⟩) ?r25
              case y25 => (intro w hSw; (try dsimp only at hSw); go_simp; all_goals with_reducible rfl)
              try simp only [Act.put, List.setIfInBounds_toArray, List.set_cons_zero, List.set_cons_succ]
              refine wpAnyL_take (i := 7) (oi := _) (v := undef) rfl (by kernel_rfl) (fun _ _ _ h => h) (by assumption) (Or.inr ⟨by kernel_rfl, rfl⟩) ?_
              try simp only [Act.put, List.setIfInBounds_toArray, List.set_cons_zero, List.set_cons_succ]
              refine wpAnyL_take (i := 8) (oi := _) (v := undef) rfl (by kernel_rfl) (fun _ _ _ h => h) (by assumption) (Or.inr ⟨by kernel_rfl, rfl⟩) ?_
              try simp only [Act.put, List.setIfInBounds_toArray, List.set_cons_zero, List.set_cons_succ]
              refine wpAnyL_take (i := 9) (oi := _) (v := undef) rfl (by kernel_rfl) (fun _ _ _ h => h) (by assumption) (Or.inr ⟨by kernel_rfl, rfl⟩) ?_
              try simp only [Act.put, List.setIfInBounds_toArray, List.set_cons_zero, List.set_cons_succ]
              refine wpAnyL_take (i := 10) (oi := _) (v := undef) rfl (by kernel_rfl) (fun _ _ _ h => h) (by assumption) (Or.inr ⟨by kernel_rfl, rfl⟩) ?_
              try simp only [Act.put, List.setIfInBounds_toArray, List.set_cons_zero, List.set_cons_succ]
              refine wpAnyL_take (i := 11) (oi := _) (v := undef) rfl (by kernel_rfl) (fun _ _ _ h => h) (by assumption) (Or.inr ⟨by kernel_rfl, rfl⟩) ?_
              try simp only [Act.put, List.setIfInBounds_toArray, List.set_cons_zero, List.set_cons_succ]
              refine wpAnyL_take (i := 12) (oi := _) (v := undef) rfl (by kernel_rfl) (fun _ _ _ h => h) (by assumption) (Or.inr ⟨by kernel_rfl, rfl⟩) ?_
              try simp only [Act.put, List.setIfInBounds_toArray, List.set_cons_zero, List.set_cons_succ]
              refine wpAnyL_take (i := 13) (oi := _) (v := undef) rfl (by kernel_rfl) (fun _ _ _ h => h) (by assumption) (Or.inr ⟨by kernel_rfl, rfl⟩) ?_
              try simp only [Act.put, List.setIfInBounds_toArray, List.set_cons_zero, List.set_cons_succ]
              refine wpAnyL_take (i := 14) (oi := _) (v := undef) rfl (by kernel_rfl) (fun _ _ _ h => h) (by assumption) (Or.inr ⟨by kernel_rfl, rfl⟩) ?_
              try simp only [Act.put, List.setIfInBounds_toArray, List.set_cons_zero, List.set_cons_succ]
              refine wpAnyL_take (i := 15) (oi := _) (v := undef) rfl (by kernel_rfl) (fun _ _ _ h => h) (by assumption) (Or.inr ⟨by kernel_rfl, rfl⟩) ?_
              try simp only [Act.put, List.setIfInBounds_toArray, List.set_cons_zero, List.set_cons_succ]
              refine wpAnyL_take (i := 16) (oi := _) (v := ?v35) rfl (by kernel_rfl) (fun _ _ _ h => h) (by assumption) (Or.inl ⟨by kernel_rfl, ?y35⟩) ?r35
              case y35 => (intro w hSw; (try dsimp only at hSw); go_simp; all_goals with_reducible rfl)
              try simp only [Act.put, List.setIfInBounds_toArray, List.set_cons_zero, List.set_cons_succ]
              refine wpAnyL_last (j := 17) (o := _) (by kernel_rfl) rfl (by rfl) (by kernel_rfl) (fun K hK => ?_)
              go_simp
              (refine hK _ _ ?_; clear hK K)
              try simp only [Act.put, List.setIfInBounds_toArray, List.set_cons_zero, List.set_cons_succ]
              have HF := Lib.hid (HW2.out _ hHeld.1)
              clear hHeld
              go_wp2_with fail
              go_roundw
              case rel => exact ⟨k + 1, by go_num, by omega, F, HF⟩
              case measure => simp [intOf]; omega
            · obtain ⟨q, hq⟩ : ∃ q, q + 1 = k := ⟨k - 1, by omega⟩
              have hql : q < l.length := by omega
              have HP := hbg.out q hql hq
              have HPV : Hid (prevB l k = some l[q].bg) := Lib.hid (by rw [← hq]; simp [prevB, hql])
              generalize l[q].bg = pv at *
              have HS := Lib.hid (chkS_of (wr := wr) (th := th) (kd := kd) (bg := bg) (en := en) (ck := ck) (pl := pl) (wt := wt) (dA := dA) (n := evs.length) (dc := dc) (pB := b) (pO := off + q * 8 + 2) (pv := pv) rfl (by rw [World.cell?_alloc_old _ _ _ hne]; exact HP))
              have t1 : decide ((0 : Int) < (k : Int)) = true := by simp; omega
              have t1' : decide (0 < k) = true := by simp; omega
              have t1b : 0 < k := by omega
              have q1 : (k : Int) - 1 = (q : Int) := by omega
              have q2 : (q : Int) < (l.length : Int) := by omega
              have q3 : IntKind.i64.wrap (q : Int) = (q : Int) := by rw [IntKind.wrap_i64]; omega
              have hkl : k < l.length := hlt
              clear HP hq
              by_cases hpv : pv < bg
              · have F : Hid (okFrom none l = okFrom (prevB l (k + 1)) (l.drop (k + 1))) := Lib.hid (by rw [h3.out, h4.out, hat, HPV.out]; simp [hpv])
                have t2 : decide (bg ≤ pv) = false := by simp; omega
                clear h3 h4 hat
                go_wp2_with fail
                refine wp_region_L (l := 17) (S := (ChkS (wr.alloc (.cells #[.int .i64 th, .int .u8 kd, .int .i64 bg, .int .i64 en, .int .i64 ck, .int .i64 pl, .bool wt, .slice dA evs.length dc] 74 (0, 0))) wr.heap.size th kd bg en ck pl wt dA evs.length dc b (off + q * 8 + 2) pv)) (by kernel_rfl) ?_ (fun hHeld => ?_)
                · ((try dsimp only); (exact HS.out _ (Below.refl _ _).drew))
                refine wpAnyL_take (i := 0) (oi := _) (v := ?v37) rfl (by kernel_rfl) (fun _ _ _ h => h) (by assumption) (Or.inl ⟨by kernel_rfl, ?y37⟩) ?r37
                case y37 => (intro w hSw; (try dsimp only at hSw); go_simp; all_goals with_reducible rfl)
                try simp only [Act.put, List.setIfInBounds_toArray, List.set_cons_zero, List.set_cons_succ]
                refine wpAnyL_step (j := 1) (o := _) (by kernel_rfl) rfl (fun K hK => ?_)
                (go_simp; go_at_call 125; refine (may_any th kd bg en ck pl wt dA dc evs w.heap.size HO.out _ (HE.out _ hHeld.1) (HZ.out _ hHeld.1)).mono ?_; rintro e w1 ⟨rfl, hb1⟩; rw [HAT.out])
                refine hK _ _ ?_ (fun hHeld => ?_)
                · ((try dsimp only); (exact HS.out _ (hHeld.1.trans (hb1.mono hHeld.1.size))))
                clear hK K
                try simp only [Act.put, List.setIfInBounds_toArray, List.set_cons_zero, List.set_cons_succ]
                refine wpAnyL_take (i := 2) (oi := _) (v := ?v39) rfl (by kernel_rfl) (fun _ _ _ h => h) (by assumption) (Or.inl ⟨by kernel_rfl, ?y39⟩) ?r39
                case y39 => (intro w hSw; (try dsimp only at hSw); go_simp; all_goals with_reducible rfl)
                try simp only [Act.put, List.setIfInBounds_toArray, List.set_cons_zero, List.set_cons_succ]
                refine wpAnyL_take (i := 3) (oi := _) (v := ?v40) rfl (by kernel_rfl) (fun _ _ _ h => h) (by assumption) (Or.inl ⟨by kernel_rfl, ?y40⟩) ?r40
                case y40 => (intro w hSw; (try dsimp only at hSw); go_simp; all_goals with_reducible rfl)
                try simp only [Act.put, List.setIfInBounds_toArray, List.set_cons_zero, List.set_cons_succ]
                refine wpAnyL_take (i := 4) (oi := _) (v := ?v41) rfl (by kernel_rfl) (fun _ _ _ h => h) (by assumption) (Or.inl ⟨by kernel_rfl, ?y41⟩) ?r41
                case y41 => (intro w hSw; (try dsimp only at hSw); go_simp; all_goals with_reducible rfl)
                try simp only [Act.put, List.setIfInBounds_toArray, List.set_cons_zero, List.set_cons_succ]
                refine wpAnyL_take (i := 5) (oi := _) (v := ?v42) rfl (by kernel_rfl) (fun _ _ _ h => h) (by assumption) (Or.inl ⟨by kernel_rfl, ?y42⟩) ?r42
                case y42 => (intro w hSw; (try dsimp only at hSw); go_simp; all_goals with_reducible rfl)
                try simp only [Act.put, List.setIfInBounds_toArray, List.set_cons_zero, List.set_cons_succ]
                refine wpAnyL_take (i := 6) (oi := _) (v := ?v43) rfl (by kernel_rfl) (fun _ _ _ h => h) (by assumption) (Or.inl ⟨by kernel_rfl, ?y43⟩) ?r43
                case y43 => (intro w hSw; (try dsimp only at hSw); go_simp; all_goals with_reducible rfl)
                try simp only [Act.put, List.setIfInBounds_toArray, List.set_cons_zero, List.set_cons_succ]
                refine wpAnyL_take (i := 7) (oi := _) (v := ?v44) rfl (by kernel_rfl) (fun _ _ _ h => h) (by assumption) (Or.inl ⟨by kernel_rfl, ?y44⟩) ?r44
                case y44 => (intro w hSw; (try dsimp only at hSw); go_simp; all_goals with_reducible rfl)
                try simp only [Act.put, List.setIfInBounds_toArray, List.set_cons_zero, List.set_cons_succ]
                refine wpAnyL_take (i := 8) (oi := _) (v := ?v45) rfl (by kernel_rfl) (fun _ _ _ h => h) (by assumption) (Or.inl ⟨by kernel_rfl, ?y45⟩) ?r45
                case y45 => (intro w hSw; (try dsimp only at hSw); go_simp; all_goals with_reducible rfl)
                try simp only [Act.put, List.setIfInBounds_toArray, List.set_cons_zero, List.set_cons_succ]
                refine wpAnyL_take (i := 9) (oi := _) (v := ?v46) rfl (by kernel_rfl) (fun _ _ _ h => h) (by assumption) (Or.inl ⟨by kernel_rfl, ?y46⟩) ?r46
                case y46 => (intro w hSw; (try dsimp only at hSw); go_simp; all_goals with_reducible rfl)
                try simp only [Act.put, List.setIfInBounds_toArray, List.set_cons_zero, List.set_cons_succ]
                refine wpAnyL_take (i := 10) (oi := _) (v := ?v47) rfl (by kernel_rfl) (fun _ _ _ h => h) (by assumption) (Or.inl ⟨by kernel_rfl, ?y47⟩) ?r47
                case y47 => (intro w hSw; (try dsimp only at hSw); go_simp; all_goals with_reducible rfl)
                try simp only [Act.put, List.setIfInBounds_toArray, List.set_cons_zero, List.set_cons_succ]
                refine wpAnyL_take (i := 11) (oi := _) (v := ?v48) rfl (by kernel_rfl) (fun _ _ _ h => h) (by assumption) (Or.inl ⟨by kernel_rfl, ?y48⟩) ?r48
                case y48 => (intro w hSw; (try dsimp only at hSw); go_simp; all_goals with_reducible rfl)
                try simp only [Act.put, List.setIfInBounds_toArray, List.set_cons_zero, List.set_cons_succ]
                refine wpAnyL_take (i := 12) (oi := _) (v := ?v49) rfl (by kernel_rfl) (fun _ _ _ h => h) (by assumption) (Or.inl ⟨by kernel_rfl, ?y49⟩) ?r49
                case y49 => (intro w hSw; (try dsimp only at hSw); go_simp; all_goals with_reducible rfl)
                try simp only [Act.put, List.setIfInBounds_toArray, List.set_cons_zero, List.set_cons_succ]
                refine wpAnyL_take (i := 13) (oi := _) (v := ?v50) rfl (by kernel_rfl) (fun _ _ _ h => h) (by assumption) (Or.inl ⟨by kernel_rfl, ?y50⟩) ?r50
                case y50 => (intro w hSw; (try dsimp only at hSw); go_simp; all_goals with_reducible rfl)
                try simp only [Act.put, List.setIfInBounds_toArray, List.set_cons_zero, List.set_cons_succ]
                refine wpAnyL_take (i := 14) (oi := _) (v := ?v51) rfl (by kernel_rfl) (fun _ _ _ h => h) (by assumption) (Or.inl ⟨by kernel_rfl, ?y51⟩) ?r51
                case y51 => (intro w hSw; (try dsimp only at hSw); go_simp; all_goals with_reducible rfl)
                try simp only [Act.put, List.setIfInBounds_toArray, List.set_cons_zero, List.set_cons_succ]
                refine wpAnyL_take (i := 15) (oi := _) (v := ?v52) rfl (by kernel_rfl) (fun _ _ _ h => h) (by assumption) (Or.inl ⟨by kernel_rfl, ?y52⟩) ?r52
                case y52 => (intro w hSw; (try dsimp only at hSw); go_simp; all_goals with_reducible rfl)
                try simp only [Act.put, List.setIfInBounds_toArray, List.set_cons_zero, List.set_cons_succ]
                refine wpAnyL_take (i := 16) (oi := _) (v := ?v53) rfl (by kernel_rfl) (fun _ _ _ h => h) (by assumption) (Or.inl ⟨by kernel_rfl, ?y53⟩) ?r53
                case y53 => (intro w hSw; (try dsimp only at hSw); go_simp; all_goals with_reducible rfl)
                try simp only [Act.put, List.setIfInBounds_toArray, List.set_cons_zero, List.set_cons_succ]
                refine wpAnyL_last (j := 17) (o := _) (by kernel_rfl) rfl (by rfl) (by kernel_rfl) (fun K hK => ?_)
                go_simp
                (refine hK _ _ ?_; clear hK K)
                try simp only [Act.put, List.setIfInBounds_toArray, List.set_cons_zero, List.set_cons_succ]
                have HF := Lib.hid (HW2.out _ hHeld.1)
                clear hHeld
                go_wp2_with fail
                go_roundw
                case rel => exact ⟨k + 1, by go_num, by omega, F, HF⟩
                case measure => simp [intOf]; omega
              · have F : Hid ((15 : Int) = checkedV l) := Lib.hid (by rw [h6.out, h3.out, h4.out, hat, HPV.out]; simp [hpv])
                have t2 : decide (bg ≤ pv) = true := by simp; omega
                clear h3 h4 h6 hat
                go_wp2_with fail
                refine wp_region_L (l := 17) (S := (ChkS (wr.alloc (.cells #[.int .i64 th, .int .u8 kd, .int .i64 bg, .int .i64 en, .int .i64 ck, .int .i64 pl, .bool wt, .slice dA evs.length dc] 74 (0, 0))) wr.heap.size th kd bg en ck pl wt dA evs.length dc b (off + q * 8 + 2) pv)) (by kernel_rfl) ?_ (fun hHeld => ?_)
                · ((try dsimp only); (exact HS.out _ (Below.refl _ _).drew))
                refine wpAnyL_take (i := 0) (oi := _) (v := ?v55) rfl (by kernel_rfl) (fun _ _ _ h => h) (by assumption) (Or.inl ⟨by kernel_rfl, ?y55⟩) ?r55
                case y55 => (intro w hSw; (try dsimp only at hSw); go_simp; all_goals with_reducible rfl)
                try simp only [Act.put, List.setIfInBounds_toArray, List.set_cons_zero, List.set_cons_succ]
                refine wpAnyL_step (j := 1) (o := _) (by kernel_rfl) rfl (fun K hK => ?_)
                (go_simp; go_at_call 125; refine (may_any th kd bg en ck pl wt dA dc evs w.heap.size HO.out _ (HE.out _ hHeld.1) (HZ.out _ hHeld.1)).mono ?_; rintro e w1 ⟨rfl, hb1⟩; rw [HAT.out])
                refine hK _ _ ?_ (fun hHeld => ?_)
                · ((try dsimp only); (exact HS.out _ (hHeld.1.trans (hb1.mono hHeld.1.size))))
                clear hK K
                try simp only [Act.put, List.setIfInBounds_toArray, List.set_cons_zero, List.set_cons_succ]
                refine wpAnyL_take (i := 2) (oi := _) (v := ?v57) rfl (by kernel_rfl) (fun _ _ _ h => h) (by assumption) (Or.inl ⟨by kernel_rfl, ?y57⟩) ?r57
                case y57 => (intro w hSw; (try dsimp only at hSw); go_simp; all_goals with_reducible rfl)
                try simp only [Act.put, List.setIfInBounds_toArray, List.set_cons_zero, List.set_cons_succ]
                refine wpAnyL_take (i := 3) (oi := _) (v := ?v58) rfl (by kernel_rfl) (fun _ _ _ h => h) (by assumption) (Or.inl ⟨by kernel_rfl, ?y58⟩) ?r58
                case y58 => (intro w hSw; (try dsimp only at hSw); go_simp; all_goals with_reducible rfl)
                try simp only [Act.put, List.setIfInBounds_toArray, List.set_cons_zero, List.set_cons_succ]
                refine wpAnyL_take (i := 4) (oi := _) (v := ?v59) rfl (by kernel_rfl) (fun _ _ _ h => h) (by assumption) (Or.inl ⟨by kernel_rfl, ?y59⟩) ?r59
                case y59 => (intro w hSw; (try dsimp only at hSw); go_simp; all_goals with_reducible rfl)
                try simp only [Act.put, List.setIfInBounds_toArray, List.set_cons_zero, List.set_cons_succ]
                refine wpAnyL_take (i := 5) (oi := _) (v := ?v60) rfl (by kernel_rfl) (fun _ _ _ h => h) (by assumption) (Or.inl ⟨by kernel_rfl, ?y60⟩) ?r60
                case y60 => (intro w hSw; (try dsimp only at hSw); go_simp; all_goals with_reducible rfl)
                try simp only [Act.put, List.setIfInBounds_toArray, List.set_cons_zero, List.set_cons_succ]
                refine wpAnyL_take (i := 6) (oi := _) (v := ?v61) rfl (by kernel_rfl) (fun _ _ _ h => h) (by assumption) (Or.inl ⟨by kernel_rfl, ?y61⟩) ?r61
                case y61 => (intro w hSw; (try dsimp only at hSw); go_simp; all_goals with_reducible rfl)
                try simp only [Act.put, List.setIfInBounds_toArray, List.set_cons_zero, List.set_cons_succ]
                refine wpAnyL_take (i := 7) (oi := _) (v := ?v62) rfl (by kernel_rfl) (fun _ _ _ h => h) (by assumption) (Or.inl ⟨by kernel_rfl, ?y62⟩) ?r62
                case y62 => (intro w hSw; (try dsimp only at hSw); go_simp; all_goals with_reducible rfl)
                try simp only [Act.put, List.setIfInBounds_toArray, List.set_cons_zero, List.set_cons_succ]
                refine wpAnyL_take (i := 8) (oi := _) (v := ?v63) rfl (by kernel_rfl) (fun _ _ _ h => h) (by assumption) (Or.inl ⟨by kernel_rfl, ?y63⟩) ?r63
                case y63 => (intro w hSw; (try dsimp only at hSw); go_simp; all_goals with_reducible rfl)
                try simp only [Act.put, List.setIfInBounds_toArray, List.set_cons_zero, List.set_cons_succ]
                refine wpAnyL_take (i := 9) (oi := _) (v := ?v64) rfl (by kernel_rfl) (fun _ _ _ h => h) (by assumption) (Or.inl ⟨by kernel_rfl, ?y64⟩) ?r64
                case y64 => (intro w hSw; (try dsimp only at hSw); go_simp; all_goals with_reducible rfl)
                try simp only [Act.put, List.setIfInBounds_toArray, List.set_cons_zero, List.set_cons_succ]
                refine wpAnyL_take (i := 10) (oi := _) (v := ?v65) rfl (by kernel_rfl) (fun _ _ _ h => h) (by assumption) (Or.inl ⟨by kernel_rfl, ?y65⟩) ?r65
                case y65 => (intro w hSw; (try dsimp only at hSw); go_simp; all_goals with_reducible rfl)
                try simp only [Act.put, List.setIfInBounds_toArray, List.set_cons_zero, List.set_cons_succ]
                refine wpAnyL_take (i := 11) (oi := _) (v := ?v66) rfl (by kernel_rfl) (fun _ _ _ h => h) (by assumption) (Or.inl ⟨by kernel_rfl, ?y66⟩) ?r66
                case y66 => (intro w hSw; (try dsimp only at hSw); go_simp; all_goals with_reducible rfl)
                try simp only [Act.put, List.setIfInBounds_toArray, List.set_cons_zero, List.set_cons_succ]
                refine wpAnyL_take (i := 12) (oi := _) (v := ?v67) rfl (by kernel_rfl) (fun _ _ _ h => h) (by assumption) (Or.inl ⟨by kernel_rfl, ?y67⟩) ?r67
                case y67 => (intro w hSw; (try dsimp only at hSw); go_simp; all_goals with_reducible rfl)
                try simp only [Act.put, List.setIfInBounds_toArray, List.set_cons_zero, List.set_cons_succ]
                refine wpAnyL_take (i := 13) (oi := _) (v := ?v68) rfl (by kernel_rfl) (fun _ _ _ h => h) (by assumption) (Or.inl ⟨by kernel_rfl, ?y68⟩) ?r68
                case y68 => (intro w hSw; (try dsimp only at hSw); go_simp; all_goals with_reducible rfl)
                try simp only [Act.put, List.setIfInBounds_toArray, List.set_cons_zero, List.set_cons_succ]
                refine wpAnyL_take (i := 14) (oi := _) (v := ?v69) rfl (by kernel_rfl) (fun _ _ _ h => h) (by assumption) (Or.inl ⟨by kernel_rfl, ?y69⟩) ?r69
                case y69 => (intro w hSw; (try dsimp only at hSw); go_simp; all_goals with_reducible rfl)
                try simp only [Act.put, List.setIfInBounds_toArray, List.set_cons_zero, List.set_cons_succ]
                refine wpAnyL_take (i := 15) (oi := _) (v := ?v70) rfl (by kernel_rfl) (fun _ _ _ h => h) (by assumption) (Or.inl ⟨by kernel_rfl, ?y70⟩) ?r70
                case y70 => (intro w hSw; (try dsimp only at hSw); go_simp; all_goals with_reducible rfl)
                try simp only [Act.put, List.setIfInBounds_toArray, List.set_cons_zero, List.set_cons_succ]
                refine wpAnyL_take (i := 16) (oi := _) (v := ?v71) rfl (by kernel_rfl) (fun _ _ _ h => h) (by assumption) (Or.inl ⟨by kernel_rfl, ?y71⟩) ?r71
                case y71 => (intro w hSw; (try dsimp only at hSw); go_simp; all_goals with_reducible rfl)
                try simp only [Act.put, List.setIfInBounds_toArray, List.set_cons_zero, List.set_cons_succ]
                refine wpAnyL_last (j := 17) (o := _) (by kernel_rfl) rfl (by rfl) (by kernel_rfl) (fun K hK => ?_)
                go_simp
                (refine hK _ _ ?_; clear hK K)
                try simp only [Act.put, List.setIfInBounds_toArray, List.set_cons_zero, List.set_cons_succ]
                have HF := Lib.hid (HW2.out _ hHeld.1)
                clear hHeld
                go_wp2_with fail
                go_ret
                exact ⟨ret_int F.out, HF.out⟩
        · have F : Hid (checkedV l = 0) := Lib.hid (by rw [h6.out, h3.out, List.drop_eq_nil_of_le (by omega)]; rfl)
          clear h3 h6
          go_wp2_with fail
          go_ret
          exact ⟨ret_int F.out.symm, hW.out⟩
end Go.Proofs.YtjaegddnikkibaaGreatDoor
