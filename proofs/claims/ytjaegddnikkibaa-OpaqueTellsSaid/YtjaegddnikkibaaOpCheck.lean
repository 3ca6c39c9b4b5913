/-
  opaque.Check walked.
-/
import Derived.Test.YtjaegddnikkibaaWrites
import Derived.Test.YtjaegddnikkibaaOrder
set_option linter.unusedVariables false
set_option linter.unusedSimpArgs false
namespace Go.Proofs.Ytjaegddnikkibaa
open Go.RowKit Go.Sort Go.Maps

theorem evs_le_total : ∀ (l : List Att) (x : Att), x ∈ l → x.evs.length ≤ totalSize l
  | [], _, h => by cases h
  | y :: r, x, h => by
    unfold totalSize
    rcases List.mem_cons.1 h with rfl | h
    · omega
    · have := evs_le_total r x h; omega
theorem okFrom_all : ∀ (l : List Att) (p : Option Int), okFrom p l = true → ∀ x ∈ l, attB x = true
  | [], _, _, x, hx => by cases hx
  | y :: r, p, h, x, hx => by
    unfold okFrom at h
    simp only [Bool.and_eq_true] at h
    rcases List.mem_cons.1 hx with rfl | hx
    · exact h.1.1
    · exact okFrom_all r _ h.2 x hx
theorem checked_ok {l : List Att} (h : checkedV l = 0) : totalSize l ≤ 1048576 ∧ ∀ x ∈ l, attB x = true := by
  unfold checkedV at h
  split at h
  · cases h
  · split at h
    · rename_i h1 h2; exact ⟨by omega, okFrom_all l _ h2⟩
    · cases h
theorem attB_evs {x : Att} (h : attB x = true) : ∀ e ∈ x.evs, evB x.th e = true := by
  unfold attB at h
  simp only [Bool.and_eq_true] at h
  exact List.all_eq_true.1 h.2
theorem order_len (l : List Att) : (orderV l).length ≤ l.length := by
  have h := (sortB_perm (stB id (ltN l)) (committed 0 l)).length_eq
  have := committed_len l 0
  unfold orderV
  omega

theorem fresh_step {l : List Att} {o : List Int} {n : Int} {j : Nat} (hj : j < o.length) : freshV l (o.drop j) n = (!(decide ((attN l o[j]).en < (attN l n).bg) && decide ((attN l n).ck < (attN l o[j]).pl)) && freshV l (o.drop (j + 1)) n) := by
  rw [List.drop_eq_getElem_cons hj]; rfl
theorem firstNot_step {p : Int → Bool} {k m : Nat} : firstNot p k (m + 1) = if p (k : Int) then firstNot p (k + 1) m else some (k : Int) := rfl

/-- the cells that the last test reads -/
abbrev OpS (w0 : World) (X : Nat) (dA : Option Addr) (n dc : Nat) (w' : World) : Prop := Below w0.heap.size w0 w' ∧ w'.cell? ⟨X, 7, none⟩ = some (.slice dA n dc)

set_option maxHeartbeats 4000000 in
set_option maxRecDepth 100000 in
theorem ocheck_any (A : Option Addr) (c : Nat) (l : List Att) (hn : l.length ≤ 1048576) (hO : ∀ x ∈ l, x.Ok) (w : World) (ha : AttsAt w w.heap.size A l) :
    Calls Try.prog 17 #[.slice A l.length c] w fun e w' => e = .returned (.tuple #[.int .i64 (ocheckV l).1, .int .i64 (ocheckV l).2]) ∧ Below w.heap.size w w' := by
  have HC := Lib.hid (fun w1 (h : Below w.heap.size w w1) => order_any A c l hn hO w1 (ha.keep h h.size))
  have HA := Lib.hid (fun w1 (h : Below w.heap.size w w1) => ha.keep h (Nat.le_refl _))
  have HOK := Lib.hid hO
  clear ha hO
  by_cases hck : checkedV l = 0
  · obtain ⟨hts, hatt⟩ := checked_ok hck
    have HATT := Lib.hid (fun x (hx : x ∈ l) => attB_evs (hatt x hx))
    have HTL := Lib.hid (fun x hx => Nat.le_trans (evs_le_total l x hx) hts)
    have HOO : Hid (∀ x ∈ l, x.Ok ∧ ∀ e ∈ x.evs, evB x.th e = true) := Lib.hid (fun x hx => ⟨HOK.out x hx, HATT.out x hx⟩)
    have HV : Hid (ocheckV l = failV 17 (firstNot (seenB l) 0 l.length)) := Lib.hid (by unfold ocheckV; rw [if_pos hck])
    have HK := Lib.hid hck
    have hsum := Lib.hid (Nat.le_trans (evSum_order (l := l)) hts)
    have hol := Nat.le_trans (order_len l) hn
    have HR : Hid (∀ i ∈ orderV l, ∃ j : Nat, i = j ∧ j < l.length) := Lib.hid (fun i hi => by
      obtain ⟨j, hj, x, hx, -⟩ := orderV_mem hi
      exact ⟨j, hj, (List.getElem?_eq_some_iff.1 hx).1⟩)
    have HSEEN := Lib.hid (show ∀ n : Int, seenB l n = (freshV l (orderV l) n && okV (heapV l (orderV l) n) (attN l n).evs) from fun n => rfl)
    clear hatt hts hck
    generalize ocheckV l = res at *
    go_enter Try.func17, Try.ntmps17
    go_wp2_with fail
    refine (HC.out _ (Below.refl _ _)).mono ?_
    rintro e w1 ⟨hb1, ⟨hbad, -⟩ | ⟨-, OA, oc, rfl, hI⟩⟩
    · exact absurd HK.out hbad
    have HI := Lib.hid (fun W (h : Below w1.heap.size w1 W) => hI.keep h)
    have HB1 := Lib.hid hb1
    clear hI hb1
    generalize orderV l = o at *
    go_wp2_with fail
    go_loopw [19] (fun i wr => ∃ k : Nat, i = .int .i64 k ∧ k ≤ l.length ∧ Hid (res = failV 17 (firstNot (seenB l) k (l.length - k))) ∧ Hid (Below w1.heap.size w1 wr)) (fun i _ => l.length - (intOf i).toNat)
    case atStart => exact ⟨0, rfl, Nat.zero_le _, HV, Lib.hid (Below.refl _ _)⟩
    case round =>
      clear HV
      obtain ⟨k, rfl, hk, hV, hW⟩ := hrel
      have HW := Lib.hid (HB1.out.trans (hW.out.mono HB1.out.size))
      by_cases hlt : k < l.length
      · obtain ⟨b, off, rfl, hbl, hc⟩ := (HA.out _ HW.out).row (by rintro rfl; simp at hlt)
        obtain ⟨c0, c1, c2, c3, c4, c5, c6, c7⟩ := hc k _ (List.getElem?_eq_getElem hlt)
        have hkat := Lib.hid (attN_get hlt)
        have hev := Lib.hid (fun W (h : Below w.heap.size w W) => (HA.out _ h).evs _ (List.getElem_mem hlt))
        have hxl := HTL.out _ (List.getElem_mem hlt)
        have hel := Lib.hid (fun e he => (⟨(HOK.out _ (List.getElem_mem hlt)).evs e he, HATT.out _ (List.getElem_mem hlt) e he⟩ : e.Ok ∧ evB l[k].th e = true))
        have hst : Hid (firstNot (seenB l) k (l.length - k) = if seenB l (k : Int) then firstNot (seenB l) (k + 1) (l.length - (k + 1)) else some (k : Int)) := Lib.hid (by rw [show l.length - k = (l.length - (k + 1)) + 1 by omega]; rfl)
        clear hc
        generalize l[k] = x at *
        obtain ⟨th, kd, bg, en, ck, pl, wt, dA, dc, evs⟩ := x
        dsimp only at *
        obtain ⟨X, hX⟩ : ∃ X, wr.heap.size = X := ⟨_, rfl⟩
        obtain ⟨w0, hw0⟩ : ∃ w0, wr.alloc (.cells #[.int .i64 th, .int .u8 kd, .int .i64 bg, .int .i64 en, .int .i64 ck, .int .i64 pl, .bool wt, .slice dA evs.length dc] 35 (0, 0)) = w0 := ⟨_, rfl⟩
        have hXl : X < w0.heap.size := by rw [← hw0, ← hX]; simp
        have d2 : w0.cell? ⟨X, 2, none⟩ = some (.int .i64 bg) := by rw [← hw0, ← hX]; simp
        have d4 : w0.cell? ⟨X, 4, none⟩ = some (.int .i64 ck) := by rw [← hw0, ← hX]; simp
        have d7 : w0.cell? ⟨X, 7, none⟩ = some (.slice dA evs.length dc) := by rw [← hw0, ← hX]; simp
        have D := Lib.hid (fun W (h : Below w0.heap.size w0 W) => (⟨(h.cell (p := ⟨X, 2, none⟩) hXl).trans d2, (h.cell (p := ⟨X, 4, none⟩) hXl).trans d4, (h.cell (p := ⟨X, 7, none⟩) hXl).trans d7⟩ : W.cell? ⟨X, 2, none⟩ = some (.int .i64 bg) ∧ W.cell? ⟨X, 4, none⟩ = some (.int .i64 ck) ∧ W.cell? ⟨X, 7, none⟩ = some (.slice dA evs.length dc)))
        have HW0 : Hid (Below w.heap.size w w0) := Lib.hid (by rw [← hw0]; exact HW.out.alloc HW.out.size _)
        have HW10 : Hid (Below w1.heap.size w1 w0) := Lib.hid (by rw [← hw0]; exact hW.out.alloc hW.out.size _)
        have HWB := Lib.hid (fun W (h : Below w0.heap.size w0 W) => HW0.out.trans (h.mono HW0.out.size))
        have HWB1 := Lib.hid (fun W (h : Below w0.heap.size w0 W) => HW10.out.trans (h.mono HW10.out.size))
        have hfr : Hid (freshV l o (k : Int) = freshV l (o.drop 0) (k : Int)) := Lib.hid rfl
        clear hXl d2 d4 d7 HW0 HW10 HW hW
        go_wp2_with fail
        clear c0 c1 c2 c3 c4 c5 c6 c7 hw0 hX
        obtain ⟨wo, rfl⟩ : ∃ wo : World, wo = wr := ⟨_, rfl⟩
        go_loopw [26] (fun i wi => ∃ j : Nat, i = .int .i64 j ∧ j ≤ o.length ∧ Hid (freshV l o (k : Int) = freshV l (o.drop j) (k : Int)) ∧ Hid (Below w0.heap.size w0 wi)) (fun i _ => o.length - (intOf i).toNat)
        case atStart => exact ⟨0, rfl, Nat.zero_le _, hfr, Lib.hid (Below.refl _ _)⟩
        case round =>
          clear hfr
          obtain ⟨j, rfl, hj, hfr, hW⟩ := hrel
          obtain ⟨d2, d4, d7⟩ := D.out _ hW.out
          by_cases hjl : j < o.length
          · obtain ⟨g, goff, rfl, hgl, hgc⟩ := HI.out _ (HWB1.out _ hW.out) (by rintro rfl; simp at hjl)
            obtain ⟨i, hi, hil⟩ := HR.out _ (List.getElem_mem hjl)
            have e1 := hgc j _ (List.getElem?_eq_getElem hjl)
            rw [hi] at e1
            have hrow : ∀ q y, l[q]? = some y → AttAt wr b (off + q * 8) y := by
              obtain ⟨b', off', he, -, hc⟩ := (HA.out _ (HWB.out _ hW.out)).row (by rintro rfl; simp at hlt)
              injection he with he
              injection he with he1 he2
              subst he1; subst he2
              exact hc
            have f3 := (hrow i _ (List.getElem?_eq_getElem hil)).c3
            have f5 := (hrow i _ (List.getElem?_eq_getElem hil)).c5
            have hfs : Hid (freshV l (o.drop j) (k : Int) = (!(decide (l[i].en < bg) && decide (ck < l[i].pl)) && freshV l (o.drop (j + 1)) (k : Int))) := Lib.hid (by
              rw [fresh_step hjl, hi, attN_get hil, hkat.out])
            clear hrow hgc hi
            generalize l[i] = y at *
            have p1 : (i : Int) < (l.length : Int) := by omega
            have p3 : (0 : Int) ≤ (i : Int) := Int.natCast_nonneg _
            by_cases q1 : y.en < bg
            · have t1 : decide (y.en < bg) = true := by simp; omega
              by_cases q2 : ck < y.pl
              · have t2 : decide (ck < y.pl) = true := by simp; omega
                have F : Hid ((.tuple #[.int .i64 (k : Int), .int .i64 17] : Value) = .tuple #[.int .i64 res.1, .int .i64 res.2]) := Lib.hid (by
                  have h2 : seenB l (k : Int) = false := by rw [HSEEN.out, hfr.out, hfs.out, t1, t2]; rfl
                  rw [hV.out, hst.out, h2]; rfl)
                have hE := Lib.hid (HWB.out _ hW.out)
                clear hV hst hfs hfr q1 q2
                go_wp2_with fail
                go_quiet (fail)
                go_wp2_with fail
                refine bodyPost_ret (v := .tuple #[.int .i64 k, .int .i64 17]) (by simp [results, Try.results17, go_sem]) rfl ?_
                exact ⟨congrArg _ F.out, below_drewN hE.out _⟩
              · have t2 : decide (ck < y.pl) = false := by simp; omega
                have hf2 : Hid (freshV l o (k : Int) = freshV l (o.drop (j + 1)) (k : Int)) := Lib.hid (by rw [hfr.out, hfs.out, t1, t2]; rfl)
                clear hfs hfr q1 q2
                go_wp2_with fail
                go_quiet (fail)
                go_wp2_with fail
                go_roundw
                case rel => exact ⟨j + 1, by go_num, by omega, hf2, Lib.hid (below_drewN hW.out _)⟩
                case measure => simp [intOf]; omega
            · have t1 : decide (y.en < bg) = false := by simp; omega
              have hf2 : Hid (freshV l o (k : Int) = freshV l (o.drop (j + 1)) (k : Int)) := Lib.hid (by rw [hfr.out, hfs.out, t1]; rfl)
              clear hfs hfr q1
              go_wp2_with fail
              go_quiet (fail)
              go_wp2_with fail
              go_roundw
              case rel => exact ⟨j + 1, by go_num, by omega, hf2, Lib.hid (below_drewN hW.out _)⟩
              case measure => simp [intOf]; omega
          · have hf1 : Hid (freshV l o (k : Int) = true) := Lib.hid (by rw [hfr.out, List.drop_eq_nil_of_le (by omega)]; rfl)
            have hXl := World.block_lt_of_cell? _ _ d7
            have HS := Lib.hid (fun W (h : Below wr.heap.size wr W) => (⟨h, (h.cell (p := ⟨X, 7, none⟩) hXl).trans d7⟩ : OpS wr X dA evs.length dc W))
            have HWW := Lib.hid (fun W (h : Below wr.heap.size wr W) => HWB.out _ (hW.out.trans (h.mono hW.out.size)))
            have HWW1 := Lib.hid (fun W (h : Below wr.heap.size wr W) => HWB1.out _ (hW.out.trans (h.mono hW.out.size)))
            have HAW := Lib.hid (fun W (h : Below wr.heap.size wr W) => (HA.out _ (HWW.out W h)).keep (Below.refl _ _) (HWW.out W h).size)
            have HIW := Lib.hid (fun W (h : Below wr.heap.size wr W) => HI.out _ (HWW1.out W h))
            have HEW := Lib.hid (fun W (h : Below wr.heap.size wr W) => hev.out _ (HWW.out W h))
            have HWS := Lib.hid (HWB.out _ hW.out).size
            have hso : 65 * evSum l o ≤ 10000000000 := by have := hsum.out; omega
            have hF : Hid (firstNot (seenB l) k (l.length - k) = if okV (heapV l o (k : Int)) evs then firstNot (seenB l) (k + 1) (l.length - (k + 1)) else some (k : Int)) := Lib.hid (by
              rw [hst.out, HSEEN.out, hf1.out, hkat.out, Bool.true_and])
            clear hfr hf1 hst hXl d2 d4
            cases hokv : okV (heapV l o (k : Int)) evs
            · have HOKV := Lib.hid hokv
              have F : Hid ((.tuple #[.int .i64 (k : Int), .int .i64 17] : Value) = .tuple #[.int .i64 res.1, .int .i64 res.2]) := Lib.hid (by rw [hV.out, hF.out, hokv]; rfl)
              clear hV hF hokv
              go_wp2_with fail
              refine wp_region_L (l := 7) (S := (OpS wr X dA evs.length dc)) (by kernel_rfl) ?_ (fun hHeld => ?_)
              · ((try dsimp only); (exact HS.out _ (Below.refl _ _).drew))
              refine wpAnyL_take (i := 0) (oi := _) (v := ?v1) rfl (by kernel_rfl) (fun _ _ _ h => h) (by assumption) (Or.inl ⟨by kernel_rfl, ?y1⟩) ?r1
              case y1 => (intro w hSw; (try dsimp only at hSw); go_simp; all_goals with_reducible rfl)
              try simp only [Act.put, List.setIfInBounds_toArray, List.set_cons_zero, List.set_cons_succ]
              refine wpAnyL_take (i := 1) (oi := _) (v := ?v2) rfl (by kernel_rfl) (fun _ _ _ h => h) (by assumption) (Or.inl ⟨by kernel_rfl, ?y2⟩) ?r2
              case y2 => (intro w hSw; (try dsimp only at hSw); go_simp; all_goals with_reducible rfl)
              try simp only [Act.put, List.setIfInBounds_toArray, List.set_cons_zero, List.set_cons_succ]
              refine wpAnyL_take (i := 2) (oi := _) (v := ?v3) rfl (by kernel_rfl) (fun _ _ _ h => h) (by assumption) (Or.inl ⟨by kernel_rfl, ?y3⟩) ?r3
              case y3 => (intro w hSw; (try dsimp only at hSw); go_simp; all_goals with_reducible rfl)
              try simp only [Act.put, List.setIfInBounds_toArray, List.set_cons_zero, List.set_cons_succ]
              refine wpAnyL_take (i := 4) (oi := _) (v := ?v4) rfl (by kernel_rfl) (fun _ _ _ h => h) (by assumption) (Or.inl ⟨by kernel_rfl, ?y4⟩) ?r4
              case y4 => (intro w hSw; (try dsimp only at hSw); go_simp; all_goals with_reducible rfl)
              try simp only [Act.put, List.setIfInBounds_toArray, List.set_cons_zero, List.set_cons_succ]
              refine wpAnyL_take (i := 5) (oi := _) (v := ?v5) rfl (by kernel_rfl) (fun _ _ _ h => h) (by assumption) (Or.inl ⟨by kernel_rfl, ?y5⟩) ?r5
              case y5 => (intro w hSw; (try dsimp only at hSw); go_simp; all_goals with_reducible rfl)
              try simp only [Act.put, List.setIfInBounds_toArray, List.set_cons_zero, List.set_cons_succ]
              refine wpAnyL_step (j := 3) (o := _) (by kernel_rfl) rfl (fun K hK => ?_)
              (go_simp; go_at_call 45; refine (writes_any (some ⟨b, off, none⟩) OA c oc k l o hlt hn hol hsum.out HOO.out HR.out _ (HAW.out _ hHeld.1) (HIW.out _ hHeld.1)).mono ?_; rintro e w3 ⟨rfl, hH3, hb3⟩)
              refine hK _ _ ?_ (fun hHeld => ?_)
              · ((try dsimp only); (exact HS.out _ (hHeld.1.trans (hb3.mono hHeld.1.size))))
              clear hK K
              try simp only [Act.put, List.setIfInBounds_toArray, List.set_cons_zero, List.set_cons_succ]
              refine wpAnyL_step (j := 6) (o := _) (by kernel_rfl) rfl (fun K hK => ?_)
              (go_simp; go_at_call 34; refine (do_any wr.heap.size (65 * evSum l o) w.heap.size dc (heapV l o k) dA evs th hxl hso hel.out w3 hH3 (HEW.out _ hHeld.1) HWS.out).mono ?_; rintro e w4 ⟨rfl, hH4, hM4⟩; rw [HOKV.out])
              refine hK _ _ ?_ (fun hHeld => ?_)
              · ((try dsimp only); (exact HS.out _ (hHeld.1.trans (hM4.below hHeld.1.size))))
              clear hK K
              try simp only [Act.put, List.setIfInBounds_toArray, List.set_cons_zero, List.set_cons_succ]
              refine wpAnyL_last (j := 7) (o := _) (by kernel_rfl) rfl (by rfl) (by kernel_rfl) (fun K hK => ?_)
              go_simp
              (refine hK _ _ ?_; clear hK K)
              try simp only [Act.put, List.setIfInBounds_toArray, List.set_cons_zero, List.set_cons_succ]
              have hE := Lib.hid (HWW.out _ hHeld.1)
              have hE1 := Lib.hid (HWW1.out _ hHeld.1)
              clear hHeld
              go_wp2_with fail
              refine bodyPost_ret (v := .tuple #[.int .i64 k, .int .i64 17]) (by simp [results, Try.results17, go_sem]) rfl ?_
              exact ⟨congrArg _ F.out, hE.out⟩
            · have HOKV := Lib.hid hokv
              have F : Hid (res = failV 17 (firstNot (seenB l) (k + 1) (l.length - (k + 1)))) := Lib.hid (by rw [hV.out, hF.out, hokv]; rfl)
              clear hV hF hokv
              go_wp2_with fail
              refine wp_region_L (l := 7) (S := (OpS wr X dA evs.length dc)) (by kernel_rfl) ?_ (fun hHeld => ?_)
              · ((try dsimp only); (exact HS.out _ (Below.refl _ _).drew))
              refine wpAnyL_take (i := 0) (oi := _) (v := ?v9) rfl (by kernel_rfl) (fun _ _ _ h => h) (by assumption) (Or.inl ⟨by kernel_rfl, ?y9⟩) ?r9
              case y9 => (intro w hSw; (try dsimp only at hSw); go_simp; all_goals with_reducible rfl)
              try simp only [Act.put, List.setIfInBounds_toArray, List.set_cons_zero, List.set_cons_succ]
              refine wpAnyL_take (i := 1) (oi := _) (v := ?v10) rfl (by kernel_rfl) (fun _ _ _ h => h) (by assumption) (Or.inl ⟨by kernel_rfl, ?y10⟩) ?r10
              case y10 => (intro w hSw; (try dsimp only at hSw); go_simp; all_goals with_reducible rfl)
              try simp only [Act.put, List.setIfInBounds_toArray, List.set_cons_zero, List.set_cons_succ]
              refine wpAnyL_take (i := 2) (oi := _) (v := ?v11) rfl (by kernel_rfl) (fun _ _ _ h => h) (by assumption) (Or.inl ⟨by kernel_rfl, ?y11⟩) ?r11
              case y11 => (intro w hSw; (try dsimp only at hSw); go_simp; all_goals with_reducible rfl)
              try simp only [Act.put, List.setIfInBounds_toArray, List.set_cons_zero, List.set_cons_succ]
              refine wpAnyL_take (i := 4) (oi := _) (v := ?v12) rfl (by kernel_rfl) (fun _ _ _ h => h) (by assumption) (Or.inl ⟨by kernel_rfl, ?y12⟩) ?r12
              case y12 => (intro w hSw; (try dsimp only at hSw); go_simp; all_goals with_reducible rfl)
              try simp only [Act.put, List.setIfInBounds_toArray, List.set_cons_zero, List.set_cons_succ]
              refine wpAnyL_take (i := 5) (oi := _) (v := ?v13) rfl (by kernel_rfl) (fun _ _ _ h => h) (by assumption) (Or.inl ⟨by kernel_rfl, ?y13⟩) ?r13
              case y13 => (intro w hSw; (try dsimp only at hSw); go_simp; all_goals with_reducible rfl)
              try simp only [Act.put, List.setIfInBounds_toArray, List.set_cons_zero, List.set_cons_succ]
              refine wpAnyL_step (j := 3) (o := _) (by kernel_rfl) rfl (fun K hK => ?_)
              (go_simp; go_at_call 45; refine (writes_any (some ⟨b, off, none⟩) OA c oc k l o hlt hn hol hsum.out HOO.out HR.out _ (HAW.out _ hHeld.1) (HIW.out _ hHeld.1)).mono ?_; rintro e w3 ⟨rfl, hH3, hb3⟩)
              refine hK _ _ ?_ (fun hHeld => ?_)
              · ((try dsimp only); (exact HS.out _ (hHeld.1.trans (hb3.mono hHeld.1.size))))
              clear hK K
              try simp only [Act.put, List.setIfInBounds_toArray, List.set_cons_zero, List.set_cons_succ]
              refine wpAnyL_step (j := 6) (o := _) (by kernel_rfl) rfl (fun K hK => ?_)
              (go_simp; go_at_call 34; refine (do_any wr.heap.size (65 * evSum l o) w.heap.size dc (heapV l o k) dA evs th hxl hso hel.out w3 hH3 (HEW.out _ hHeld.1) HWS.out).mono ?_; rintro e w4 ⟨rfl, hH4, hM4⟩; rw [HOKV.out])
              refine hK _ _ ?_ (fun hHeld => ?_)
              · ((try dsimp only); (exact HS.out _ (hHeld.1.trans (hM4.below hHeld.1.size))))
              clear hK K
              try simp only [Act.put, List.setIfInBounds_toArray, List.set_cons_zero, List.set_cons_succ]
              refine wpAnyL_last (j := 7) (o := _) (by kernel_rfl) rfl (by rfl) (by kernel_rfl) (fun K hK => ?_)
              go_simp
              (refine hK _ _ ?_; clear hK K)
              try simp only [Act.put, List.setIfInBounds_toArray, List.set_cons_zero, List.set_cons_succ]
              have hE := Lib.hid (HWW.out _ hHeld.1)
              have hE1 := Lib.hid (HWW1.out _ hHeld.1)
              clear hHeld
              go_wp2_with fail
              go_roundw
              case rel => exact ⟨k + 1, by go_num, by omega, F, hE1⟩
              case measure => simp [intOf]; omega
      · have F : Hid ((.tuple #[.int .i64 0, .int .i64 0] : Value) = .tuple #[.int .i64 res.1, .int .i64 res.2]) := Lib.hid (by
          rw [hV.out, show l.length - k = 0 by omega]; rfl)
        clear hV
        go_wp2_with fail
        refine bodyPost_ret (v := .tuple #[.int .i64 0, .int .i64 0]) (by simp [results, Try.results17, go_sem]) rfl ?_
        exact ⟨congrArg _ F.out, HW.out⟩
  · have hcv := Lib.hid (checked_kinds l hck)
    have HV : Hid (ocheckV l = (0, checkedV l)) := Lib.hid (by unfold ocheckV; rw [if_neg hck])
    have HO : Hid (∀ w1 e w2, OrdOut l w1 e w2 → Below w1.heap.size w1 w2 ∧ e = .returned (.tuple #[.slice none 0 0, .int .i64 (checkedV l)])) := Lib.hid (fun w1 e w2 h => ⟨h.1, h.2.elim (·.2) (fun h => absurd h.1 hck)⟩)
    have t1 : (checkedV l == 0) = false := by simpa using hck
    have t2 : (checkedV l != 0) = true := by simpa using hck
    generalize checkedV l = cv at *
    generalize ocheckV l = res at *
    go_enter Try.func17, Try.ntmps17
    go_wp2_with fail
    refine (HC.out _ (Below.refl _ _)).mono ?_
    intro e w1 hout
    obtain ⟨hb1, rfl⟩ := HO.out _ _ _ hout
    have HB1 := Lib.hid hb1
    clear hb1 hout
    go_wp2_with fail
    refine bodyPost_ret (v := .tuple #[.int .i64 0, .int .i64 cv]) (by simp [results, Try.results17, go_sem]) rfl ?_
    exact ⟨by rw [HV.out], HB1.out⟩
end Go.Proofs.Ytjaegddnikkibaa
