/-
  SerialReads walked.
-/
import Derived.Test.YtjaegddnikkibaaSerLives
import Derived.Test.YtjaegddnikkibaaAttOpen
import Derived.Test.YtjaegddnikkibaaOpLess
set_option linter.unusedVariables false
set_option linter.unusedSimpArgs false
namespace Go.Proofs.Ytjaegddnikkibaa
open Go.RowKit Go.Sort Go.Maps

set_option maxHeartbeats 4000000 in
set_option maxRecDepth 100000 in
theorem serialReads_walk (A : Option Addr) (c : Nat) (l : List Att) (w : World) (hl : l.length ≤ 35184372088832) (hO : ∀ x ∈ l, x.Ok) (ha : AttsAt w w.heap.size A l) :
    Calls Try.prog 3 #[.slice A l.length c] w fun e w' => e = .returned (.bool true) ∧ Below w.heap.size w w' := by
  have HSZ := Lib.hid (asize_any A c _ l hl (fun x hx => (hO x hx).len) w ha)
  have HLE := Lib.hid (asizeV_le l)
  by_cases hby : 262144 < asizeV l
  · have HBY : Hid (decide (262144 < asizeV l) = true) := Lib.hid (by simpa using hby)
    have HBE := Lib.hid (fun o => (Below.refl w.heap.size w).alloc (Nat.le_refl _) o)
    clear ha hO hby
    go_enter Try.func3, Try.ntmps3
    go_wp2_with fail
    refine HSZ.out.mono ?_
    rintro e w' ⟨rfl, rfl⟩
    go_wp2_with fail
    refine (beyond_any w.heap.size 0 1 (asizeV l) HLE.out.1 HLE.out.2 _ (by simp)).mono ?_
    rintro e w' ⟨rfl, rfl⟩
    rw [HBY.out]
    go_wp2_with fail
    go_ret
    exact ⟨rfl, HBE.out _⟩
  · have HBY : Hid (decide (262144 < asizeV l) = false) := Lib.hid (by simpa using hby)
    have hts : totalSize l ≤ 262144 := by
      have := mt (asizeV_total l).2 hby
      omega
    have hln := Nat.le_trans (length_le_total l) hts
    have HA := Lib.hid (fun W (h : Below w.heap.size w W) => ha.keep h (Nat.le_refl _))
    have HCK := Lib.hid (fun W (h : Below w.heap.size w W) => scheck_any A c l (by omega) hO W (ha.keep h h.size))
    have HOR := Lib.hid (fun W (h : Below w.heap.size w W) => order_any A c l (by omega) hO W (ha.keep h h.size))
    clear ha hby hl
    by_cases hck : checkedV l = 0
    · have HK := Lib.hid hck
      by_cases hok : (scheckV l).2 = 0
      · obtain ⟨-, hatt⟩ := checkedOk hck
        have HOO : Hid (∀ x ∈ l, x.evs.length ≤ 1048576 ∧ ∀ e ∈ x.evs, evB x.th e = true) := Lib.hid (fun x hx => ⟨by have := evsLe l x hx; omega, hatt x hx⟩)
        have hol : (orderV l).length ≤ 1048576 := Nat.le_trans (by have h := (sortB_perm (stB id (ltN l)) (committed 0 l)).length_eq; have := committed_len l 0; unfold orderV; omega) (by omega : l.length ≤ 1048576)
        have HR : Hid (∀ i ∈ orderV l, ∃ j : Nat, i = j ∧ j < l.length) := Lib.hid (fun i hi => by
          obtain ⟨j, hj, x, hx, -⟩ := orderV_mem hi
          exact ⟨j, hj, (List.getElem?_eq_some_iff.1 hx).1⟩)
        have HKD : Hid (∀ i ∈ orderV l, (attN l i).kd = 1) := Lib.hid (fun i hi => by
          obtain ⟨j, rfl, x, hx, hk⟩ := orderV_mem hi
          rw [attN_some hx]; exact hk)
        have HREAD := Lib.hid (fun (n : Nat) (hn : n < (orderV l).length) (k : Nat) (hk : k < (attN l (orderV l)[n]).evs.length) hr => reads_at hok hn hk hr)
        have HEND := Lib.hid (fun (n k : Nat) (hn : n < (orderV l).length) (hk : k < (orderV l).length) (hnk : n < k) => Int.not_lt.1 (ends_at hok hn hk hnk))
        clear hts hO hatt
        generalize hR : scheckV l = R at *
        obtain ⟨r1, r2⟩ := R
        dsimp only at *
        subst hok
        clear hR hck
        go_enter Try.func3, Try.ntmps3
        go_wp2_with fail
        refine HSZ.out.mono ?_
        rintro e w' ⟨rfl, rfl⟩
        go_wp2_with fail
        refine (beyond_any w.heap.size 0 1 (asizeV l) HLE.out.1 HLE.out.2 _ (by simp)).mono ?_
        rintro e w' ⟨rfl, rfl⟩
        rw [HBY.out]
        go_wp2_with fail
        refine (HCK.out _ ((Below.refl _ _).alloc (Nat.le_refl _) _)).mono ?_
        rintro e w1 ⟨rfl, hb1⟩
        have HB1 : Hid (Below w.heap.size w w1) := Lib.hid (((Below.refl _ _).alloc (Nat.le_refl _) _).trans (hb1.mono (by simp)))
        clear hb1
        go_wp2_with fail
        refine (HOR.out _ HB1.out).mono ?_
        rintro e w2 ⟨hb2, ⟨hbad, -⟩ | ⟨-, OA, oc, rfl, hI⟩⟩
        · exact absurd HK.out hbad
        have HB2 : Hid (Below w.heap.size w w2) := Lib.hid (HB1.out.trans (hb2.mono HB1.out.size))
        have HI := Lib.hid (fun W (h : Below w2.heap.size w2 W) => hI.keep h)
        have HWW := Lib.hid (fun W (h : Below w2.heap.size w2 W) => HB2.out.trans (h.mono HB2.out.size))
        clear hb2 hI HCK HOR
        generalize orderV l = o at *
        go_wp2_with fail
        go_loopw [7] (fun i wr => ∃ n : Nat, i = .int .i64 n ∧ n ≤ o.length ∧ Hid (Below w2.heap.size w2 wr)) (fun i _ => o.length - (intOf i).toNat)
        case atStart => exact ⟨0, rfl, Nat.zero_le _, Lib.hid (Below.refl _ _)⟩
        case round =>
          obtain ⟨n, rfl, hn, hW⟩ := hrel
          have HEW := Lib.hid (HWW.out _ hW.out)
          by_cases hlt : n < o.length
          · have t0 : decide ((n : Int) < (o.length : Int)) = true := by simp; omega
            have t0n : decide (n < o.length) = true := by simpa using hlt
            by_cases h200 : n < 200
            · have t1 : decide ((n : Int) < 200) = true := by simp; omega
              have t1n : decide (n < 200) = true := by simpa using h200
              obtain ⟨gb, goff, rfl, hgl, hgc⟩ := HI.out _ hW.out (by rintro rfl; simp at hlt)
              obtain ⟨i, hi, hil⟩ := HR.out _ (List.getElem_mem hlt)
              have e1 := hgc n _ (List.getElem?_eq_getElem hlt)
              rw [hi] at e1
              obtain ⟨b, off, rfl, hbl, hc⟩ := (HA.out _ HEW.out).row (by rintro rfl; simp at hil)
              obtain ⟨c0, c1, c2, c3, c4, c5, c6, c7⟩ := hc i _ (List.getElem?_eq_getElem hil)
              have hgi : attN l o[n] = l[i] := by rw [hi]; exact attN_get hil
              have hkd := HKD.out _ (List.getElem_mem hlt)
              rw [hgi] at hkd
              have hod : o.getD n 0 = o[n] := by rw [List.getD_eq_getElem?_getD, List.getElem?_eq_getElem hlt]; rfl
              have hev := Lib.hid (fun W (h : Below w.heap.size w W) => (HA.out _ h).evs _ (List.getElem_mem hil))
              obtain ⟨hxl, hxe⟩ := HOO.out _ (List.getElem_mem hil)
              have hel := Lib.hid hxe
              have hrd := HREAD.out n hlt
              rw [hgi] at hrd
              have hrd := Lib.hid hrd
              have hed : Hid (∀ (k : Nat) (hk : k < o.length), n < k → l[i].bg ≤ (attN l o[k]).en) := Lib.hid (fun k hk hnk => by have := HEND.out n k hlt hk hnk; rw [hgi] at this; exact this)
              have HLST : Hid (∀ (k : Nat) (at_ : Int), lastV l o n k at_ = doV (heapAll l (o.take n)) (l[i].evs.take k) at_) := Lib.hid (fun k at_ => by unfold lastV; rw [hod, hgi])
              have HLN : Hid ((attN l (o.getD n 0)).evs.length = l[i].evs.length) := Lib.hid (by rw [hod, hgi])
              have p1 : (i : Int) < (l.length : Int) := by omega
              have p3 : (0 : Int) ≤ (i : Int) := Int.natCast_nonneg _
              clear hc hgc hgi hxe hod hi
              generalize l[i] = x at *
              obtain ⟨th, xkd, bg, en, ck, pl, wt, dA, dc, evs⟩ := x
              dsimp only at *
              subst hkd
              obtain ⟨X, hX⟩ : ∃ X, wr.heap.size = X := ⟨_, rfl⟩
              obtain ⟨w0, hw0⟩ : ∃ w0, wr.alloc (.cells #[.int .i64 th, .int .u8 1, .int .i64 bg, .int .i64 en, .int .i64 ck, .int .i64 pl, .bool wt, .slice dA evs.length dc] 35 (0, 0)) = w0 := ⟨_, rfl⟩
              have hXl : X < w0.heap.size := by rw [← hw0, ← hX]; simp
              have d1 : w0.cell? ⟨X, 1, none⟩ = some (.int .u8 1) := by rw [← hw0, ← hX]; simp
              have d2 : w0.cell? ⟨X, 2, none⟩ = some (.int .i64 bg) := by rw [← hw0, ← hX]; simp
              have d7 : w0.cell? ⟨X, 7, none⟩ = some (.slice dA evs.length dc) := by rw [← hw0, ← hX]; simp
              have D := Lib.hid (fun W (h : Below w0.heap.size w0 W) => (⟨(h.cell (p := ⟨X, 2, none⟩) hXl).trans d2, (h.cell (p := ⟨X, 7, none⟩) hXl).trans d7⟩ : W.cell? ⟨X, 2, none⟩ = some (.int .i64 bg) ∧ W.cell? ⟨X, 7, none⟩ = some (.slice dA evs.length dc)))
              have hW0 : Hid (Below w2.heap.size w2 w0) := Lib.hid (by rw [← hw0]; exact hW.out.alloc hW.out.size _)
              have HW0 := Lib.hid (fun W (h : Below w0.heap.size w0 W) => hW0.out.trans (h.mono hW0.out.size))
              have HV0 := Lib.hid (fun W (h : Below w0.heap.size w0 W) => HWW.out W (HW0.out W h))
              clear hXl d2 d7 hW HEW
              go_wp2_with fail
              clear c0 c1 c2 c3 c4 c5 c6 c7 e1 d1 hw0 hX t0 t0n t1 t1n h200
              obtain ⟨wo, rfl⟩ : ∃ wo : World, wo = wr := ⟨_, rfl⟩
              go_loopw [9] (fun j wi => ∃ k : Nat, j = .int .i64 k ∧ k ≤ evs.length ∧ Hid (Below w0.heap.size w0 wi)) (fun j _ => evs.length - (intOf j).toNat)
              case atStart => exact ⟨0, rfl, Nat.zero_le _, Lib.hid (Below.refl _ _)⟩
              case round =>
                obtain ⟨k, rfl, hk, hW⟩ := hrel
                obtain ⟨d2, d7⟩ := D.out _ hW.out
                by_cases hkl : k < evs.length
                · have t0 : decide ((k : Int) < (evs.length : Int)) = true := by simp; omega
                  have t0n : decide (k < evs.length) = true := by simpa using hkl
                  by_cases h200 : k < 200
                  · have t1 : decide ((k : Int) < 200) = true := by simp; omega
                    have t1n : decide (k < 200) = true := by simpa using h200
                    obtain ⟨eb, eoff, rfl, -, hec⟩ := hev.out _ (HV0.out _ hW.out) (by rintro rfl; simp at hkl)
                    obtain ⟨e0, e1, e2, e3⟩ := hec k _ (List.getElem?_eq_getElem hkl)
                    have hEb := hel.out _ (List.getElem_mem hkl)
                    have hrk := hrd.out k hkl
                    have q3 : (0 : Int) ≤ (k : Int) := Int.natCast_nonneg _
                    have q4 : (k : Int) < (evs.length : Int) := by omega
                    clear hec
                    generalize evs[k] = ev at *
                    obtain ⟨eth, ekd, a, bv⟩ := ev
                    have hev2 := evB_iff.1 hEb
                    dsimp only at *
                    obtain ⟨-, ha0, ha1, hkk⟩ := hev2
                    have HRK := Lib.hid hrk
                    have HLV : Hid (ekd = 2 ∨ ekd = 4 → lastV l o n k a = bv) := Lib.hid (fun h => by rw [HLST.out]; exact hrk h)
                    clear hEb hrk HRK
                    obtain ⟨V, hV⟩ : ∃ X, wr.heap.size = X := ⟨_, rfl⟩
                    obtain ⟨w1, hw1⟩ : ∃ w0, wr.alloc (.cells #[.int .i64 eth, .int .u8 ekd, .int .i64 a, .int .i64 bv] 38 (0, 0)) = w0 := ⟨_, rfl⟩
                    have hVl : V < w1.heap.size := by rw [← hw1, ← hV]; simp
                    have f1 : w1.cell? ⟨V, 1, none⟩ = some (.int .u8 ekd) := by rw [← hw1, ← hV]; simp
                    have f2 : w1.cell? ⟨V, 2, none⟩ = some (.int .i64 a) := by rw [← hw1, ← hV]; simp
                    have f3 : w1.cell? ⟨V, 3, none⟩ = some (.int .i64 bv) := by rw [← hw1, ← hV]; simp
                    have hbw1 : Below w0.heap.size w0 w1 := by rw [← hw1]; exact hW.out.alloc hW.out.size _
                    have HS := Lib.hid (fun W (h : Below w1.heap.size w1 W) => (⟨h, (h.cell (p := ⟨V, 1, none⟩) hVl).trans f1, (h.cell (p := ⟨V, 2, none⟩) hVl).trans f2, (h.cell (p := ⟨V, 3, none⟩) hVl).trans f3⟩ : Below w1.heap.size w1 W ∧ W.cell? ⟨V, 1, none⟩ = some (.int .u8 ekd) ∧ W.cell? ⟨V, 2, none⟩ = some (.int .i64 a) ∧ W.cell? ⟨V, 3, none⟩ = some (.int .i64 bv)))
                    have HKW := Lib.hid (fun W (h : Below w1.heap.size w1 W) => hbw1.trans (h.mono hbw1.size))
                    have HLAST := Lib.hid (fun W (h : Below w1.heap.size w1 W) => last_any _ _ c oc n k a ⟨ha0, by omega⟩ l o hlt (by omega) hol HOO.out HR.out (by rw [HLN.out]; omega) W ((HA.out _ (HV0.out _ (HKW.out W h))).keep (Below.refl _ _) (HV0.out _ (HKW.out W h)).size) (HI.out _ (HW0.out _ (HKW.out W h))))
                    clear hVl f1 f2 f3 hbw1 hW ha0 ha1 hk
                    rcases (by omega : ekd = 2 ∨ ekd = 4 ∨ ekd = 3 ∨ ekd = 5 ∨ ekd = 6) with rfl | rfl | rfl | rfl | rfl
                    · have HLV2 := Lib.hid (HLV.out (Or.inl rfl))
                      clear HLV
                      clear hkk
                      go_wp2_with fail
                      clear hw1 hV
                      refine wp_region_L (l := 19) (S := (fun W1 => Below w1.heap.size w1 W1 ∧ W1.cell? ⟨V, 1, none⟩ = some (.int .u8 2) ∧ W1.cell? ⟨V, 2, none⟩ = some (.int .i64 a) ∧ W1.cell? ⟨V, 3, none⟩ = some (.int .i64 bv))) (by kernel_rfl) ?_ (fun hHeld => ?_)
                      · ((try dsimp only); (exact HS.out _ (Below.refl _ _).drew))
                      refine wpAnyL_take (i := 0) (oi := _) (v := ?v1) rfl (by kernel_rfl) (fun _ _ _ h => h) (by assumption) (Or.inl ⟨by kernel_rfl, ?y1⟩) ?r1
                      case y1 => (intro w hSw; (try dsimp only at hSw); go_simp; all_goals with_reducible rfl)
                      try simp only [Act.put, List.setIfInBounds_toArray, List.set_cons_zero, List.set_cons_succ]
                      refine wpAnyL_take (i := 1) (oi := _) (v := ?v2) rfl (by kernel_rfl) (fun _ _ _ h => h) (by assumption) (Or.inl ⟨by kernel_rfl, ?y2⟩) ?r2
                      case y2 => (intro w hSw; (try dsimp only at hSw); go_simp; all_goals with_reducible rfl)
                      try simp only [Act.put, List.setIfInBounds_toArray, List.set_cons_zero, List.set_cons_succ]
                      refine wpAnyL_take (i := 2) (oi := _) (v := ?v3) rfl (by kernel_rfl) (fun _ _ _ h => h) (by assumption) (Or.inl ⟨by kernel_rfl, ?y3⟩) ?r3
                      case y3 => (intro w hSw; (try dsimp only at hSw); go_simp; all_goals with_reducible rfl)
                      try simp only [Act.put, List.setIfInBounds_toArray, List.set_cons_zero, List.set_cons_succ]
                      refine wpAnyL_take (i := 3) (oi := _) (v := ?v4) rfl (by kernel_rfl) (fun _ _ _ h => h) (by assumption) (Or.inl ⟨by kernel_rfl, ?y4⟩) ?r4
                      case y4 => (intro w hSw; (try dsimp only at hSw); go_simp; all_goals with_reducible rfl)
                      try simp only [Act.put, List.setIfInBounds_toArray, List.set_cons_zero, List.set_cons_succ]
                      refine wpAnyL_take (i := 4) (oi := _) (v := undef) rfl (by kernel_rfl) (fun _ _ _ h => h) (by assumption) (Or.inr ⟨by kernel_rfl, rfl⟩) ?_
                      try simp only [Act.put, List.setIfInBounds_toArray, List.set_cons_zero, List.set_cons_succ]
                      refine wpAnyL_take (i := 5) (oi := _) (v := undef) rfl (by kernel_rfl) (fun _ _ _ h => h) (by assumption) (Or.inr ⟨by kernel_rfl, rfl⟩) ?_
                      try simp only [Act.put, List.setIfInBounds_toArray, List.set_cons_zero, List.set_cons_succ]
                      refine wpAnyL_take (i := 6) (oi := _) (v := undef) rfl (by kernel_rfl) (fun _ _ _ h => h) (by assumption) (Or.inr ⟨by kernel_rfl, rfl⟩) ?_
                      try simp only [Act.put, List.setIfInBounds_toArray, List.set_cons_zero, List.set_cons_succ]
                      refine wpAnyL_take (i := 7) (oi := _) (v := ?v8) rfl (by kernel_rfl) (fun _ _ _ h => h) (by assumption) (Or.inl ⟨by kernel_rfl, ?y8⟩) ?r8
                      case y8 => (intro w hSw; (try dsimp only at hSw); go_simp; all_goals with_reducible rfl)
                      try simp only [Act.put, List.setIfInBounds_toArray, List.set_cons_zero, List.set_cons_succ]
                      refine wpAnyL_take (i := 8) (oi := _) (v := ?v9) rfl (by kernel_rfl) (fun _ _ _ h => h) (by assumption) (Or.inl ⟨by kernel_rfl, ?y9⟩) ?r9
                      case y9 => (intro w hSw; (try dsimp only at hSw); go_simp; all_goals with_reducible rfl)
                      try simp only [Act.put, List.setIfInBounds_toArray, List.set_cons_zero, List.set_cons_succ]
                      refine wpAnyL_take (i := 9) (oi := _) (v := ?v10) rfl (by kernel_rfl) (fun _ _ _ h => h) (by assumption) (Or.inl ⟨by kernel_rfl, ?y10⟩) ?r10
                      case y10 => (intro w hSw; (try dsimp only at hSw); go_simp; all_goals with_reducible rfl)
                      try simp only [Act.put, List.setIfInBounds_toArray, List.set_cons_zero, List.set_cons_succ]
                      refine wpAnyL_take (i := 10) (oi := _) (v := ?v11) rfl (by kernel_rfl) (fun _ _ _ h => h) (by assumption) (Or.inl ⟨by kernel_rfl, ?y11⟩) ?r11
                      case y11 => (intro w hSw; (try dsimp only at hSw); go_simp; all_goals with_reducible rfl)
                      try simp only [Act.put, List.setIfInBounds_toArray, List.set_cons_zero, List.set_cons_succ]
                      refine wpAnyL_take (i := 11) (oi := _) (v := ?v12) rfl (by kernel_rfl) (fun _ _ _ h => h) (by assumption) (Or.inl ⟨by kernel_rfl, ?y12⟩) ?r12
                      case y12 => (intro w hSw; (try dsimp only at hSw); go_simp; all_goals with_reducible rfl)
                      try simp only [Act.put, List.setIfInBounds_toArray, List.set_cons_zero, List.set_cons_succ]
                      refine wpAnyL_take (i := 12) (oi := _) (v := ?v13) rfl (by kernel_rfl) (fun _ _ _ h => h) (by assumption) (Or.inl ⟨by kernel_rfl, ?y13⟩) ?r13
                      case y13 => (intro w hSw; (try dsimp only at hSw); go_simp; all_goals with_reducible rfl)
                      try simp only [Act.put, List.setIfInBounds_toArray, List.set_cons_zero, List.set_cons_succ]
                      refine wpAnyL_take (i := 13) (oi := _) (v := ?v14) rfl (by kernel_rfl) (fun _ _ _ h => h) (by assumption) (Or.inl ⟨by kernel_rfl, ?y14⟩) ?r14
                      case y14 => (intro w hSw; (try dsimp only at hSw); go_simp; all_goals with_reducible rfl)
                      try simp only [Act.put, List.setIfInBounds_toArray, List.set_cons_zero, List.set_cons_succ]
                      refine wpAnyL_take (i := 14) (oi := _) (v := ?v15) rfl (by kernel_rfl) (fun _ _ _ h => h) (by assumption) (Or.inl ⟨by kernel_rfl, ?y15⟩) ?r15
                      case y15 => (intro w hSw; (try dsimp only at hSw); go_simp; all_goals with_reducible rfl)
                      try simp only [Act.put, List.setIfInBounds_toArray, List.set_cons_zero, List.set_cons_succ]
                      refine wpAnyL_take (i := 16) (oi := _) (v := ?v16) rfl (by kernel_rfl) (fun _ _ _ h => h) (by assumption) (Or.inl ⟨by kernel_rfl, ?y16⟩) ?r16
                      case y16 => (intro w hSw; (try dsimp only at hSw); go_simp; all_goals with_reducible rfl)
                      try simp only [Act.put, List.setIfInBounds_toArray, List.set_cons_zero, List.set_cons_succ]
                      refine wpAnyL_take (i := 17) (oi := _) (v := ?v17) rfl (by kernel_rfl) (fun _ _ _ h => h) (by assumption) (Or.inl ⟨by kernel_rfl, ?y17⟩) ?r17
                      case y17 => (intro w hSw; (try dsimp only at hSw); go_simp; all_goals with_reducible rfl)
                      try simp only [Act.put, List.setIfInBounds_toArray, List.set_cons_zero, List.set_cons_succ]
                      refine wpAnyL_step (j := 15) (o := _) (by kernel_rfl) rfl (fun K hK => ?_)
                      (go_simp; go_at_call 15; refine (HLAST.out _ hHeld.1).mono ?_; rintro e w4 ⟨rfl, hb4⟩; rw [HLV2.out])
                      refine hK _ _ ?_ (fun hHeld => ?_)
                      · ((try dsimp only); (exact HS.out _ ((Below.refl _ _).drew.trans (hb4.mono (by simp)))))
                      clear hK K
                      try simp only [Act.put, List.setIfInBounds_toArray, List.set_cons_zero, List.set_cons_succ]
                      refine wpAnyL_take (i := 18) (oi := _) (v := ?v19) rfl (by kernel_rfl) (fun _ _ _ h => h) (by assumption) (Or.inl ⟨by kernel_rfl, ?y19⟩) ?r19
                      case y19 => (intro w hSw; (try dsimp only at hSw); go_simp; all_goals with_reducible rfl)
                      try simp only [Act.put, List.setIfInBounds_toArray, List.set_cons_zero, List.set_cons_succ]
                      refine wpAnyL_last (j := 19) (o := _) (by kernel_rfl) rfl (by rfl) (by kernel_rfl) (fun K hK => ?_)
                      go_simp
                      (refine hK _ _ ?_; clear hK K)
                      try simp only [Act.put, List.setIfInBounds_toArray, List.set_cons_zero, List.set_cons_succ]
                      have hE := Lib.hid (HKW.out _ hHeld.1)
                      clear hHeld
                      go_wp2_with fail
                      go_roundw
                      case rel => exact ⟨k + 1, by go_num, by omega, hE⟩
                      case measure => simp [intOf]; omega
                    · have HLV2 := Lib.hid (HLV.out (Or.inr rfl))
                      clear HLV
                      clear hkk
                      go_wp2_with fail
                      clear hw1 hV
                      refine wp_region_L (l := 19) (S := (fun W1 => Below w1.heap.size w1 W1 ∧ W1.cell? ⟨V, 1, none⟩ = some (.int .u8 4) ∧ W1.cell? ⟨V, 2, none⟩ = some (.int .i64 a) ∧ W1.cell? ⟨V, 3, none⟩ = some (.int .i64 bv))) (by kernel_rfl) ?_ (fun hHeld => ?_)
                      · ((try dsimp only); (exact HS.out _ (Below.refl _ _).drew))
                      refine wpAnyL_take (i := 0) (oi := _) (v := ?v21) rfl (by kernel_rfl) (fun _ _ _ h => h) (by assumption) (Or.inl ⟨by kernel_rfl, ?y21⟩) ?r21
                      case y21 => (intro w hSw; (try dsimp only at hSw); go_simp; all_goals with_reducible rfl)
                      try simp only [Act.put, List.setIfInBounds_toArray, List.set_cons_zero, List.set_cons_succ]
                      refine wpAnyL_take (i := 1) (oi := _) (v := ?v22) rfl (by kernel_rfl) (fun _ _ _ h => h) (by assumption) (Or.inl ⟨by kernel_rfl, ?y22⟩) ?r22
                      case y22 => (intro w hSw; (try dsimp only at hSw); go_simp; all_goals with_reducible rfl)
                      try simp only [Act.put, List.setIfInBounds_toArray, List.set_cons_zero, List.set_cons_succ]
                      refine wpAnyL_take (i := 2) (oi := _) (v := ?v23) rfl (by kernel_rfl) (fun _ _ _ h => h) (by assumption) (Or.inl ⟨by kernel_rfl, ?y23⟩) ?r23
                      case y23 => (intro w hSw; (try dsimp only at hSw); go_simp; all_goals with_reducible rfl)
                      try simp only [Act.put, List.setIfInBounds_toArray, List.set_cons_zero, List.set_cons_succ]
                      refine wpAnyL_take (i := 3) (oi := _) (v := ?v24) rfl (by kernel_rfl) (fun _ _ _ h => h) (by assumption) (Or.inl ⟨by kernel_rfl, ?y24⟩) ?r24
                      case y24 => (intro w hSw; (try dsimp only at hSw); go_simp; all_goals with_reducible rfl)
                      try simp only [Act.put, List.setIfInBounds_toArray, List.set_cons_zero, List.set_cons_succ]
                      refine wpAnyL_take (i := 4) (oi := _) (v := ?v25) rfl (by kernel_rfl) (fun _ _ _ h => h) (by assumption) (Or.inl ⟨by kernel_rfl, ?y25⟩) ?r25
                      case y25 => (intro w hSw; (try dsimp only at hSw); go_simp; all_goals with_reducible rfl)
                      try simp only [Act.put, List.setIfInBounds_toArray, List.set_cons_zero, List.set_cons_succ]
                      refine wpAnyL_take (i := 5) (oi := _) (v := ?v26) rfl (by kernel_rfl) (fun _ _ _ h => h) (by assumption) (Or.inl ⟨by kernel_rfl, ?y26⟩) ?r26
                      case y26 => (intro w hSw; (try dsimp only at hSw); go_simp; all_goals with_reducible rfl)
                      try simp only [Act.put, List.setIfInBounds_toArray, List.set_cons_zero, List.set_cons_succ]
                      refine wpAnyL_take (i := 6) (oi := _) (v := ?v27) rfl (by kernel_rfl) (fun _ _ _ h => h) (by assumption) (Or.inl ⟨by kernel_rfl, ?y27⟩) ?r27
                      case y27 => (intro w hSw; (try dsimp only at hSw); go_simp; all_goals with_reducible rfl)
                      try simp only [Act.put, List.setIfInBounds_toArray, List.set_cons_zero, List.set_cons_succ]
                      refine wpAnyL_take (i := 7) (oi := _) (v := ?v28) rfl (by kernel_rfl) (fun _ _ _ h => h) (by assumption) (Or.inl ⟨by kernel_rfl, ?y28⟩) ?r28
                      case y28 => (intro w hSw; (try dsimp only at hSw); go_simp; all_goals with_reducible rfl)
                      try simp only [Act.put, List.setIfInBounds_toArray, List.set_cons_zero, List.set_cons_succ]
                      refine wpAnyL_take (i := 8) (oi := _) (v := ?v29) rfl (by kernel_rfl) (fun _ _ _ h => h) (by assumption) (Or.inl ⟨by kernel_rfl, ?y29⟩) ?r29
                      case y29 => (intro w hSw; (try dsimp only at hSw); go_simp; all_goals with_reducible rfl)
                      try simp only [Act.put, List.setIfInBounds_toArray, List.set_cons_zero, List.set_cons_succ]
                      refine wpAnyL_take (i := 9) (oi := _) (v := ?v30) rfl (by kernel_rfl) (fun _ _ _ h => h) (by assumption) (Or.inl ⟨by kernel_rfl, ?y30⟩) ?r30
                      case y30 => (intro w hSw; (try dsimp only at hSw); go_simp; all_goals with_reducible rfl)
                      try simp only [Act.put, List.setIfInBounds_toArray, List.set_cons_zero, List.set_cons_succ]
                      refine wpAnyL_take (i := 10) (oi := _) (v := ?v31) rfl (by kernel_rfl) (fun _ _ _ h => h) (by assumption) (Or.inl ⟨by kernel_rfl, ?y31⟩) ?r31
                      case y31 => (intro w hSw; (try dsimp only at hSw); go_simp; all_goals with_reducible rfl)
                      try simp only [Act.put, List.setIfInBounds_toArray, List.set_cons_zero, List.set_cons_succ]
                      refine wpAnyL_take (i := 11) (oi := _) (v := ?v32) rfl (by kernel_rfl) (fun _ _ _ h => h) (by assumption) (Or.inl ⟨by kernel_rfl, ?y32⟩) ?r32
                      case y32 => (intro w hSw; (try dsimp only at hSw); go_simp; all_goals with_reducible rfl)
                      try simp only [Act.put, List.setIfInBounds_toArray, List.set_cons_zero, List.set_cons_succ]
                      refine wpAnyL_take (i := 12) (oi := _) (v := ?v33) rfl (by kernel_rfl) (fun _ _ _ h => h) (by assumption) (Or.inl ⟨by kernel_rfl, ?y33⟩) ?r33
                      case y33 => (intro w hSw; (try dsimp only at hSw); go_simp; all_goals with_reducible rfl)
                      try simp only [Act.put, List.setIfInBounds_toArray, List.set_cons_zero, List.set_cons_succ]
                      refine wpAnyL_take (i := 13) (oi := _) (v := ?v34) rfl (by kernel_rfl) (fun _ _ _ h => h) (by assumption) (Or.inl ⟨by kernel_rfl, ?y34⟩) ?r34
                      case y34 => (intro w hSw; (try dsimp only at hSw); go_simp; all_goals with_reducible rfl)
                      try simp only [Act.put, List.setIfInBounds_toArray, List.set_cons_zero, List.set_cons_succ]
                      refine wpAnyL_take (i := 14) (oi := _) (v := ?v35) rfl (by kernel_rfl) (fun _ _ _ h => h) (by assumption) (Or.inl ⟨by kernel_rfl, ?y35⟩) ?r35
                      case y35 => (intro w hSw; (try dsimp only at hSw); go_simp; all_goals with_reducible rfl)
                      try simp only [Act.put, List.setIfInBounds_toArray, List.set_cons_zero, List.set_cons_succ]
                      refine wpAnyL_take (i := 16) (oi := _) (v := ?v36) rfl (by kernel_rfl) (fun _ _ _ h => h) (by assumption) (Or.inl ⟨by kernel_rfl, ?y36⟩) ?r36
                      case y36 => (intro w hSw; (try dsimp only at hSw); go_simp; all_goals with_reducible rfl)
                      try simp only [Act.put, List.setIfInBounds_toArray, List.set_cons_zero, List.set_cons_succ]
                      refine wpAnyL_take (i := 17) (oi := _) (v := ?v37) rfl (by kernel_rfl) (fun _ _ _ h => h) (by assumption) (Or.inl ⟨by kernel_rfl, ?y37⟩) ?r37
                      case y37 => (intro w hSw; (try dsimp only at hSw); go_simp; all_goals with_reducible rfl)
                      try simp only [Act.put, List.setIfInBounds_toArray, List.set_cons_zero, List.set_cons_succ]
                      refine wpAnyL_step (j := 15) (o := _) (by kernel_rfl) rfl (fun K hK => ?_)
                      (go_simp; go_at_call 15; refine (HLAST.out _ hHeld.1).mono ?_; rintro e w4 ⟨rfl, hb4⟩; rw [HLV2.out])
                      refine hK _ _ ?_ (fun hHeld => ?_)
                      · ((try dsimp only); (exact HS.out _ ((Below.refl _ _).drew.trans (hb4.mono (by simp)))))
                      clear hK K
                      try simp only [Act.put, List.setIfInBounds_toArray, List.set_cons_zero, List.set_cons_succ]
                      refine wpAnyL_take (i := 18) (oi := _) (v := ?v39) rfl (by kernel_rfl) (fun _ _ _ h => h) (by assumption) (Or.inl ⟨by kernel_rfl, ?y39⟩) ?r39
                      case y39 => (intro w hSw; (try dsimp only at hSw); go_simp; all_goals with_reducible rfl)
                      try simp only [Act.put, List.setIfInBounds_toArray, List.set_cons_zero, List.set_cons_succ]
                      refine wpAnyL_last (j := 19) (o := _) (by kernel_rfl) rfl (by rfl) (by kernel_rfl) (fun K hK => ?_)
                      go_simp
                      (refine hK _ _ ?_; clear hK K)
                      try simp only [Act.put, List.setIfInBounds_toArray, List.set_cons_zero, List.set_cons_succ]
                      have hE := Lib.hid (HKW.out _ hHeld.1)
                      clear hHeld
                      go_wp2_with fail
                      go_roundw
                      case rel => exact ⟨k + 1, by go_num, by omega, hE⟩
                      case measure => simp [intOf]; omega
                    · clear hkk HLV HLAST
                      go_wp2_with fail
                      clear hw1 hV
                      refine wp_region_L (l := 19) (S := (fun W1 => Below w1.heap.size w1 W1 ∧ W1.cell? ⟨V, 1, none⟩ = some (.int .u8 3) ∧ W1.cell? ⟨V, 2, none⟩ = some (.int .i64 a) ∧ W1.cell? ⟨V, 3, none⟩ = some (.int .i64 bv))) (by kernel_rfl) ?_ (fun hHeld => ?_)
                      · ((try dsimp only); (exact HS.out _ (Below.refl _ _).drew))
                      refine wpAnyL_take (i := 0) (oi := _) (v := ?v41) rfl (by kernel_rfl) (fun _ _ _ h => h) (by assumption) (Or.inl ⟨by kernel_rfl, ?y41⟩) ?r41
                      case y41 => (intro w hSw; (try dsimp only at hSw); go_simp; all_goals with_reducible rfl)
                      try simp only [Act.put, List.setIfInBounds_toArray, List.set_cons_zero, List.set_cons_succ]
                      refine wpAnyL_take (i := 1) (oi := _) (v := ?v42) rfl (by kernel_rfl) (fun _ _ _ h => h) (by assumption) (Or.inl ⟨by kernel_rfl, ?y42⟩) ?r42
                      case y42 => (intro w hSw; (try dsimp only at hSw); go_simp; all_goals with_reducible rfl)
                      try simp only [Act.put, List.setIfInBounds_toArray, List.set_cons_zero, List.set_cons_succ]
                      refine wpAnyL_take (i := 2) (oi := _) (v := ?v43) rfl (by kernel_rfl) (fun _ _ _ h => h) (by assumption) (Or.inl ⟨by kernel_rfl, ?y43⟩) ?r43
                      case y43 => (intro w hSw; (try dsimp only at hSw); go_simp; all_goals with_reducible rfl)
                      try simp only [Act.put, List.setIfInBounds_toArray, List.set_cons_zero, List.set_cons_succ]
                      refine wpAnyL_take (i := 3) (oi := _) (v := ?v44) rfl (by kernel_rfl) (fun _ _ _ h => h) (by assumption) (Or.inl ⟨by kernel_rfl, ?y44⟩) ?r44
                      case y44 => (intro w hSw; (try dsimp only at hSw); go_simp; all_goals with_reducible rfl)
                      try simp only [Act.put, List.setIfInBounds_toArray, List.set_cons_zero, List.set_cons_succ]
                      refine wpAnyL_take (i := 4) (oi := _) (v := ?v45) rfl (by kernel_rfl) (fun _ _ _ h => h) (by assumption) (Or.inl ⟨by kernel_rfl, ?y45⟩) ?r45
                      case y45 => (intro w hSw; (try dsimp only at hSw); go_simp; all_goals with_reducible rfl)
                      try simp only [Act.put, List.setIfInBounds_toArray, List.set_cons_zero, List.set_cons_succ]
                      refine wpAnyL_take (i := 5) (oi := _) (v := ?v46) rfl (by kernel_rfl) (fun _ _ _ h => h) (by assumption) (Or.inl ⟨by kernel_rfl, ?y46⟩) ?r46
                      case y46 => (intro w hSw; (try dsimp only at hSw); go_simp; all_goals with_reducible rfl)
                      try simp only [Act.put, List.setIfInBounds_toArray, List.set_cons_zero, List.set_cons_succ]
                      refine wpAnyL_take (i := 6) (oi := _) (v := ?v47) rfl (by kernel_rfl) (fun _ _ _ h => h) (by assumption) (Or.inl ⟨by kernel_rfl, ?y47⟩) ?r47
                      case y47 => (intro w hSw; (try dsimp only at hSw); go_simp; all_goals with_reducible rfl)
                      try simp only [Act.put, List.setIfInBounds_toArray, List.set_cons_zero, List.set_cons_succ]
                      refine wpAnyL_take (i := 7) (oi := _) (v := ?v48) rfl (by kernel_rfl) (fun _ _ _ h => h) (by assumption) (Or.inl ⟨by kernel_rfl, ?y48⟩) ?r48
                      case y48 => (intro w hSw; (try dsimp only at hSw); go_simp; all_goals with_reducible rfl)
                      try simp only [Act.put, List.setIfInBounds_toArray, List.set_cons_zero, List.set_cons_succ]
                      refine wpAnyL_take (i := 8) (oi := _) (v := ?v49) rfl (by kernel_rfl) (fun _ _ _ h => h) (by assumption) (Or.inl ⟨by kernel_rfl, ?y49⟩) ?r49
                      case y49 => (intro w hSw; (try dsimp only at hSw); go_simp; all_goals with_reducible rfl)
                      try simp only [Act.put, List.setIfInBounds_toArray, List.set_cons_zero, List.set_cons_succ]
                      refine wpAnyL_take (i := 9) (oi := _) (v := undef) rfl (by kernel_rfl) (fun _ _ _ h => h) (by assumption) (Or.inr ⟨by kernel_rfl, rfl⟩) ?_
                      try simp only [Act.put, List.setIfInBounds_toArray, List.set_cons_zero, List.set_cons_succ]
                      refine wpAnyL_take (i := 10) (oi := _) (v := undef) rfl (by kernel_rfl) (fun _ _ _ h => h) (by assumption) (Or.inr ⟨by kernel_rfl, rfl⟩) ?_
                      try simp only [Act.put, List.setIfInBounds_toArray, List.set_cons_zero, List.set_cons_succ]
                      refine wpAnyL_take (i := 11) (oi := _) (v := undef) rfl (by kernel_rfl) (fun _ _ _ h => h) (by assumption) (Or.inr ⟨by kernel_rfl, rfl⟩) ?_
                      try simp only [Act.put, List.setIfInBounds_toArray, List.set_cons_zero, List.set_cons_succ]
                      refine wpAnyL_take (i := 12) (oi := _) (v := undef) rfl (by kernel_rfl) (fun _ _ _ h => h) (by assumption) (Or.inr ⟨by kernel_rfl, rfl⟩) ?_
                      try simp only [Act.put, List.setIfInBounds_toArray, List.set_cons_zero, List.set_cons_succ]
                      refine wpAnyL_take (i := 13) (oi := _) (v := undef) rfl (by kernel_rfl) (fun _ _ _ h => h) (by assumption) (Or.inr ⟨by kernel_rfl, rfl⟩) ?_
                      try simp only [Act.put, List.setIfInBounds_toArray, List.set_cons_zero, List.set_cons_succ]
                      refine wpAnyL_take (i := 14) (oi := _) (v := undef) rfl (by kernel_rfl) (fun _ _ _ h => h) (by assumption) (Or.inr ⟨by kernel_rfl, rfl⟩) ?_
                      try simp only [Act.put, List.setIfInBounds_toArray, List.set_cons_zero, List.set_cons_succ]
                      refine wpAnyL_take (i := 15) (oi := _) (v := undef) rfl (by kernel_rfl) (fun _ _ _ h => h) (by assumption) (Or.inr ⟨by kernel_rfl, rfl⟩) ?_
                      try simp only [Act.put, List.setIfInBounds_toArray, List.set_cons_zero, List.set_cons_succ]
                      refine wpAnyL_take (i := 16) (oi := _) (v := undef) rfl (by kernel_rfl) (fun _ _ _ h => h) (by assumption) (Or.inr ⟨by kernel_rfl, rfl⟩) ?_
                      try simp only [Act.put, List.setIfInBounds_toArray, List.set_cons_zero, List.set_cons_succ]
                      refine wpAnyL_take (i := 17) (oi := _) (v := undef) rfl (by kernel_rfl) (fun _ _ _ h => h) (by assumption) (Or.inr ⟨by kernel_rfl, rfl⟩) ?_
                      try simp only [Act.put, List.setIfInBounds_toArray, List.set_cons_zero, List.set_cons_succ]
                      refine wpAnyL_take (i := 18) (oi := _) (v := undef) rfl (by kernel_rfl) (fun _ _ _ h => h) (by assumption) (Or.inr ⟨by kernel_rfl, rfl⟩) ?_
                      try simp only [Act.put, List.setIfInBounds_toArray, List.set_cons_zero, List.set_cons_succ]
                      refine wpAnyL_last (j := 19) (o := _) (by kernel_rfl) rfl (by rfl) (by kernel_rfl) (fun K hK => ?_)
                      go_simp
                      (refine hK _ _ ?_; clear hK K)
                      try simp only [Act.put, List.setIfInBounds_toArray, List.set_cons_zero, List.set_cons_succ]
                      have hE := Lib.hid (HKW.out _ hHeld.1)
                      clear hHeld
                      go_wp2_with fail
                      go_roundw
                      case rel => exact ⟨k + 1, by go_num, by omega, hE⟩
                      case measure => simp [intOf]; omega
                    · clear hkk HLV HLAST
                      go_wp2_with fail
                      clear hw1 hV
                      refine wp_region_L (l := 19) (S := (fun W1 => Below w1.heap.size w1 W1 ∧ W1.cell? ⟨V, 1, none⟩ = some (.int .u8 5) ∧ W1.cell? ⟨V, 2, none⟩ = some (.int .i64 a) ∧ W1.cell? ⟨V, 3, none⟩ = some (.int .i64 bv))) (by kernel_rfl) ?_ (fun hHeld => ?_)
                      · ((try dsimp only); (exact HS.out _ (Below.refl _ _).drew))
                      refine wpAnyL_take (i := 0) (oi := _) (v := ?v61) rfl (by kernel_rfl) (fun _ _ _ h => h) (by assumption) (Or.inl ⟨by kernel_rfl, ?y61⟩) ?r61
                      case y61 => (intro w hSw; (try dsimp only at hSw); go_simp; all_goals with_reducible rfl)
                      try simp only [Act.put, List.setIfInBounds_toArray, List.set_cons_zero, List.set_cons_succ]
                      refine wpAnyL_take (i := 1) (oi := _) (v := ?v62) rfl (by kernel_rfl) (fun _ _ _ h => h) (by assumption) (Or.inl ⟨by kernel_rfl, ?y62⟩) ?r62
                      case y62 => (intro w hSw; (try dsimp only at hSw); go_simp; all_goals with_reducible rfl)
                      try simp only [Act.put, List.setIfInBounds_toArray, List.set_cons_zero, List.set_cons_succ]
                      refine wpAnyL_take (i := 2) (oi := _) (v := ?v63) rfl (by kernel_rfl) (fun _ _ _ h => h) (by assumption) (Or.inl ⟨by kernel_rfl, ?y63⟩) ?r63
                      case y63 => (intro w hSw; (try dsimp only at hSw); go_simp; all_goals with_reducible rfl)
                      try simp only [Act.put, List.setIfInBounds_toArray, List.set_cons_zero, List.set_cons_succ]
                      refine wpAnyL_take (i := 3) (oi := _) (v := ?v64) rfl (by kernel_rfl) (fun _ _ _ h => h) (by assumption) (Or.inl ⟨by kernel_rfl, ?y64⟩) ?r64
                      case y64 => (intro w hSw; (try dsimp only at hSw); go_simp; all_goals with_reducible rfl)
                      try simp only [Act.put, List.setIfInBounds_toArray, List.set_cons_zero, List.set_cons_succ]
                      refine wpAnyL_take (i := 4) (oi := _) (v := ?v65) rfl (by kernel_rfl) (fun _ _ _ h => h) (by assumption) (Or.inl ⟨by kernel_rfl, ?y65⟩) ?r65
                      case y65 => (intro w hSw; (try dsimp only at hSw); go_simp; all_goals with_reducible rfl)
                      try simp only [Act.put, List.setIfInBounds_toArray, List.set_cons_zero, List.set_cons_succ]
                      refine wpAnyL_take (i := 5) (oi := _) (v := ?v66) rfl (by kernel_rfl) (fun _ _ _ h => h) (by assumption) (Or.inl ⟨by kernel_rfl, ?y66⟩) ?r66
                      case y66 => (intro w hSw; (try dsimp only at hSw); go_simp; all_goals with_reducible rfl)
                      try simp only [Act.put, List.setIfInBounds_toArray, List.set_cons_zero, List.set_cons_succ]
                      refine wpAnyL_take (i := 6) (oi := _) (v := ?v67) rfl (by kernel_rfl) (fun _ _ _ h => h) (by assumption) (Or.inl ⟨by kernel_rfl, ?y67⟩) ?r67
                      case y67 => (intro w hSw; (try dsimp only at hSw); go_simp; all_goals with_reducible rfl)
                      try simp only [Act.put, List.setIfInBounds_toArray, List.set_cons_zero, List.set_cons_succ]
                      refine wpAnyL_take (i := 7) (oi := _) (v := ?v68) rfl (by kernel_rfl) (fun _ _ _ h => h) (by assumption) (Or.inl ⟨by kernel_rfl, ?y68⟩) ?r68
                      case y68 => (intro w hSw; (try dsimp only at hSw); go_simp; all_goals with_reducible rfl)
                      try simp only [Act.put, List.setIfInBounds_toArray, List.set_cons_zero, List.set_cons_succ]
                      refine wpAnyL_take (i := 8) (oi := _) (v := ?v69) rfl (by kernel_rfl) (fun _ _ _ h => h) (by assumption) (Or.inl ⟨by kernel_rfl, ?y69⟩) ?r69
                      case y69 => (intro w hSw; (try dsimp only at hSw); go_simp; all_goals with_reducible rfl)
                      try simp only [Act.put, List.setIfInBounds_toArray, List.set_cons_zero, List.set_cons_succ]
                      refine wpAnyL_take (i := 9) (oi := _) (v := undef) rfl (by kernel_rfl) (fun _ _ _ h => h) (by assumption) (Or.inr ⟨by kernel_rfl, rfl⟩) ?_
                      try simp only [Act.put, List.setIfInBounds_toArray, List.set_cons_zero, List.set_cons_succ]
                      refine wpAnyL_take (i := 10) (oi := _) (v := undef) rfl (by kernel_rfl) (fun _ _ _ h => h) (by assumption) (Or.inr ⟨by kernel_rfl, rfl⟩) ?_
                      try simp only [Act.put, List.setIfInBounds_toArray, List.set_cons_zero, List.set_cons_succ]
                      refine wpAnyL_take (i := 11) (oi := _) (v := undef) rfl (by kernel_rfl) (fun _ _ _ h => h) (by assumption) (Or.inr ⟨by kernel_rfl, rfl⟩) ?_
                      try simp only [Act.put, List.setIfInBounds_toArray, List.set_cons_zero, List.set_cons_succ]
                      refine wpAnyL_take (i := 12) (oi := _) (v := undef) rfl (by kernel_rfl) (fun _ _ _ h => h) (by assumption) (Or.inr ⟨by kernel_rfl, rfl⟩) ?_
                      try simp only [Act.put, List.setIfInBounds_toArray, List.set_cons_zero, List.set_cons_succ]
                      refine wpAnyL_take (i := 13) (oi := _) (v := undef) rfl (by kernel_rfl) (fun _ _ _ h => h) (by assumption) (Or.inr ⟨by kernel_rfl, rfl⟩) ?_
                      try simp only [Act.put, List.setIfInBounds_toArray, List.set_cons_zero, List.set_cons_succ]
                      refine wpAnyL_take (i := 14) (oi := _) (v := undef) rfl (by kernel_rfl) (fun _ _ _ h => h) (by assumption) (Or.inr ⟨by kernel_rfl, rfl⟩) ?_
                      try simp only [Act.put, List.setIfInBounds_toArray, List.set_cons_zero, List.set_cons_succ]
                      refine wpAnyL_take (i := 15) (oi := _) (v := undef) rfl (by kernel_rfl) (fun _ _ _ h => h) (by assumption) (Or.inr ⟨by kernel_rfl, rfl⟩) ?_
                      try simp only [Act.put, List.setIfInBounds_toArray, List.set_cons_zero, List.set_cons_succ]
                      refine wpAnyL_take (i := 16) (oi := _) (v := undef) rfl (by kernel_rfl) (fun _ _ _ h => h) (by assumption) (Or.inr ⟨by kernel_rfl, rfl⟩) ?_
                      try simp only [Act.put, List.setIfInBounds_toArray, List.set_cons_zero, List.set_cons_succ]
                      refine wpAnyL_take (i := 17) (oi := _) (v := undef) rfl (by kernel_rfl) (fun _ _ _ h => h) (by assumption) (Or.inr ⟨by kernel_rfl, rfl⟩) ?_
                      try simp only [Act.put, List.setIfInBounds_toArray, List.set_cons_zero, List.set_cons_succ]
                      refine wpAnyL_take (i := 18) (oi := _) (v := undef) rfl (by kernel_rfl) (fun _ _ _ h => h) (by assumption) (Or.inr ⟨by kernel_rfl, rfl⟩) ?_
                      try simp only [Act.put, List.setIfInBounds_toArray, List.set_cons_zero, List.set_cons_succ]
                      refine wpAnyL_last (j := 19) (o := _) (by kernel_rfl) rfl (by rfl) (by kernel_rfl) (fun K hK => ?_)
                      go_simp
                      (refine hK _ _ ?_; clear hK K)
                      try simp only [Act.put, List.setIfInBounds_toArray, List.set_cons_zero, List.set_cons_succ]
                      have hE := Lib.hid (HKW.out _ hHeld.1)
                      clear hHeld
                      go_wp2_with fail
                      go_roundw
                      case rel => exact ⟨k + 1, by go_num, by omega, hE⟩
                      case measure => simp [intOf]; omega
                    · clear hkk HLV HLAST
                      go_wp2_with fail
                      clear hw1 hV
                      refine wp_region_L (l := 19) (S := (fun W1 => Below w1.heap.size w1 W1 ∧ W1.cell? ⟨V, 1, none⟩ = some (.int .u8 6) ∧ W1.cell? ⟨V, 2, none⟩ = some (.int .i64 a) ∧ W1.cell? ⟨V, 3, none⟩ = some (.int .i64 bv))) (by kernel_rfl) ?_ (fun hHeld => ?_)
                      · ((try dsimp only); (exact HS.out _ (Below.refl _ _).drew))
                      refine wpAnyL_take (i := 0) (oi := _) (v := ?v81) rfl (by kernel_rfl) (fun _ _ _ h => h) (by assumption) (Or.inl ⟨by kernel_rfl, ?y81⟩) ?r81
                      case y81 => (intro w hSw; (try dsimp only at hSw); go_simp; all_goals with_reducible rfl)
                      try simp only [Act.put, List.setIfInBounds_toArray, List.set_cons_zero, List.set_cons_succ]
                      refine wpAnyL_take (i := 1) (oi := _) (v := ?v82) rfl (by kernel_rfl) (fun _ _ _ h => h) (by assumption) (Or.inl ⟨by kernel_rfl, ?y82⟩) ?r82
                      case y82 => (intro w hSw; (try dsimp only at hSw); go_simp; all_goals with_reducible rfl)
                      try simp only [Act.put, List.setIfInBounds_toArray, List.set_cons_zero, List.set_cons_succ]
                      refine wpAnyL_take (i := 2) (oi := _) (v := ?v83) rfl (by kernel_rfl) (fun _ _ _ h => h) (by assumption) (Or.inl ⟨by kernel_rfl, ?y83⟩) ?r83
                      case y83 => (intro w hSw; (try dsimp only at hSw); go_simp; all_goals with_reducible rfl)
                      try simp only [Act.put, List.setIfInBounds_toArray, List.set_cons_zero, List.set_cons_succ]
                      refine wpAnyL_take (i := 3) (oi := _) (v := ?v84) rfl (by kernel_rfl) (fun _ _ _ h => h) (by assumption) (Or.inl ⟨by kernel_rfl, ?y84⟩) ?r84
                      case y84 => (intro w hSw; (try dsimp only at hSw); go_simp; all_goals with_reducible rfl)
                      try simp only [Act.put, List.setIfInBounds_toArray, List.set_cons_zero, List.set_cons_succ]
                      refine wpAnyL_take (i := 4) (oi := _) (v := ?v85) rfl (by kernel_rfl) (fun _ _ _ h => h) (by assumption) (Or.inl ⟨by kernel_rfl, ?y85⟩) ?r85
                      case y85 => (intro w hSw; (try dsimp only at hSw); go_simp; all_goals with_reducible rfl)
                      try simp only [Act.put, List.setIfInBounds_toArray, List.set_cons_zero, List.set_cons_succ]
                      refine wpAnyL_take (i := 5) (oi := _) (v := ?v86) rfl (by kernel_rfl) (fun _ _ _ h => h) (by assumption) (Or.inl ⟨by kernel_rfl, ?y86⟩) ?r86
                      case y86 => (intro w hSw; (try dsimp only at hSw); go_simp; all_goals with_reducible rfl)
                      try simp only [Act.put, List.setIfInBounds_toArray, List.set_cons_zero, List.set_cons_succ]
                      refine wpAnyL_take (i := 6) (oi := _) (v := ?v87) rfl (by kernel_rfl) (fun _ _ _ h => h) (by assumption) (Or.inl ⟨by kernel_rfl, ?y87⟩) ?r87
                      case y87 => (intro w hSw; (try dsimp only at hSw); go_simp; all_goals with_reducible rfl)
                      try simp only [Act.put, List.setIfInBounds_toArray, List.set_cons_zero, List.set_cons_succ]
                      refine wpAnyL_take (i := 7) (oi := _) (v := ?v88) rfl (by kernel_rfl) (fun _ _ _ h => h) (by assumption) (Or.inl ⟨by kernel_rfl, ?y88⟩) ?r88
                      case y88 => (intro w hSw; (try dsimp only at hSw); go_simp; all_goals with_reducible rfl)
                      try simp only [Act.put, List.setIfInBounds_toArray, List.set_cons_zero, List.set_cons_succ]
                      refine wpAnyL_take (i := 8) (oi := _) (v := ?v89) rfl (by kernel_rfl) (fun _ _ _ h => h) (by assumption) (Or.inl ⟨by kernel_rfl, ?y89⟩) ?r89
                      case y89 => (intro w hSw; (try dsimp only at hSw); go_simp; all_goals with_reducible rfl)
                      try simp only [Act.put, List.setIfInBounds_toArray, List.set_cons_zero, List.set_cons_succ]
                      refine wpAnyL_take (i := 9) (oi := _) (v := undef) rfl (by kernel_rfl) (fun _ _ _ h => h) (by assumption) (Or.inr ⟨by kernel_rfl, rfl⟩) ?_
                      try simp only [Act.put, List.setIfInBounds_toArray, List.set_cons_zero, List.set_cons_succ]
                      refine wpAnyL_take (i := 10) (oi := _) (v := undef) rfl (by kernel_rfl) (fun _ _ _ h => h) (by assumption) (Or.inr ⟨by kernel_rfl, rfl⟩) ?_
                      try simp only [Act.put, List.setIfInBounds_toArray, List.set_cons_zero, List.set_cons_succ]
                      refine wpAnyL_take (i := 11) (oi := _) (v := undef) rfl (by kernel_rfl) (fun _ _ _ h => h) (by assumption) (Or.inr ⟨by kernel_rfl, rfl⟩) ?_
                      try simp only [Act.put, List.setIfInBounds_toArray, List.set_cons_zero, List.set_cons_succ]
                      refine wpAnyL_take (i := 12) (oi := _) (v := undef) rfl (by kernel_rfl) (fun _ _ _ h => h) (by assumption) (Or.inr ⟨by kernel_rfl, rfl⟩) ?_
                      try simp only [Act.put, List.setIfInBounds_toArray, List.set_cons_zero, List.set_cons_succ]
                      refine wpAnyL_take (i := 13) (oi := _) (v := undef) rfl (by kernel_rfl) (fun _ _ _ h => h) (by assumption) (Or.inr ⟨by kernel_rfl, rfl⟩) ?_
                      try simp only [Act.put, List.setIfInBounds_toArray, List.set_cons_zero, List.set_cons_succ]
                      refine wpAnyL_take (i := 14) (oi := _) (v := undef) rfl (by kernel_rfl) (fun _ _ _ h => h) (by assumption) (Or.inr ⟨by kernel_rfl, rfl⟩) ?_
                      try simp only [Act.put, List.setIfInBounds_toArray, List.set_cons_zero, List.set_cons_succ]
                      refine wpAnyL_take (i := 15) (oi := _) (v := undef) rfl (by kernel_rfl) (fun _ _ _ h => h) (by assumption) (Or.inr ⟨by kernel_rfl, rfl⟩) ?_
                      try simp only [Act.put, List.setIfInBounds_toArray, List.set_cons_zero, List.set_cons_succ]
                      refine wpAnyL_take (i := 16) (oi := _) (v := undef) rfl (by kernel_rfl) (fun _ _ _ h => h) (by assumption) (Or.inr ⟨by kernel_rfl, rfl⟩) ?_
                      try simp only [Act.put, List.setIfInBounds_toArray, List.set_cons_zero, List.set_cons_succ]
                      refine wpAnyL_take (i := 17) (oi := _) (v := undef) rfl (by kernel_rfl) (fun _ _ _ h => h) (by assumption) (Or.inr ⟨by kernel_rfl, rfl⟩) ?_
                      try simp only [Act.put, List.setIfInBounds_toArray, List.set_cons_zero, List.set_cons_succ]
                      refine wpAnyL_take (i := 18) (oi := _) (v := undef) rfl (by kernel_rfl) (fun _ _ _ h => h) (by assumption) (Or.inr ⟨by kernel_rfl, rfl⟩) ?_
                      try simp only [Act.put, List.setIfInBounds_toArray, List.set_cons_zero, List.set_cons_succ]
                      refine wpAnyL_last (j := 19) (o := _) (by kernel_rfl) rfl (by rfl) (by kernel_rfl) (fun K hK => ?_)
                      go_simp
                      (refine hK _ _ ?_; clear hK K)
                      try simp only [Act.put, List.setIfInBounds_toArray, List.set_cons_zero, List.set_cons_succ]
                      have hE := Lib.hid (HKW.out _ hHeld.1)
                      clear hHeld
                      go_wp2_with fail
                      go_roundw
                      case rel => exact ⟨k + 1, by go_num, by omega, hE⟩
                      case measure => simp [intOf]; omega
                  · have t1 : decide ((k : Int) < 200) = false := by simp; omega
                    have t1n : decide (k < 200) = false := by simpa using h200
                    go_wp2_with fail
                    obtain ⟨wo3, rfl⟩ : ∃ wo : World, wo = wr := ⟨_, rfl⟩
                    go_loopw [11] (fun j wi => ∃ q : Nat, j = .int .i64 q ∧ n + 1 ≤ q ∧ q ≤ o.length ∧ Hid (Below w0.heap.size w0 wi)) (fun j _ => o.length - (intOf j).toNat)
                    case atStart => exact ⟨n + 1, by go_num, by omega, by omega, hW⟩
                    case round =>
                      clear hW d2 d7
                      obtain ⟨q, rfl, hnq, hq, hW⟩ := hrel
                      obtain ⟨d2, d7⟩ := D.out _ hW.out
                      by_cases hql : q < o.length
                      · obtain ⟨gb', goff', he, -, hgc⟩ := HI.out _ (HW0.out _ hW.out) (by rintro rfl; simp at hql)
                        injection he with he
                        injection he with he1 he2
                        subst he1; subst he2
                        obtain ⟨j, hj, hjl⟩ := HR.out _ (List.getElem_mem hql)
                        have f1 := hgc q _ (List.getElem?_eq_getElem hql)
                        rw [hj] at f1
                        obtain ⟨b', off', he, -, hc⟩ := (HA.out _ (HV0.out _ hW.out)).row (by rintro rfl; simp at hjl)
                        injection he with he
                        injection he with he1 he2
                        subst he1; subst he2
                        have f3 := (hc j _ (List.getElem?_eq_getElem hjl)).c3
                        have hle := hed.out q hql (by omega)
                        rw [hj, attN_get hjl] at hle
                        have r3 : (0 : Int) ≤ (j : Int) := Int.natCast_nonneg _
                        have r4 : (j : Int) < (l.length : Int) := by omega
                        have r5 : (0 : Int) ≤ (q : Int) := Int.natCast_nonneg _
                        have r6 : (q : Int) < (o.length : Int) := by omega
                        clear hc hgc hj
                        generalize l[j].en = yen at *
                        have t5 : decide (yen < bg) = false := by simp; omega
                        have hE := Lib.hid (fun nq => below_drewN hW.out nq)
                        clear hle hW
                        go_wp2_with fail
                        go_quiet (fail)
                        go_wp2_with fail
                        go_roundw
                        case rel => exact ⟨q + 1, by go_num, by omega, by omega, Lib.hid (hE.out _)⟩
                        case measure => simp [intOf]; omega
                      · have hE := Lib.hid (HW0.out _ hW.out)
                        clear hW d2 d7
                        go_wp2_with fail
                        go_roundw
                        case rel => exact ⟨n + 1, by go_num, by omega, hE⟩
                        case measure => simp [intOf]; omega
                · have t0 : decide ((k : Int) < (evs.length : Int)) = false := by simp; omega
                  have t0n : decide (k < evs.length) = false := by simpa using hkl
                  go_wp2_with fail
                  obtain ⟨wo3, rfl⟩ : ∃ wo : World, wo = wr := ⟨_, rfl⟩
                  go_loopw [11] (fun j wi => ∃ q : Nat, j = .int .i64 q ∧ n + 1 ≤ q ∧ q ≤ o.length ∧ Hid (Below w0.heap.size w0 wi)) (fun j _ => o.length - (intOf j).toNat)
                  case atStart => exact ⟨n + 1, by go_num, by omega, by omega, hW⟩
                  case round =>
                    clear hW d2 d7
                    obtain ⟨q, rfl, hnq, hq, hW⟩ := hrel
                    obtain ⟨d2, d7⟩ := D.out _ hW.out
                    by_cases hql : q < o.length
                    · obtain ⟨gb', goff', he, -, hgc⟩ := HI.out _ (HW0.out _ hW.out) (by rintro rfl; simp at hql)
                      injection he with he
                      injection he with he1 he2
                      subst he1; subst he2
                      obtain ⟨j, hj, hjl⟩ := HR.out _ (List.getElem_mem hql)
                      have f1 := hgc q _ (List.getElem?_eq_getElem hql)
                      rw [hj] at f1
                      obtain ⟨b', off', he, -, hc⟩ := (HA.out _ (HV0.out _ hW.out)).row (by rintro rfl; simp at hjl)
                      injection he with he
                      injection he with he1 he2
                      subst he1; subst he2
                      have f3 := (hc j _ (List.getElem?_eq_getElem hjl)).c3
                      have hle := hed.out q hql (by omega)
                      rw [hj, attN_get hjl] at hle
                      have r3 : (0 : Int) ≤ (j : Int) := Int.natCast_nonneg _
                      have r4 : (j : Int) < (l.length : Int) := by omega
                      have r5 : (0 : Int) ≤ (q : Int) := Int.natCast_nonneg _
                      have r6 : (q : Int) < (o.length : Int) := by omega
                      clear hc hgc hj
                      generalize l[j].en = yen at *
                      have t5 : decide (yen < bg) = false := by simp; omega
                      have hE := Lib.hid (fun nq => below_drewN hW.out nq)
                      clear hle hW
                      go_wp2_with fail
                      go_quiet (fail)
                      go_wp2_with fail
                      go_roundw
                      case rel => exact ⟨q + 1, by go_num, by omega, by omega, Lib.hid (hE.out _)⟩
                      case measure => simp [intOf]; omega
                    · have hE := Lib.hid (HW0.out _ hW.out)
                      clear hW d2 d7
                      go_wp2_with fail
                      go_roundw
                      case rel => exact ⟨n + 1, by go_num, by omega, hE⟩
                      case measure => simp [intOf]; omega
            · have t1 : decide ((n : Int) < 200) = false := by simp; omega
              have t1n : decide (n < 200) = false := by simpa using h200
              go_wp2_with fail
              refine (lives29_any _).mono ?_
              rintro e w3 ⟨rfl, hb3⟩
              have HB3 : Hid (Below w.heap.size w w3) := Lib.hid (HEW.out.trans (hb3.mono (HEW.out).size))
              clear hb3
              go_wp2_with fail
              go_ret
              exact ⟨rfl, HB3.out⟩
          · have t0 : decide ((n : Int) < (o.length : Int)) = false := by simp; omega
            have t0n : decide (n < o.length) = false := by simpa using hlt
            go_wp2_with fail
            refine (lives29_any _).mono ?_
            rintro e w3 ⟨rfl, hb3⟩
            have HB3 : Hid (Below w.heap.size w w3) := Lib.hid (HEW.out.trans (hb3.mono (HEW.out).size))
            clear hb3
            go_wp2_with fail
            go_ret
            exact ⟨rfl, HB3.out⟩
      · have h16 : (scheckV l).2 = 16 := ((scheckV_kinds l).1 hck).resolve_left hok
        clear hts hO hok hck
        generalize hR : scheckV l = R at *
        obtain ⟨r1, r2⟩ := R
        dsimp only at *
        subst h16
        clear hR
        go_enter Try.func3, Try.ntmps3
        go_wp2_with fail
        refine HSZ.out.mono ?_
        rintro e w' ⟨rfl, rfl⟩
        go_wp2_with fail
        refine (beyond_any w.heap.size 0 1 (asizeV l) HLE.out.1 HLE.out.2 _ (by simp)).mono ?_
        rintro e w' ⟨rfl, rfl⟩
        rw [HBY.out]
        go_wp2_with fail
        refine (HCK.out _ ((Below.refl _ _).alloc (Nat.le_refl _) _)).mono ?_
        rintro e w1 ⟨rfl, hb1⟩
        have HB1 : Hid (Below w.heap.size w w1) := Lib.hid (((Below.refl _ _).alloc (Nat.le_refl _) _).trans (hb1.mono (by simp)))
        clear hb1
        go_wp2_with fail
        refine (HOR.out _ HB1.out).mono ?_
        rintro e w2 ⟨hb2, ⟨hbad, -⟩ | ⟨-, OA, oc, rfl, hI⟩⟩
        · exact absurd HK.out hbad
        have HB2 : Hid (Below w.heap.size w w2) := Lib.hid (HB1.out.trans (hb2.mono HB1.out.size))
        clear hb2 hI HCK HOR
        go_wp2_with fail
        refine (lives29_any _).mono ?_
        rintro e w3 ⟨rfl, hb3⟩
        have HB3 : Hid (Below w.heap.size w w3) := Lib.hid (HB2.out.trans (hb3.mono (HB2.out).size))
        clear hb3
        go_wp2_with fail
        go_ret
        exact ⟨rfl, HB3.out⟩
    · have h2 := (scheckV_kinds l).2 hck
      have HO : Hid (∀ w1 e w2, OrdOut l w1 e w2 → Below w1.heap.size w1 w2 ∧ e = .returned (.tuple #[.slice none 0 0, .int .i64 (checkedV l)])) := Lib.hid (fun w1 e w2 h => ⟨h.1, h.2.elim (·.2) (fun h => absurd h.1 hck)⟩)
      have t1 : (checkedV l == 0) = false := by simpa using hck
      have t2 : (checkedV l != 0) = true := by simpa using hck
      clear hts hO
      generalize hR : scheckV l = R at *
      obtain ⟨r1, r2⟩ := R
      dsimp only at *
      subst h2
      clear hR
      have HOR2 := Lib.hid (fun W (h : Below w.heap.size w W) => (HOR.out W h).mono fun e w2 h2 => HO.out _ _ _ h2)
      clear HOR hck
      generalize checkedV l = cv at *
      have HOR := HOR2
      go_enter Try.func3, Try.ntmps3
      go_wp2_with fail
      refine HSZ.out.mono ?_
      rintro e w' ⟨rfl, rfl⟩
      go_wp2_with fail
      refine (beyond_any w.heap.size 0 1 (asizeV l) HLE.out.1 HLE.out.2 _ (by simp)).mono ?_
      rintro e w' ⟨rfl, rfl⟩
      rw [HBY.out]
      go_wp2_with fail
      refine (HCK.out _ ((Below.refl _ _).alloc (Nat.le_refl _) _)).mono ?_
      rintro e w1 ⟨rfl, hb1⟩
      have HB1 : Hid (Below w.heap.size w w1) := Lib.hid (((Below.refl _ _).alloc (Nat.le_refl _) _).trans (hb1.mono (by simp)))
      clear hb1
      go_wp2_with fail
      refine (HOR.out _ HB1.out).mono ?_
      rintro e w2 ⟨hb2, rfl⟩
      have HB2 : Hid (Below w.heap.size w w2) := Lib.hid (HB1.out.trans (hb2.mono HB1.out.size))
      clear hb2 HCK HOR HOR2
      go_wp2_with fail
      refine (lives29_any _).mono ?_
      rintro e w3 ⟨rfl, hb3⟩
      have HB3 : Hid (Below w.heap.size w w3) := Lib.hid (HB2.out.trans (hb3.mono (HB2.out).size))
      clear hb3
      go_wp2_with fail
      go_ret
      exact ⟨rfl, HB3.out⟩
end Go.Proofs.Ytjaegddnikkibaa
