/-
  The second reference's Check, walked.
-/
import Derived.Test.YtjaegddnikkibaaRfBefore
import Derived.Test.YtjaegddnikkibaaRfSorted
import Derived.Test.YtjaegddnikkibaaOpCheck
import Derived.Test.YtjaegddnikkibaaRegion
set_option linter.unusedVariables false
set_option linter.unusedSimpArgs false
namespace Go.Proofs.Ytjaegddnikkibaa
open Go.RowKit Go.Sort Go.Maps

abbrev CkS (w0 : World) (b o : Nat) (th kd bg en ck pl : Int) (wt : Bool) (dv : Value) (W : World) : Prop :=
  Below w0.heap.size w0 W ∧
    W.cell? ⟨b, o, none⟩ = some (.int .i64 th) ∧ W.cell? ⟨b, o + 1, none⟩ = some (.int .u8 kd) ∧ W.cell? ⟨b, o + 2, none⟩ = some (.int .i64 bg) ∧ W.cell? ⟨b, o + 3, none⟩ = some (.int .i64 en) ∧ W.cell? ⟨b, o + 4, none⟩ = some (.int .i64 ck) ∧
    W.cell? ⟨b, o + 5, none⟩ = some (.int .i64 pl) ∧ W.cell? ⟨b, o + 6, none⟩ = some (.bool wt) ∧ W.cell? ⟨b, o + 7, none⟩ = some dv
theorem ckS_of {w0 : World} {b o : Nat} {x : Att} (h : AttAt w0 b o x) (W : World) (hW : Below w0.heap.size w0 W) :
    CkS w0 b o x.th x.kd x.bg x.en x.ck x.pl x.wr (.slice x.dA x.evs.length x.dc) W := by
  have hb := World.block_lt_of_cell? _ _ h.c0
  obtain ⟨a0, a1, a2, a3, a4, a5, a6, a7⟩ := h.keep fun o' => hW.cell (p := ⟨b, o', none⟩) hb
  exact ⟨hW, a0, a1, a2, a3, a4, a5, a6, a7⟩

set_option maxHeartbeats 4000000 in
set_option maxRecDepth 100000 in
theorem rfCheck_any (A : Option Addr) (c : Nat) (l : List Att) (hn : l.length ≤ 1048576) (hts0 : totalSize l ≤ 262144) (hO : ∀ x ∈ l, x.Ok) (w : World) (ha : AttsAt w w.heap.size A l) :
    Calls Try.prog 19 #[.slice A l.length c] w fun e w' => e = .returned (.tuple #[.int .i64 (ocheckV l).1, .int .i64 (ocheckV l).2]) ∧ Below w.heap.size w w' := by
  have HC := Lib.hid (fun w1 (h : Below w.heap.size w w1) => rfMay_any A c l (by omega) hO w1 (ha.keep h h.size))
  have HSO := Lib.hid (fun w1 (h : Below w.heap.size w w1) => rfSorted_any A c l hn w1 (ha.keep h h.size))
  have HA := Lib.hid (fun W (h : Below w.heap.size w W) => ha.keep h (Nat.le_refl _))
  clear ha hO
  by_cases hck : checkedV l = 0
  · obtain ⟨hts, hatt⟩ := checked_ok hck
    have HEE : Hid (∀ x ∈ l, ∀ e ∈ x.evs, ∃ t, evB t e = true) := Lib.hid (fun x hx e he => ⟨x.th, attB_evs (hatt x hx) e he⟩)
    have HV : Hid (ocheckV l = failV 17 (firstNot (seenB l) 0 l.length)) := Lib.hid (by unfold ocheckV; rw [if_pos hck])
    have HK := Lib.hid hck
    have HSUM : Hid (evSum l (orderV l) ≤ 1048576) := Lib.hid (Nat.le_trans (evSum_order (l := l)) hts)
    have HTOT : Hid (evSum l (orderV l) ≤ totalSize l) := Lib.hid evSum_order
    have hol := Nat.le_trans (order_len l) hn
    have HR : Hid (∀ i ∈ orderV l, ∃ j : Nat, i = j ∧ j < l.length) := Lib.hid (fun i hi => by
      obtain ⟨j, hj, x, hx, -⟩ := orderV_mem hi
      exact ⟨j, hj, (List.getElem?_eq_some_iff.1 hx).1⟩)
    have HSEEN := Lib.hid (show ∀ n : Int, seenB l n = (freshV l (orderV l) n && okV (heapV l (orderV l) n) (attN l n).evs) from fun n => rfl)
    clear hatt hts hck
    obtain ⟨res, hres⟩ : ∃ res, ocheckV l = res := ⟨_, rfl⟩
    rw [hres] at HV ⊢
    clear hres
    obtain ⟨o, ho⟩ : ∃ o, orderV l = o := ⟨_, rfl⟩
    have HOE := Lib.hid ho
    rw [ho] at HSO HSUM HTOT hol HR HSEEN
    clear ho
    go_enter Try.func19, Try.ntmps19
    go_wp2_with fail
    refine (HC.out _ (Below.refl _ _)).mono ?_
    rintro e w0 ⟨rfl, hb1⟩
    rw [HK.out]
    have HB0 := Lib.hid hb1
    clear hb1
    go_wp2_with fail
    refine (HSO.out _ HB0.out).mono ?_
    rintro e w1 ⟨⟨OA, oc, rfl, hI⟩, hb1⟩
    have HB1 := Lib.hid (HB0.out.trans (hb1.mono HB0.out.size))
    have HI := Lib.hid (fun W (h : Below w1.heap.size w1 W) => hI.keep h)
    clear hb1 hI HB0 HSO
    go_wp2_with fail
    go_loopw [6] (fun i wr => ∃ k : Nat, i = .int .i64 k ∧ k ≤ l.length ∧ Hid (res = failV 17 (firstNot (seenB l) k (l.length - k))) ∧ Hid (Below w1.heap.size w1 wr)) (fun i _ => l.length - (intOf i).toNat)
    case atStart => exact ⟨0, rfl, Nat.zero_le _, HV, Lib.hid (Below.refl _ _)⟩
    case round =>
      clear HV
      obtain ⟨k, rfl, hk, hV, hW1⟩ := hrel
      have hW := Lib.hid (HB1.out.trans (hW1.out.mono HB1.out.size))
      have HEND := Lib.hid (fun W (h : Below w1.heap.size w1 W) => HB1.out.trans (h.mono HB1.out.size))
      by_cases hlt : k < l.length
      · obtain ⟨b, off, rfl, hbl, -⟩ := (HA.out _ hW.out).row (by rintro rfl; simp at hlt)
        have HCX := Lib.hid ((HA.out _ hW.out).at (List.getElem?_eq_getElem hlt))
        have HWW := Lib.hid (fun W (h : Below wr.heap.size wr W) => hW1.out.trans (h.mono hW1.out.size))
        have HZZ := Lib.hid (fun W (h : Below wr.heap.size wr W) => hW.out.trans (h.mono hW.out.size))
        have HAW := Lib.hid (fun W (h : Below wr.heap.size wr W) => HA.out W (HZZ.out W h))
        have HAA := Lib.hid (fun W (h : Below wr.heap.size wr W) => (HA.out W (HZZ.out W h)).keep (Below.refl _ _) (HZZ.out W h).size)
        have HZW := Lib.hid (fun W (h : Below wr.heap.size wr W) => (HZZ.out W h).size)
        have HIW := Lib.hid (fun W (h : Below wr.heap.size wr W) => HI.out W (HWW.out W h))
        have HEV := Lib.hid (fun W (h : Below wr.heap.size wr W) => (HAW.out W h).evs _ (List.getElem_mem hlt))
        have HEX := Lib.hid (HEE.out _ (List.getElem_mem hlt))
        have hxl := evs_le_total l _ (List.getElem_mem hlt)
        have hkat := Lib.hid (attN_get hlt)
        have hst : Hid (firstNot (seenB l) k (l.length - k) = if seenB l (k : Int) then firstNot (seenB l) (k + 1) (l.length - (k + 1)) else some (k : Int)) := Lib.hid (by rw [show l.length - k = (l.length - (k + 1)) + 1 by omega]; rfl)
        have hsn : Hid (seenB l (k : Int) = (freshV l o (k : Int) && okV (heapV l o (k : Int)) l[k].evs)) := Lib.hid (by rw [HSEEN.out, hkat.out])
        have q1 : (k : Int) < (l.length : Int) := by omega
        have q2 : (0 : Int) ≤ (k : Int) := Int.natCast_nonneg _
        clear hkat
        generalize l[k] = x at *
        obtain ⟨th, kd, bg, en, ck, pl, wt, dA, dc, evs⟩ := x
        have HS := Lib.hid (ckS_of HCX.out)
        have HEN : Hid (65 * evSum l o + evs.length * 65 ≤ 68157440) := Lib.hid (by have := HTOT.out; dsimp only at hxl; omega)
        dsimp only at *
        clear HCX
        cases hfr : freshV l o (k : Int)
        · have HFV := Lib.hid hfr
          have hF : Hid (res = ((k : Int), 17)) := Lib.hid (by rw [hV.out, hst.out, hsn.out, hfr]; rfl)
          clear hV hst hsn hfr
          go_wp2_with fail
          refine wp_region_L (l := 15) (S := (CkS wr b (off + k * 8) th kd bg en ck pl wt (.slice dA evs.length dc))) (by kernel_rfl) ?_ (fun hHeld => ?_)
          · ((try dsimp only); (exact HS.out _ (Below.refl _ _).drew))
          refine wpAnyL_take (i := 0) (oi := _) (v := ?v1) rfl (by kernel_rfl) (fun _ _ _ h => h) (by assumption) (Or.inl ⟨by kernel_rfl, ?y1⟩) ?r1
          case y1 => (intro w hSw; (try dsimp only at hSw); go_simp; all_goals with_reducible rfl)
          try simp only [Act.put, List.setIfInBounds_toArray, List.set_cons_zero, List.set_cons_succ]
          refine wpAnyL_take (i := 1) (oi := _) (v := ?v2) rfl (by kernel_rfl) (fun _ _ _ h => h) (by assumption) (Or.inl ⟨by kernel_rfl, ?y2⟩) ?r2
          case y2 => (intro w hSw; (try dsimp only at hSw); go_simp; all_goals with_reducible rfl)
          try simp only [Act.put, List.setIfInBounds_toArray, List.set_cons_zero, List.set_cons_succ]
          refine wpAnyL_step (j := 2) (o := _) (by kernel_rfl) rfl (fun K hK => ?_)
          (go_simp; go_at_call 50; refine (rfFresh_any (some ⟨b, off, none⟩) c l k hlt hn w.heap.size _ (HAW.out _ hHeld.1) (HZW.out _ hHeld.1)).mono ?_; rintro e w2 ⟨rfl, hb2⟩; rw [HOE.out, HFV.out])
          refine hK _ _ ?_ (fun hHeld => ?_)
          · ((try dsimp only); (exact HS.out _ (hHeld.1.trans (hb2.mono hHeld.1.size))))
          clear hK K
          try simp only [Act.put, List.setIfInBounds_toArray, List.set_cons_zero, List.set_cons_succ]
          refine wpAnyL_take (i := 3) (oi := _) (v := ?v4) rfl (by kernel_rfl) (fun _ _ _ h => h) (by assumption) (Or.inl ⟨by kernel_rfl, ?y4⟩) ?r4
          case y4 => (intro w hSw; (try dsimp only at hSw); go_simp; all_goals with_reducible rfl)
          try simp only [Act.put, List.setIfInBounds_toArray, List.set_cons_zero, List.set_cons_succ]
          refine wpAnyL_take (i := 4) (oi := _) (v := ?v5) rfl (by kernel_rfl) (fun _ _ _ h => h) (by assumption) (Or.inl ⟨by kernel_rfl, ?y5⟩) ?r5
          case y5 => (intro w hSw; (try dsimp only at hSw); go_simp; all_goals with_reducible rfl)
          try simp only [Act.put, List.setIfInBounds_toArray, List.set_cons_zero, List.set_cons_succ]
          refine wpAnyL_take (i := 5) (oi := _) (v := undef) rfl (by kernel_rfl) (fun _ _ _ h => h) (by assumption) (Or.inr ⟨by kernel_rfl, rfl⟩) ?_
          try simp only [Act.put, List.setIfInBounds_toArray, List.set_cons_zero, List.set_cons_succ]
          refine wpAnyL_take (i := 6) (oi := _) (v := undef) rfl (by kernel_rfl) (fun _ _ _ h => h) (by assumption) (Or.inr ⟨by kernel_rfl, rfl⟩) ?_
          try simp only [Act.put, List.setIfInBounds_toArray, List.set_cons_zero, List.set_cons_succ]
          refine wpAnyL_take (i := 7) (oi := _) (v := undef) rfl (by kernel_rfl) (fun _ _ _ h => h) (by assumption) (Or.inr ⟨by kernel_rfl, rfl⟩) ?_
          try simp only [Act.put, List.setIfInBounds_toArray, List.set_cons_zero, List.set_cons_succ]
          refine wpAnyL_take (i := 8) (oi := _) (v := undef) rfl (by kernel_rfl) (fun _ _ _ h => h) (by assumption) (Or.inr ⟨by kernel_rfl, rfl⟩) ?_
          try simp only [Act.put, List.setIfInBounds_toArray, List.set_cons_zero, List.set_cons_succ]
          refine wpAnyL_take (i := 9) (oi := _) (v := undef) rfl (by kernel_rfl) (fun _ _ _ h => h) (by assumption) (Or.inr ⟨by kernel_rfl, rfl⟩) ?_
          try simp only [Act.put, List.setIfInBounds_toArray, List.set_cons_zero, List.set_cons_succ]
          refine wpAnyL_take (i := 10) (oi := _) (v := undef) rfl (by kernel_rfl) (fun _ _ _ h => h) (by assumption) (Or.inr ⟨by kernel_rfl, rfl⟩) ?_
          try simp only [Act.put, List.setIfInBounds_toArray, List.set_cons_zero, List.set_cons_succ]
          refine wpAnyL_take (i := 11) (oi := _) (v := undef) rfl (by kernel_rfl) (fun _ _ _ h => h) (by assumption) (Or.inr ⟨by kernel_rfl, rfl⟩) ?_
          try simp only [Act.put, List.setIfInBounds_toArray, List.set_cons_zero, List.set_cons_succ]
          refine wpAnyL_take (i := 12) (oi := _) (v := undef) rfl (by kernel_rfl) (fun _ _ _ h => h) (by assumption) (Or.inr ⟨by kernel_rfl, rfl⟩) ?_
          try simp only [Act.put, List.setIfInBounds_toArray, List.set_cons_zero, List.set_cons_succ]
          refine wpAnyL_take (i := 13) (oi := _) (v := undef) rfl (by kernel_rfl) (fun _ _ _ h => h) (by assumption) (Or.inr ⟨by kernel_rfl, rfl⟩) ?_
          try simp only [Act.put, List.setIfInBounds_toArray, List.set_cons_zero, List.set_cons_succ]
          refine wpAnyL_take (i := 14) (oi := _) (v := undef) rfl (by kernel_rfl) (fun _ _ _ h => h) (by assumption) (Or.inr ⟨by kernel_rfl, rfl⟩) ?_
          try simp only [Act.put, List.setIfInBounds_toArray, List.set_cons_zero, List.set_cons_succ]
          refine wpAnyL_last (j := 15) (o := _) (by kernel_rfl) rfl (by rfl) (by kernel_rfl) (fun K hK => ?_)
          go_simp
          (refine hK _ _ ?_; clear hK K)
          try simp only [Act.put, List.setIfInBounds_toArray, List.set_cons_zero, List.set_cons_succ]
          have hE2 := Lib.hid (HWW.out _ hHeld.1)
          clear hHeld
          go_wp2_with fail
          refine bodyPost_ret (v := .tuple #[.int .i64 k, .int .i64 17]) (by simp [results, Try.results19, go_sem]) rfl ?_
          exact ⟨by rw [hF.out], HEND.out _ hE2.out⟩
        · have HFV := Lib.hid hfr
          cases hokv : okV (heapV l o (k : Int)) evs
          · have HOKV := Lib.hid hokv
            have hF : Hid (res = ((k : Int), 17)) := Lib.hid (by rw [hV.out, hst.out, hsn.out, hfr, hokv]; rfl)
            clear hV hst hsn hfr hokv
            go_wp2_with fail
            refine wp_region_L (l := 15) (S := (CkS wr b (off + k * 8) th kd bg en ck pl wt (.slice dA evs.length dc))) (by kernel_rfl) ?_ (fun hHeld => ?_)
            · ((try dsimp only); (exact HS.out _ (Below.refl _ _).drew))
            refine wpAnyL_take (i := 0) (oi := _) (v := ?v17) rfl (by kernel_rfl) (fun _ _ _ h => h) (by assumption) (Or.inl ⟨by kernel_rfl, ?y17⟩) ?r17
            case y17 => (intro w hSw; (try dsimp only at hSw); go_simp; all_goals with_reducible rfl)
            try simp only [Act.put, List.setIfInBounds_toArray, List.set_cons_zero, List.set_cons_succ]
            refine wpAnyL_take (i := 1) (oi := _) (v := ?v18) rfl (by kernel_rfl) (fun _ _ _ h => h) (by assumption) (Or.inl ⟨by kernel_rfl, ?y18⟩) ?r18
            case y18 => (intro w hSw; (try dsimp only at hSw); go_simp; all_goals with_reducible rfl)
            try simp only [Act.put, List.setIfInBounds_toArray, List.set_cons_zero, List.set_cons_succ]
            refine wpAnyL_step (j := 2) (o := _) (by kernel_rfl) rfl (fun K hK => ?_)
            (go_simp; go_at_call 50; refine (rfFresh_any (some ⟨b, off, none⟩) c l k hlt hn w.heap.size _ (HAW.out _ hHeld.1) (HZW.out _ hHeld.1)).mono ?_; rintro e w2 ⟨rfl, hb2⟩; rw [HOE.out, HFV.out])
            refine hK _ _ ?_ (fun hHeld => ?_)
            · ((try dsimp only); (exact HS.out _ (hHeld.1.trans (hb2.mono hHeld.1.size))))
            clear hK K
            try simp only [Act.put, List.setIfInBounds_toArray, List.set_cons_zero, List.set_cons_succ]
            refine wpAnyL_take (i := 3) (oi := _) (v := ?v20) rfl (by kernel_rfl) (fun _ _ _ h => h) (by assumption) (Or.inl ⟨by kernel_rfl, ?y20⟩) ?r20
            case y20 => (intro w hSw; (try dsimp only at hSw); go_simp; all_goals with_reducible rfl)
            try simp only [Act.put, List.setIfInBounds_toArray, List.set_cons_zero, List.set_cons_succ]
            refine wpAnyL_take (i := 4) (oi := _) (v := ?v21) rfl (by kernel_rfl) (fun _ _ _ h => h) (by assumption) (Or.inl ⟨by kernel_rfl, ?y21⟩) ?r21
            case y21 => (intro w hSw; (try dsimp only at hSw); go_simp; all_goals with_reducible rfl)
            try simp only [Act.put, List.setIfInBounds_toArray, List.set_cons_zero, List.set_cons_succ]
            refine wpAnyL_take (i := 5) (oi := _) (v := ?v22) rfl (by kernel_rfl) (fun _ _ _ h => h) (by assumption) (Or.inl ⟨by kernel_rfl, ?y22⟩) ?r22
            case y22 => (intro w hSw; (try dsimp only at hSw); go_simp; all_goals with_reducible rfl)
            try simp only [Act.put, List.setIfInBounds_toArray, List.set_cons_zero, List.set_cons_succ]
            refine wpAnyL_take (i := 6) (oi := _) (v := ?v23) rfl (by kernel_rfl) (fun _ _ _ h => h) (by assumption) (Or.inl ⟨by kernel_rfl, ?y23⟩) ?r23
            case y23 => (intro w hSw; (try dsimp only at hSw); go_simp; all_goals with_reducible rfl)
            try simp only [Act.put, List.setIfInBounds_toArray, List.set_cons_zero, List.set_cons_succ]
            refine wpAnyL_take (i := 7) (oi := _) (v := ?v24) rfl (by kernel_rfl) (fun _ _ _ h => h) (by assumption) (Or.inl ⟨by kernel_rfl, ?y24⟩) ?r24
            case y24 => (intro w hSw; (try dsimp only at hSw); go_simp; all_goals with_reducible rfl)
            try simp only [Act.put, List.setIfInBounds_toArray, List.set_cons_zero, List.set_cons_succ]
            refine wpAnyL_take (i := 9) (oi := _) (v := ?v25) rfl (by kernel_rfl) (fun _ _ _ h => h) (by assumption) (Or.inl ⟨by kernel_rfl, ?y25⟩) ?r25
            case y25 => (intro w hSw; (try dsimp only at hSw); go_simp; all_goals with_reducible rfl)
            try simp only [Act.put, List.setIfInBounds_toArray, List.set_cons_zero, List.set_cons_succ]
            refine wpAnyL_take (i := 10) (oi := _) (v := ?v26) rfl (by kernel_rfl) (fun _ _ _ h => h) (by assumption) (Or.inl ⟨by kernel_rfl, ?y26⟩) ?r26
            case y26 => (intro w hSw; (try dsimp only at hSw); go_simp; all_goals with_reducible rfl)
            try simp only [Act.put, List.setIfInBounds_toArray, List.set_cons_zero, List.set_cons_succ]
            refine wpAnyL_take (i := 11) (oi := _) (v := ?v27) rfl (by kernel_rfl) (fun _ _ _ h => h) (by assumption) (Or.inl ⟨by kernel_rfl, ?y27⟩) ?r27
            case y27 => (intro w hSw; (try dsimp only at hSw); go_simp; all_goals with_reducible rfl)
            try simp only [Act.put, List.setIfInBounds_toArray, List.set_cons_zero, List.set_cons_succ]
            refine wpAnyL_take (i := 12) (oi := _) (v := ?v28) rfl (by kernel_rfl) (fun _ _ _ h => h) (by assumption) (Or.inl ⟨by kernel_rfl, ?y28⟩) ?r28
            case y28 => (intro w hSw; (try dsimp only at hSw); go_simp; all_goals with_reducible rfl)
            try simp only [Act.put, List.setIfInBounds_toArray, List.set_cons_zero, List.set_cons_succ]
            refine wpAnyL_step (j := 8) (o := _) (by kernel_rfl) rfl (fun K hK => ?_)
            (go_simp; have hs3 := hHeld.1.size; go_at_call 51; refine (rfBefore_any (some ⟨b, off, none⟩) OA c oc k l o hlt hn hol HSUM.out HEE.out HR.out _ (HAA.out _ hHeld.1) (HIW.out _ hHeld.1)).mono ?_; rintro e w4 ⟨rfl, ⟨cs, hl4, hH4, hg4⟩, hb4⟩)
            refine hK _ _ ?_ (fun hHeld => ?_)
            · ((try dsimp only); (exact HS.out _ (hHeld.1.trans (hb4.mono hHeld.1.size))))
            clear hK K
            try simp only [Act.put, List.setIfInBounds_toArray, List.set_cons_zero, List.set_cons_succ]
            refine wpAnyL_step (j := 13) (o := _) (by kernel_rfl) rfl (fun K hK => ?_)
            (go_simp; go_at_call 52; refine (rfDone_any _ cs th kd bg en ck pl wt dA dc evs (65 * evSum l o) hl4 HEN.out HEX.out _ hH4 (fun W hf => (HEV.out _ (hHeld.1.trans ((hf.below (Nat.le_of_lt hH4.lt)).mono hs3))).keep (Below.refl _ _) (HZW.out _ (hHeld.1.trans ((hf.below (Nat.le_of_lt hH4.lt)).mono hs3))))).mono ?_; rintro e w5 ⟨rfl, -, hP5⟩; rw [hg4, HOKV.out])
            refine hK _ _ ?_ (fun hHeld => ?_)
            · ((try dsimp only); (exact HS.out _ (hHeld.1.trans ((hP5.below (Nat.le_of_lt hH4.lt)).mono hs3))))
            clear hK K
            try simp only [Act.put, List.setIfInBounds_toArray, List.set_cons_zero, List.set_cons_succ]
            refine wpAnyL_take (i := 14) (oi := _) (v := ?v31) rfl (by kernel_rfl) (fun _ _ _ h => h) (by assumption) (Or.inl ⟨by kernel_rfl, ?y31⟩) ?r31
            case y31 => (intro w hSw; (try dsimp only at hSw); go_simp; all_goals with_reducible rfl)
            try simp only [Act.put, List.setIfInBounds_toArray, List.set_cons_zero, List.set_cons_succ]
            refine wpAnyL_last (j := 15) (o := _) (by kernel_rfl) rfl (by rfl) (by kernel_rfl) (fun K hK => ?_)
            go_simp
            (refine hK _ _ ?_; clear hK K)
            try simp only [Act.put, List.setIfInBounds_toArray, List.set_cons_zero, List.set_cons_succ]
            have hE2 := Lib.hid (HWW.out _ hHeld.1)
            clear hHeld
            go_wp2_with fail
            refine bodyPost_ret (v := .tuple #[.int .i64 k, .int .i64 17]) (by simp [results, Try.results19, go_sem]) rfl ?_
            exact ⟨by rw [hF.out], HEND.out _ hE2.out⟩
          · have HOKV := Lib.hid hokv
            have hF : Hid (res = failV 17 (firstNot (seenB l) (k + 1) (l.length - (k + 1)))) := Lib.hid (by rw [hV.out, hst.out, hsn.out, hfr, hokv]; rfl)
            clear hV hst hsn hfr hokv
            go_wp2_with fail
            refine wp_region_L (l := 15) (S := (CkS wr b (off + k * 8) th kd bg en ck pl wt (.slice dA evs.length dc))) (by kernel_rfl) ?_ (fun hHeld => ?_)
            · ((try dsimp only); (exact HS.out _ (Below.refl _ _).drew))
            refine wpAnyL_take (i := 0) (oi := _) (v := ?v33) rfl (by kernel_rfl) (fun _ _ _ h => h) (by assumption) (Or.inl ⟨by kernel_rfl, ?y33⟩) ?r33
            case y33 => (intro w hSw; (try dsimp only at hSw); go_simp; all_goals with_reducible rfl)
            try simp only [Act.put, List.setIfInBounds_toArray, List.set_cons_zero, List.set_cons_succ]
            refine wpAnyL_take (i := 1) (oi := _) (v := ?v34) rfl (by kernel_rfl) (fun _ _ _ h => h) (by assumption) (Or.inl ⟨by kernel_rfl, ?y34⟩) ?r34
            case y34 => (intro w hSw; (try dsimp only at hSw); go_simp; all_goals with_reducible rfl)
            try simp only [Act.put, List.setIfInBounds_toArray, List.set_cons_zero, List.set_cons_succ]
            refine wpAnyL_step (j := 2) (o := _) (by kernel_rfl) rfl (fun K hK => ?_)
            (go_simp; go_at_call 50; refine (rfFresh_any (some ⟨b, off, none⟩) c l k hlt hn w.heap.size _ (HAW.out _ hHeld.1) (HZW.out _ hHeld.1)).mono ?_; rintro e w2 ⟨rfl, hb2⟩; rw [HOE.out, HFV.out])
            refine hK _ _ ?_ (fun hHeld => ?_)
            · ((try dsimp only); (exact HS.out _ (hHeld.1.trans (hb2.mono hHeld.1.size))))
            clear hK K
            try simp only [Act.put, List.setIfInBounds_toArray, List.set_cons_zero, List.set_cons_succ]
            refine wpAnyL_take (i := 3) (oi := _) (v := ?v36) rfl (by kernel_rfl) (fun _ _ _ h => h) (by assumption) (Or.inl ⟨by kernel_rfl, ?y36⟩) ?r36
            case y36 => (intro w hSw; (try dsimp only at hSw); go_simp; all_goals with_reducible rfl)
            try simp only [Act.put, List.setIfInBounds_toArray, List.set_cons_zero, List.set_cons_succ]
            refine wpAnyL_take (i := 4) (oi := _) (v := ?v37) rfl (by kernel_rfl) (fun _ _ _ h => h) (by assumption) (Or.inl ⟨by kernel_rfl, ?y37⟩) ?r37
            case y37 => (intro w hSw; (try dsimp only at hSw); go_simp; all_goals with_reducible rfl)
            try simp only [Act.put, List.setIfInBounds_toArray, List.set_cons_zero, List.set_cons_succ]
            refine wpAnyL_take (i := 5) (oi := _) (v := ?v38) rfl (by kernel_rfl) (fun _ _ _ h => h) (by assumption) (Or.inl ⟨by kernel_rfl, ?y38⟩) ?r38
            case y38 => (intro w hSw; (try dsimp only at hSw); go_simp; all_goals with_reducible rfl)
            try simp only [Act.put, List.setIfInBounds_toArray, List.set_cons_zero, List.set_cons_succ]
            refine wpAnyL_take (i := 6) (oi := _) (v := ?v39) rfl (by kernel_rfl) (fun _ _ _ h => h) (by assumption) (Or.inl ⟨by kernel_rfl, ?y39⟩) ?r39
            case y39 => (intro w hSw; (try dsimp only at hSw); go_simp; all_goals with_reducible rfl)
            try simp only [Act.put, List.setIfInBounds_toArray, List.set_cons_zero, List.set_cons_succ]
            refine wpAnyL_take (i := 7) (oi := _) (v := ?v40) rfl (by kernel_rfl) (fun _ _ _ h => h) (by assumption) (Or.inl ⟨by kernel_rfl, ?y40⟩) ?r40
            case y40 => (intro w hSw; (try dsimp only at hSw); go_simp; all_goals with_reducible rfl)
            try simp only [Act.put, List.setIfInBounds_toArray, List.set_cons_zero, List.set_cons_succ]
            refine wpAnyL_take (i := 9) (oi := _) (v := ?v41) rfl (by kernel_rfl) (fun _ _ _ h => h) (by assumption) (Or.inl ⟨by kernel_rfl, ?y41⟩) ?r41
            case y41 => (intro w hSw; (try dsimp only at hSw); go_simp; all_goals with_reducible rfl)
            try simp only [Act.put, List.setIfInBounds_toArray, List.set_cons_zero, List.set_cons_succ]
            refine wpAnyL_take (i := 10) (oi := _) (v := ?v42) rfl (by kernel_rfl) (fun _ _ _ h => h) (by assumption) (Or.inl ⟨by kernel_rfl, ?y42⟩) ?r42
            case y42 => (intro w hSw; (try dsimp only at hSw); go_simp; all_goals with_reducible rfl)
            try simp only [Act.put, List.setIfInBounds_toArray, List.set_cons_zero, List.set_cons_succ]
            refine wpAnyL_take (i := 11) (oi := _) (v := ?v43) rfl (by kernel_rfl) (fun _ _ _ h => h) (by assumption) (Or.inl ⟨by kernel_rfl, ?y43⟩) ?r43
            case y43 => (intro w hSw; (try dsimp only at hSw); go_simp; all_goals with_reducible rfl)
            try simp only [Act.put, List.setIfInBounds_toArray, List.set_cons_zero, List.set_cons_succ]
            refine wpAnyL_take (i := 12) (oi := _) (v := ?v44) rfl (by kernel_rfl) (fun _ _ _ h => h) (by assumption) (Or.inl ⟨by kernel_rfl, ?y44⟩) ?r44
            case y44 => (intro w hSw; (try dsimp only at hSw); go_simp; all_goals with_reducible rfl)
            try simp only [Act.put, List.setIfInBounds_toArray, List.set_cons_zero, List.set_cons_succ]
            refine wpAnyL_step (j := 8) (o := _) (by kernel_rfl) rfl (fun K hK => ?_)
            (go_simp; have hs3 := hHeld.1.size; go_at_call 51; refine (rfBefore_any (some ⟨b, off, none⟩) OA c oc k l o hlt hn hol HSUM.out HEE.out HR.out _ (HAA.out _ hHeld.1) (HIW.out _ hHeld.1)).mono ?_; rintro e w4 ⟨rfl, ⟨cs, hl4, hH4, hg4⟩, hb4⟩)
            refine hK _ _ ?_ (fun hHeld => ?_)
            · ((try dsimp only); (exact HS.out _ (hHeld.1.trans (hb4.mono hHeld.1.size))))
            clear hK K
            try simp only [Act.put, List.setIfInBounds_toArray, List.set_cons_zero, List.set_cons_succ]
            refine wpAnyL_step (j := 13) (o := _) (by kernel_rfl) rfl (fun K hK => ?_)
            (go_simp; go_at_call 52; refine (rfDone_any _ cs th kd bg en ck pl wt dA dc evs (65 * evSum l o) hl4 HEN.out HEX.out _ hH4 (fun W hf => (HEV.out _ (hHeld.1.trans ((hf.below (Nat.le_of_lt hH4.lt)).mono hs3))).keep (Below.refl _ _) (HZW.out _ (hHeld.1.trans ((hf.below (Nat.le_of_lt hH4.lt)).mono hs3))))).mono ?_; rintro e w5 ⟨rfl, -, hP5⟩; rw [hg4, HOKV.out])
            refine hK _ _ ?_ (fun hHeld => ?_)
            · ((try dsimp only); (exact HS.out _ (hHeld.1.trans ((hP5.below (Nat.le_of_lt hH4.lt)).mono hs3))))
            clear hK K
            try simp only [Act.put, List.setIfInBounds_toArray, List.set_cons_zero, List.set_cons_succ]
            refine wpAnyL_take (i := 14) (oi := _) (v := ?v47) rfl (by kernel_rfl) (fun _ _ _ h => h) (by assumption) (Or.inl ⟨by kernel_rfl, ?y47⟩) ?r47
            case y47 => (intro w hSw; (try dsimp only at hSw); go_simp; all_goals with_reducible rfl)
            try simp only [Act.put, List.setIfInBounds_toArray, List.set_cons_zero, List.set_cons_succ]
            refine wpAnyL_last (j := 15) (o := _) (by kernel_rfl) rfl (by rfl) (by kernel_rfl) (fun K hK => ?_)
            go_simp
            (refine hK _ _ ?_; clear hK K)
            try simp only [Act.put, List.setIfInBounds_toArray, List.set_cons_zero, List.set_cons_succ]
            have hE2 := Lib.hid (HWW.out _ hHeld.1)
            clear hHeld
            go_wp2_with fail
            go_roundw
            case rel => exact ⟨k + 1, by go_num, by omega, hF, hE2⟩
            case measure => simp [intOf]; omega
      · have hF : Hid (res = (0, 0)) := Lib.hid (by rw [hV.out, show l.length - k = 0 by omega]; rfl)
        clear hV
        go_wp2_with fail
        refine bodyPost_ret (v := .tuple #[.int .i64 0, .int .i64 0]) (by simp [results, Try.results19, go_sem]) rfl ?_
        exact ⟨by rw [hF.out], hW.out⟩
  · have HE : Hid (ocheckV l = (0, checkedV l)) := Lib.hid (by unfold ocheckV; rw [if_neg hck])
    have HN : Hid (∀ z, z = checkedV l → (z != 0) = true ∧ decide (z = 0) = false) := Lib.hid (fun z hz => by subst hz; simp [hck])
    obtain ⟨z, hz⟩ : ∃ z, checkedV l = z := ⟨_, rfl⟩
    rw [hz] at HE HC HN
    rw [HE.out]
    clear hck HE hz
    go_enter Try.func19, Try.ntmps19
    go_wp2_with fail
    refine (HC.out _ (Below.refl _ _)).mono ?_
    rintro e w0 ⟨rfl, hb1⟩
    have HB0 := Lib.hid hb1
    obtain ⟨t1, t2⟩ := HN.out _ rfl
    clear hb1 HN
    go_wp2_with fail
    refine bodyPost_ret (v := .tuple #[.int .i64 0, .int .i64 z]) (by simp [results, Try.results19, go_sem]) rfl ?_
    exact ⟨rfl, HB0.out⟩
end Go.Proofs.Ytjaegddnikkibaa
