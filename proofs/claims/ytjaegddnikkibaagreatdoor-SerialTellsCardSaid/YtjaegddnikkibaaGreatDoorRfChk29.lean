/-
  The reference's Check of serial attempts, walked.
-/
import Derived.Test.YtjaegddnikkibaaGreatDoorRfHeap
import Derived.Test.YtjaegddnikkibaaGreatDoorRfSorted
import Derived.Test.YtjaegddnikkibaaGreatDoorSerChk2
import Derived.Test.YtjaegddnikkibaaGreatDoorRegion
set_option linter.unusedVariables false
set_option linter.unusedSimpArgs false
namespace Go.Proofs.YtjaegddnikkibaaGreatDoor
open Go.RowKit Go.Sort Go.Maps

theorem PutF.belowH {h : Nat} {w W : World} (hf : PutF h w W) (hh : h ≤ w.heap.size) : Below h w W :=
  ⟨hf.os, hf.tape, hf.output, hf.size, fun i hi => hf.block i (Nat.lt_of_lt_of_le hi hh) (Nat.ne_of_lt hi) (Or.inl (Nat.le_of_lt hi))⟩
set_option maxHeartbeats 400000 in
theorem placed_any (th kd bg en ck pl : Int) (wt : Bool) (dv : Value) (w : World) :
    Calls Tryz.prog 36 #[.agg #[.int .i64 th, .int .u8 kd, .int .i64 bg, .int .i64 en, .int .i64 ck, .int .i64 pl, .bool wt, dv]] w fun e w' => e = .returned (.bool (if wt then decide (ck < pl) else decide (pl = ck))) ∧ Below w.heap.size w w' := by
  have HB := Lib.hid (fun o => (Below.refl w.heap.size w).alloc (Nat.le_refl _) o)
  cases wt
  · go_enter Tryz.func36, Tryz.ntmps36
    go_wp2_with fail
    go_ret
    exact ⟨by first | rfl | simp, HB.out _⟩
  · go_enter Tryz.func36, Tryz.ntmps36
    go_wp2_with fail
    go_ret
    exact ⟨by first | rfl | simp, HB.out _⟩
theorem placed_is (th kd bg en ck pl : Int) (wt : Bool) (dv : Value) (p : Bool) (hp : (if wt then decide (ck < pl) else decide (pl = ck)) = p) (w : World) :
    Calls Tryz.prog 36 #[.agg #[.int .i64 th, .int .u8 kd, .int .i64 bg, .int .i64 en, .int .i64 ck, .int .i64 pl, .bool wt, dv]] w fun e w' => e = .returned (.bool p) ∧ Below w.heap.size w w' := by
  subst hp; exact placed_any th kd bg en ck pl wt dv w
abbrev ChS0 (w0 : World) (X : Nat) (th kd bg en ck pl : Int) (wt : Bool) (dv : Value) (W : World) : Prop :=
  Below w0.heap.size w0 W ∧
    W.cell? ⟨X, 0, none⟩ = some (.int .i64 th) ∧ W.cell? ⟨X, 1, none⟩ = some (.int .u8 kd) ∧ W.cell? ⟨X, 2, none⟩ = some (.int .i64 bg) ∧ W.cell? ⟨X, 3, none⟩ = some (.int .i64 en) ∧ W.cell? ⟨X, 4, none⟩ = some (.int .i64 ck) ∧
    W.cell? ⟨X, 5, none⟩ = some (.int .i64 pl) ∧ W.cell? ⟨X, 6, none⟩ = some (.bool wt) ∧ W.cell? ⟨X, 7, none⟩ = some dv
theorem chS0_of {w0 : World} {X : Nat} {x : Att} (h : AttAt w0 X 0 x) (W : World) (hW : Below w0.heap.size w0 W) : ChS0 w0 X x.th x.kd x.bg x.en x.ck x.pl x.wr (.slice x.dA x.evs.length x.dc) W := by
  have hb := World.block_lt_of_cell? _ _ h.c0
  obtain ⟨a0, a1, a2, a3, a4, a5, a6, a7⟩ := h.keep fun o' => hW.cell (p := ⟨X, o', none⟩) hb
  simp only [Nat.zero_add] at a0 a1 a2 a3 a4 a5 a6 a7
  exact ⟨hW, a0, a1, a2, a3, a4, a5, a6, a7⟩
abbrev ChS1 (w0 : World) (X : Nat) (th kd bg en ck pl : Int) (wt : Bool) (dv : Value) (g j : Nat) (i' : Int) (b o : Nat) (ywr : Bool) (ypl : Int) (W : World) : Prop :=
  Below w0.heap.size w0 W ∧
    W.cell? ⟨X, 0, none⟩ = some (.int .i64 th) ∧ W.cell? ⟨X, 1, none⟩ = some (.int .u8 kd) ∧ W.cell? ⟨X, 2, none⟩ = some (.int .i64 bg) ∧ W.cell? ⟨X, 3, none⟩ = some (.int .i64 en) ∧ W.cell? ⟨X, 4, none⟩ = some (.int .i64 ck) ∧
    W.cell? ⟨X, 5, none⟩ = some (.int .i64 pl) ∧ W.cell? ⟨X, 6, none⟩ = some (.bool wt) ∧ W.cell? ⟨X, 7, none⟩ = some dv ∧
    W.cell? ⟨g, j, none⟩ = some (.int .i64 i') ∧ W.cell? ⟨b, o + 6, none⟩ = some (.bool ywr) ∧ W.cell? ⟨b, o + 5, none⟩ = some (.int .i64 ypl)

set_option maxHeartbeats 8000000 in
set_option maxRecDepth 100000 in
theorem rfCheck29_any (A : Option Addr) (c : Nat) (l : List Att) (hn : l.length ≤ 1048576) (hts0 : totalSize l ≤ 262144) (hO : ∀ x ∈ l, x.Ok) (w : World) (ha : AttsAt w w.heap.size A l) :
    Calls Tryz.prog 11 #[.slice A l.length c] w fun e w' => e = .returned (.tuple #[.int .i64 (scheckV l).1, .int .i64 (scheckV l).2]) ∧ Below w.heap.size w w' := by
  have HC := Lib.hid (fun w1 (h : Below w.heap.size w w1) => rfMay_any A c l (by omega) hO w1 (ha.keep h h.size))
  have HSO := Lib.hid (fun w1 (h : Below w.heap.size w w1) => rfSorted_any A c l hn w1 (ha.keep h h.size))
  have HA := Lib.hid (fun W (h : Below w.heap.size w W) => ha.keep h (Nat.le_refl _))
  have HOK := Lib.hid hO
  clear ha hO
  by_cases hck : checkedV l = 0
  · obtain ⟨hts, hatt⟩ := checked_ok hck
    have HEE : Hid (∀ x ∈ l, ∀ e ∈ x.evs, ∃ t, evB t e = true) := Lib.hid (fun x hx e he => ⟨x.th, attB_evs (hatt x hx) e he⟩)
    have HV : Hid (scheckV l = failV 16 (scheckGo l (pvO (orderV l) 0) ((orderV l).drop 0) (heapAll l ((orderV l).take 0)))) := Lib.hid (by unfold scheckV; rw [if_pos hck]; rfl)
    have HK := Lib.hid hck
    have HTOT : Hid (evSum l (orderV l) ≤ totalSize l) := Lib.hid evSum_order
    have hol := Nat.le_trans (order_len l) hn
    have HR : Hid (∀ i ∈ orderV l, ∃ j : Nat, i = j ∧ j < l.length) := Lib.hid (fun i hi => by
      obtain ⟨j, hj, x, hx, -⟩ := orderV_mem hi
      exact ⟨j, hj, (List.getElem?_eq_some_iff.1 hx).1⟩)
    clear hatt hts hck
    obtain ⟨res, hres⟩ : ∃ res, scheckV l = res := ⟨_, rfl⟩
    rw [hres] at HV ⊢
    clear hres
    obtain ⟨o, ho⟩ : ∃ o, orderV l = o := ⟨_, rfl⟩
    rw [ho] at HSO HTOT hol HR HV
    clear ho
    have HG0 : Hid (getV [] = heapAll l (o.take 0)) := Lib.hid rfl
    go_enter Tryz.func11, Tryz.ntmps11
    go_wp2_with fail
    refine (HC.out _ (Below.refl _ _)).mono ?_
    rintro e w0 ⟨rfl, hb1⟩
    rw [HK.out]
    have HB0 := Lib.hid hb1
    clear hb1
    go_wp2_with fail
    refine (HSO.out _ HB0.out).mono ?_
    rintro e w1 ⟨⟨OA, oc, rfl, hI⟩, hb1⟩
    have HB1 := Lib.hid (HB0.out.trans (hb1.mono HB0.out.size))
    have HI := Lib.hid (fun W (h : Below w1.heap.size w1 W) => hI.keep h)
    have HEND := Lib.hid (fun W (h : Below w1.heap.size w1 W) => HB1.out.trans (h.mono HB1.out.size))
    clear hb1 hI HB0 HSO
    obtain ⟨h, hh⟩ : ∃ h, w1.heap.size = h := ⟨_, rfl⟩
    have HHS := Lib.hid hh
    obtain ⟨w2, hw2⟩ : ∃ w2, w1.alloc (.cells #[.slice none 0 0] 97 (0, 0)) = w2 := ⟨_, rfl⟩
    have HH1 : Hid (HeapR w2 h []) := Lib.hid ⟨.slice none 0 0, by rw [← hw2, ← hh]; simp, by rw [← hw2, ← hh]; simp, by simp, .inl ⟨rfl, rfl⟩⟩
    have HW1 : Hid (Below w1.heap.size w1 w2) := Lib.hid (by rw [← hw2]; exact (Below.refl _ _).alloc (Nat.le_refl _) _)
    go_wp2_with fail
    clear hw2 hh
    go_loopw [7] (fun i wr => ∃ (k : Nat) (cs : List (Int × Int)), i = .int .i64 k ∧ k ≤ o.length ∧ cs.length ≤ 65 * evSum l (o.take k) ∧ Hid (res = failV 16 (scheckGo l (pvO o k) (o.drop k) (heapAll l (o.take k)))) ∧ Hid (getV cs = heapAll l (o.take k)) ∧ Hid (HeapR wr h cs) ∧ Hid (Below w1.heap.size w1 wr)) (fun i _ => o.length - (intOf i).toNat)
    case atStart => exact ⟨0, [], rfl, Nat.zero_le _, by simp, HV, HG0, HH1, HW1⟩
    case round =>
      clear HV HG0 HH1 HW1
      obtain ⟨k, cs, rfl, hk, hcl, hV, hgc, hH, hW⟩ := hrel
      by_cases hlt : k < o.length
      · obtain ⟨g, goff, rfl, hgl, -⟩ := HI.out _ hW.out (by rintro rfl; simp at hlt)
        obtain ⟨i, hi, hil⟩ := HR.out _ (List.getElem_mem hlt)
        have HOG : Hid (∀ W, Below w1.heap.size w1 W → ∀ (q : Nat) (v : Int), o[q]? = some v → W.cell? ⟨g, goff + q, none⟩ = some (.int .i64 v)) := Lib.hid (fun W h => by
          obtain ⟨gb', goff', he, -, hcc⟩ := HI.out W h (by rintro rfl; simp at hlt)
          injection he with he
          injection he with he1 he2
          subst he1; subst he2
          exact hcc)
        have HO := Lib.hid (fun W (h : Below w1.heap.size w1 W) => (HOG.out W h k _ (List.getElem?_eq_getElem hlt)).trans (by rw [hi]))
        obtain ⟨b, off, rfl, -, -⟩ := (HA.out _ (HEND.out _ hW.out)).row (by rintro rfl; simp at hil)
        have HAG := Lib.hid (fun W (h : Below w1.heap.size w1 W) (q : Nat) (x : Att) (hq : l[q]? = some x) => (HA.out _ (HEND.out _ h)).at hq)
        have HEV := Lib.hid (fun W (h : Below w1.heap.size w1 W) => (HA.out _ (HEND.out _ h)).evs _ (List.getElem_mem hil))
        have HBS := Lib.hid (fun W (h : Below w1.heap.size w1 W) => (HEND.out _ h).size)
        have HEX := Lib.hid (HEE.out _ (List.getElem_mem hil))
        have hbg := (HOK.out _ (List.getElem_mem hil)).bg
        have hxl := evs_le_total l _ (List.getElem_mem hil)
        have hgi : attN l o[k] = l[i] := by rw [hi]; exact attN_get hil
        have hst : Hid (res = failV 16 (if orderedB l (pvO o k) l[i] (o.drop (k + 1)) (heapAll l (o.take k)) then scheckGo l (some (i : Int)) (o.drop (k + 1)) (doV (heapAll l (o.take k)) l[i].evs) else some (i : Int))) := Lib.hid (by
          rw [hV.out, List.drop_eq_getElem_cons hlt, scheckGo, hgi, hi])
        have hpv : Hid (pvO o (k + 1) = some (i : Int)) := Lib.hid (by
          unfold pvO
          rw [if_neg (by omega), Nat.add_sub_cancel, List.getD_eq_getElem?_getD, List.getElem?_eq_getElem hlt, hi]; rfl)
        have hha : Hid (heapAll l (o.take (k + 1)) = doV (heapAll l (o.take k)) l[i].evs) := Lib.hid (by
          unfold heapAll
          rw [List.take_succ_eq_append_getElem hlt, List.foldl_append]
          show doV _ (attN l o[k]).evs = _
          rw [hgi])
        have hsu : Hid (evSum l (o.take (k + 1)) = evSum l (o.take k) + l[i].evs.length) := Lib.hid (by
          rw [List.take_succ_eq_append_getElem hlt, evSum_append]
          simp only [evSum, hgi]; omega)
        have HBAD : Hid (orderedB l (pvO o k) l[i] (o.drop (k + 1)) (heapAll l (o.take k)) = false → res = ((i : Int), 16)) := Lib.hid (fun h => by rw [hst.out, h]; rfl)
        have HGOOD : Hid (orderedB l (pvO o k) l[i] (o.drop (k + 1)) (heapAll l (o.take k)) = true → res = failV 16 (scheckGo l (pvO o (k + 1)) (o.drop (k + 1)) (heapAll l (o.take (k + 1))))) := Lib.hid (fun h => by rw [hst.out, h, hpv.out, hha.out]; rfl)
        have HEN : Hid (65 * evSum l (o.take k) + l[i].evs.length * 65 ≤ 68157440) := Lib.hid (by have := HTOT.out; have := evSum_take l o k; omega)
        have e1 := HO.out _ hW.out
        obtain ⟨c0, c1, c2, c3, c4, c5, c6, c7⟩ := HAG.out _ hW.out i _ (List.getElem?_eq_getElem hil)
        have q1 : (k : Int) < (o.length : Int) := by omega
        have q2 : (0 : Int) ≤ (k : Int) := Int.natCast_nonneg _
        have q3 : (i : Int) < (l.length : Int) := by omega
        have q4 : (0 : Int) ≤ (i : Int) := Int.natCast_nonneg _
        have hwr : IntKind.i64.wrap ((k : Int) + 1) = (k : Int) + 1 := by rw [IntKind.wrap_i64]; omega
        clear hgi hst hpv hV hi
        generalize l[i] = x at *
        obtain ⟨th, xkd, bg, en, ck, pl, wt, dA, dc, evs⟩ := x
        dsimp only at *
        obtain ⟨X, hX⟩ : ∃ X, wr.heap.size = X := ⟨_, rfl⟩
        obtain ⟨w0, hw0⟩ : ∃ w0, wr.alloc (.cells #[.int .i64 th, .int .u8 xkd, .int .i64 bg, .int .i64 en, .int .i64 ck, .int .i64 pl, .bool wt, .slice dA evs.length dc] 74 (0, 0)) = w0 := ⟨_, rfl⟩
        have hb0 : Below wr.heap.size wr w0 := by rw [← hw0]; exact (Below.refl _ _).alloc (Nat.le_refl _) _
        have hax : AttAt w0 X 0 ⟨th, xkd, bg, en, ck, pl, wt, dA, dc, evs⟩ := by rw [← hw0, ← hX]; constructor <;> simp
        have hW0 := Lib.hid (hW.out.trans (hb0.mono hW.out.size))
        have HWW := Lib.hid (fun W (h : Below w0.heap.size w0 W) => hW0.out.trans (h.mono hW0.out.size))
        have hH0 := Lib.hid (hH.out.below hb0)
        have hXl := World.block_lt_of_cell? _ _ hax.c0
        have HX := Lib.hid (fun W (h : Below w0.heap.size w0 W) => hax.keep fun o' => h.cell (p := ⟨X, o', none⟩) hXl)
        have HXS := Lib.hid (chS0_of hax)
        have HORD : Hid (orderedB l (pvO o k) ⟨th, xkd, bg, en, ck, pl, wt, dA, dc, evs⟩ (o.drop (k + 1)) (heapAll l (o.take k)) = ((if wt then decide (ck < pl) else decide (pl = ck)) && !decide (leastV l (o.drop (k + 1)) < bg) && (!twinB l (pvO o k) ⟨th, xkd, bg, en, ck, pl, wt, dA, dc, evs⟩ && okV (heapAll l (o.take k)) evs))) := Lib.hid rfl
        obtain ⟨lv, hlv⟩ : ∃ lv, leastV l (o.drop (k + 1)) = lv := ⟨_, rfl⟩
        rw [hlv] at HORD
        have HLV := Lib.hid hlv
        clear hax hXl hb0 hW hH hlv hxl
        cases hpl : (if wt then decide (ck < pl) else decide (pl = ck))
        · have HPL := Lib.hid hpl
          have HS := HXS
          clear hpl
          go_wp2_with fail
          clear hw0 hX c0 c1 c2 c3 c4 c5 c6 c7 e1
          refine wp_region_L (l := 35) (S := (ChS0 w0 X th xkd bg en ck pl wt (.slice dA evs.length dc))) (by kernel_rfl) ?_ (fun hHeld => ?_)
          · ((try dsimp only); (exact HS.out _ (Below.refl _ _).drew))
          refine wpAnyL_take (i := 0) (oi := _) (v := ?v1) rfl (by kernel_rfl) (fun _ _ _ h => h) (by assumption) (Or.inl ⟨by kernel_rfl, ?y1⟩) ?r1
          case y1 => (intro w hSw; (try dsimp only at hSw); go_simp; all_goals with_reducible rfl)
          try simp only [Act.put, List.setIfInBounds_toArray, List.set_cons_zero, List.set_cons_succ]
          refine wpAnyL_step (j := 1) (o := _) (by kernel_rfl) rfl (fun K hK => ?_)
          (go_simp; go_at_call 36; refine (placed_is th xkd bg en ck pl wt (.slice dA evs.length dc) _ HPL.out _).mono ?_; rintro e w4 ⟨rfl, hb4⟩)
          refine hK _ _ ?_ (fun hHeld => ?_)
          · ((try dsimp only); (exact HS.out _ (hHeld.1.trans (hb4.mono hHeld.1.size))))
          clear hK K
          try simp only [Act.put, List.setIfInBounds_toArray, List.set_cons_zero, List.set_cons_succ]
          refine wpAnyL_take (i := 2) (oi := _) (v := ?v3) rfl (by kernel_rfl) (fun _ _ _ h => h) (by assumption) (Or.inl ⟨by kernel_rfl, ?y3⟩) ?r3
          case y3 => (intro w hSw; (try dsimp only at hSw); go_simp; all_goals with_reducible rfl)
          try simp only [Act.put, List.setIfInBounds_toArray, List.set_cons_zero, List.set_cons_succ]
          refine wpAnyL_take (i := 3) (oi := _) (v := ?v4) rfl (by kernel_rfl) (fun _ _ _ h => h) (by assumption) (Or.inl ⟨by kernel_rfl, ?y4⟩) ?r4
          case y4 => (intro w hSw; (try dsimp only at hSw); go_simp; all_goals with_reducible rfl)
          try simp only [Act.put, List.setIfInBounds_toArray, List.set_cons_zero, List.set_cons_succ]
          refine wpAnyL_take (i := 4) (oi := _) (v := undef) rfl (by kernel_rfl) (fun _ _ _ h => h) (by assumption) (Or.inr ⟨by kernel_rfl, rfl⟩) ?_
          try simp only [Act.put, List.setIfInBounds_toArray, List.set_cons_zero, List.set_cons_succ]
          refine wpAnyL_take (i := 5) (oi := _) (v := undef) rfl (by kernel_rfl) (fun _ _ _ h => h) (by assumption) (Or.inr ⟨by kernel_rfl, rfl⟩) ?_
          try simp only [Act.put, List.setIfInBounds_toArray, List.set_cons_zero, List.set_cons_succ]
          refine wpAnyL_take (i := 6) (oi := _) (v := undef) rfl (by kernel_rfl) (fun _ _ _ h => h) (by assumption) (Or.inr ⟨by kernel_rfl, rfl⟩) ?_
          try simp only [Act.put, List.setIfInBounds_toArray, List.set_cons_zero, List.set_cons_succ]
          refine wpAnyL_take (i := 7) (oi := _) (v := undef) rfl (by kernel_rfl) (fun _ _ _ h => h) (by assumption) (Or.inr ⟨by kernel_rfl, rfl⟩) ?_
          try simp only [Act.put, List.setIfInBounds_toArray, List.set_cons_zero, List.set_cons_succ]
          refine wpAnyL_take (i := 8) (oi := _) (v := undef) rfl (by kernel_rfl) (fun _ _ _ h => h) (by assumption) (Or.inr ⟨by kernel_rfl, rfl⟩) ?_
          try simp only [Act.put, List.setIfInBounds_toArray, List.set_cons_zero, List.set_cons_succ]
          refine wpAnyL_take (i := 9) (oi := _) (v := undef) rfl (by kernel_rfl) (fun _ _ _ h => h) (by assumption) (Or.inr ⟨by kernel_rfl, rfl⟩) ?_
          try simp only [Act.put, List.setIfInBounds_toArray, List.set_cons_zero, List.set_cons_succ]
          refine wpAnyL_take (i := 10) (oi := _) (v := undef) rfl (by kernel_rfl) (fun _ _ _ h => h) (by assumption) (Or.inr ⟨by kernel_rfl, rfl⟩) ?_
          try simp only [Act.put, List.setIfInBounds_toArray, List.set_cons_zero, List.set_cons_succ]
          refine wpAnyL_take (i := 11) (oi := _) (v := undef) rfl (by kernel_rfl) (fun _ _ _ h => h) (by assumption) (Or.inr ⟨by kernel_rfl, rfl⟩) ?_
          try simp only [Act.put, List.setIfInBounds_toArray, List.set_cons_zero, List.set_cons_succ]
          refine wpAnyL_take (i := 12) (oi := _) (v := undef) rfl (by kernel_rfl) (fun _ _ _ h => h) (by assumption) (Or.inr ⟨by kernel_rfl, rfl⟩) ?_
          try simp only [Act.put, List.setIfInBounds_toArray, List.set_cons_zero, List.set_cons_succ]
          refine wpAnyL_take (i := 13) (oi := _) (v := undef) rfl (by kernel_rfl) (fun _ _ _ h => h) (by assumption) (Or.inr ⟨by kernel_rfl, rfl⟩) ?_
          try simp only [Act.put, List.setIfInBounds_toArray, List.set_cons_zero, List.set_cons_succ]
          refine wpAnyL_take (i := 14) (oi := _) (v := undef) rfl (by kernel_rfl) (fun _ _ _ h => h) (by assumption) (Or.inr ⟨by kernel_rfl, rfl⟩) ?_
          try simp only [Act.put, List.setIfInBounds_toArray, List.set_cons_zero, List.set_cons_succ]
          refine wpAnyL_take (i := 15) (oi := _) (v := undef) rfl (by kernel_rfl) (fun _ _ _ h => h) (by assumption) (Or.inr ⟨by kernel_rfl, rfl⟩) ?_
          try simp only [Act.put, List.setIfInBounds_toArray, List.set_cons_zero, List.set_cons_succ]
          refine wpAnyL_take (i := 16) (oi := _) (v := undef) rfl (by kernel_rfl) (fun _ _ _ h => h) (by assumption) (Or.inr ⟨by kernel_rfl, rfl⟩) ?_
          try simp only [Act.put, List.setIfInBounds_toArray, List.set_cons_zero, List.set_cons_succ]
          refine wpAnyL_take (i := 17) (oi := _) (v := undef) rfl (by kernel_rfl) (fun _ _ _ h => h) (by assumption) (Or.inr ⟨by kernel_rfl, rfl⟩) ?_
          try simp only [Act.put, List.setIfInBounds_toArray, List.set_cons_zero, List.set_cons_succ]
          refine wpAnyL_take (i := 18) (oi := _) (v := undef) rfl (by kernel_rfl) (fun _ _ _ h => h) (by assumption) (Or.inr ⟨by kernel_rfl, rfl⟩) ?_
          try simp only [Act.put, List.setIfInBounds_toArray, List.set_cons_zero, List.set_cons_succ]
          refine wpAnyL_take (i := 19) (oi := _) (v := undef) rfl (by kernel_rfl) (fun _ _ _ h => h) (by assumption) (Or.inr ⟨by kernel_rfl, rfl⟩) ?_
          try simp only [Act.put, List.setIfInBounds_toArray, List.set_cons_zero, List.set_cons_succ]
          refine wpAnyL_take (i := 20) (oi := _) (v := undef) rfl (by kernel_rfl) (fun _ _ _ h => h) (by assumption) (Or.inr ⟨by kernel_rfl, rfl⟩) ?_
          try simp only [Act.put, List.setIfInBounds_toArray, List.set_cons_zero, List.set_cons_succ]
          refine wpAnyL_take (i := 21) (oi := _) (v := undef) rfl (by kernel_rfl) (fun _ _ _ h => h) (by assumption) (Or.inr ⟨by kernel_rfl, rfl⟩) ?_
          try simp only [Act.put, List.setIfInBounds_toArray, List.set_cons_zero, List.set_cons_succ]
          refine wpAnyL_take (i := 22) (oi := _) (v := undef) rfl (by kernel_rfl) (fun _ _ _ h => h) (by assumption) (Or.inr ⟨by kernel_rfl, rfl⟩) ?_
          try simp only [Act.put, List.setIfInBounds_toArray, List.set_cons_zero, List.set_cons_succ]
          refine wpAnyL_take (i := 23) (oi := _) (v := undef) rfl (by kernel_rfl) (fun _ _ _ h => h) (by assumption) (Or.inr ⟨by kernel_rfl, rfl⟩) ?_
          try simp only [Act.put, List.setIfInBounds_toArray, List.set_cons_zero, List.set_cons_succ]
          refine wpAnyL_take (i := 24) (oi := _) (v := undef) rfl (by kernel_rfl) (fun _ _ _ h => h) (by assumption) (Or.inr ⟨by kernel_rfl, rfl⟩) ?_
          try simp only [Act.put, List.setIfInBounds_toArray, List.set_cons_zero, List.set_cons_succ]
          refine wpAnyL_take (i := 25) (oi := _) (v := undef) rfl (by kernel_rfl) (fun _ _ _ h => h) (by assumption) (Or.inr ⟨by kernel_rfl, rfl⟩) ?_
          try simp only [Act.put, List.setIfInBounds_toArray, List.set_cons_zero, List.set_cons_succ]
          refine wpAnyL_take (i := 26) (oi := _) (v := undef) rfl (by kernel_rfl) (fun _ _ _ h => h) (by assumption) (Or.inr ⟨by kernel_rfl, rfl⟩) ?_
          try simp only [Act.put, List.setIfInBounds_toArray, List.set_cons_zero, List.set_cons_succ]
          refine wpAnyL_take (i := 27) (oi := _) (v := undef) rfl (by kernel_rfl) (fun _ _ _ h => h) (by assumption) (Or.inr ⟨by kernel_rfl, rfl⟩) ?_
          try simp only [Act.put, List.setIfInBounds_toArray, List.set_cons_zero, List.set_cons_succ]
          refine wpAnyL_take (i := 28) (oi := _) (v := undef) rfl (by kernel_rfl) (fun _ _ _ h => h) (by assumption) (Or.inr ⟨by kernel_rfl, rfl⟩) ?_
          try simp only [Act.put, List.setIfInBounds_toArray, List.set_cons_zero, List.set_cons_succ]
          refine wpAnyL_take (i := 29) (oi := _) (v := undef) rfl (by kernel_rfl) (fun _ _ _ h => h) (by assumption) (Or.inr ⟨by kernel_rfl, rfl⟩) ?_
          try simp only [Act.put, List.setIfInBounds_toArray, List.set_cons_zero, List.set_cons_succ]
          refine wpAnyL_take (i := 30) (oi := _) (v := undef) rfl (by kernel_rfl) (fun _ _ _ h => h) (by assumption) (Or.inr ⟨by kernel_rfl, rfl⟩) ?_
          try simp only [Act.put, List.setIfInBounds_toArray, List.set_cons_zero, List.set_cons_succ]
          refine wpAnyL_take (i := 31) (oi := _) (v := undef) rfl (by kernel_rfl) (fun _ _ _ h => h) (by assumption) (Or.inr ⟨by kernel_rfl, rfl⟩) ?_
          try simp only [Act.put, List.setIfInBounds_toArray, List.set_cons_zero, List.set_cons_succ]
          refine wpAnyL_take (i := 32) (oi := _) (v := undef) rfl (by kernel_rfl) (fun _ _ _ h => h) (by assumption) (Or.inr ⟨by kernel_rfl, rfl⟩) ?_
          try simp only [Act.put, List.setIfInBounds_toArray, List.set_cons_zero, List.set_cons_succ]
          refine wpAnyL_take (i := 33) (oi := _) (v := undef) rfl (by kernel_rfl) (fun _ _ _ h => h) (by assumption) (Or.inr ⟨by kernel_rfl, rfl⟩) ?_
          try simp only [Act.put, List.setIfInBounds_toArray, List.set_cons_zero, List.set_cons_succ]
          refine wpAnyL_take (i := 34) (oi := _) (v := undef) rfl (by kernel_rfl) (fun _ _ _ h => h) (by assumption) (Or.inr ⟨by kernel_rfl, rfl⟩) ?_
          try simp only [Act.put, List.setIfInBounds_toArray, List.set_cons_zero, List.set_cons_succ]
          refine wpAnyL_last (j := 35) (o := _) (by kernel_rfl) rfl (by rfl) (by kernel_rfl) (fun K hK => ?_)
          go_simp
          (refine hK _ _ ?_; clear hK K)
          try simp only [Act.put, List.setIfInBounds_toArray, List.set_cons_zero, List.set_cons_succ]
          have hW4 := Lib.hid hHeld.1
          clear hHeld
          have hF := Lib.hid (HBAD.out (by rw [HORD.out, HPL.out, Bool.false_and, Bool.false_and]))
          have hE := Lib.hid (HWW.out _ hW4.out)
          have e1 := HO.out _ hE.out
          clear HBAD HGOOD HORD hH0
          go_wp2_with fail
          refine bodyPost_ret (v := .tuple #[.int .i64 (i : Int), .int .i64 16]) (by simp [results, Tryz.results11, go_sem]) rfl ?_
          exact ⟨by rw [hF.out], HEND.out _ hE.out⟩
        · have HPL := Lib.hid hpl
          clear hpl
          by_cases hk0 : k = 0
          · have t3 : decide (0 < k) = false := by simp; omega
            have t4 : decide ((0 : Int) < (k : Int)) = false := by simp; omega
            have HTW : Hid (twinB l (pvO o k) ⟨th, xkd, bg, en, ck, pl, wt, dA, dc, evs⟩ = false) := Lib.hid (by unfold twinB pvO; rw [if_pos hk0])
            have HS := HXS
            clear hk0
            go_wp2_with fail
            clear hw0 hX c0 c1 c2 c3 c4 c5 c6 c7 e1
            refine wp_region_L (l := 35) (S := (ChS0 w0 X th xkd bg en ck pl wt (.slice dA evs.length dc))) (by kernel_rfl) ?_ (fun hHeld => ?_)
            · ((try dsimp only); (exact HS.out _ (Below.refl _ _).drew))
            refine wpAnyL_take (i := 0) (oi := _) (v := ?v37) rfl (by kernel_rfl) (fun _ _ _ h => h) (by assumption) (Or.inl ⟨by kernel_rfl, ?y37⟩) ?r37
            case y37 => (intro w hSw; (try dsimp only at hSw); go_simp; all_goals with_reducible rfl)
            try simp only [Act.put, List.setIfInBounds_toArray, List.set_cons_zero, List.set_cons_succ]
            refine wpAnyL_step (j := 1) (o := _) (by kernel_rfl) rfl (fun K hK => ?_)
            (go_simp; go_at_call 36; refine (placed_is th xkd bg en ck pl wt (.slice dA evs.length dc) _ HPL.out _).mono ?_; rintro e w4 ⟨rfl, hb4⟩)
            refine hK _ _ ?_ (fun hHeld => ?_)
            · ((try dsimp only); (exact HS.out _ (hHeld.1.trans (hb4.mono hHeld.1.size))))
            clear hK K
            try simp only [Act.put, List.setIfInBounds_toArray, List.set_cons_zero, List.set_cons_succ]
            refine wpAnyL_take (i := 2) (oi := _) (v := ?v39) rfl (by kernel_rfl) (fun _ _ _ h => h) (by assumption) (Or.inl ⟨by kernel_rfl, ?y39⟩) ?r39
            case y39 => (intro w hSw; (try dsimp only at hSw); go_simp; all_goals with_reducible rfl)
            try simp only [Act.put, List.setIfInBounds_toArray, List.set_cons_zero, List.set_cons_succ]
            refine wpAnyL_take (i := 3) (oi := _) (v := ?v40) rfl (by kernel_rfl) (fun _ _ _ h => h) (by assumption) (Or.inl ⟨by kernel_rfl, ?y40⟩) ?r40
            case y40 => (intro w hSw; (try dsimp only at hSw); go_simp; all_goals with_reducible rfl)
            try simp only [Act.put, List.setIfInBounds_toArray, List.set_cons_zero, List.set_cons_succ]
            refine wpAnyL_take (i := 4) (oi := _) (v := ?v41) rfl (by kernel_rfl) (fun _ _ _ h => h) (by assumption) (Or.inl ⟨by kernel_rfl, ?y41⟩) ?r41
            case y41 => (intro w hSw; (try dsimp only at hSw); go_simp; all_goals with_reducible rfl)
            try simp only [Act.put, List.setIfInBounds_toArray, List.set_cons_zero, List.set_cons_succ]
            refine wpAnyL_take (i := 5) (oi := _) (v := ?v42) rfl (by kernel_rfl) (fun _ _ _ h => h) (by assumption) (Or.inl ⟨by kernel_rfl, ?y42⟩) ?r42
            case y42 => (intro w hSw; (try dsimp only at hSw); go_simp; all_goals with_reducible rfl)
            try simp only [Act.put, List.setIfInBounds_toArray, List.set_cons_zero, List.set_cons_succ]
            refine wpAnyL_take (i := 6) (oi := _) (v := ?v43) rfl (by kernel_rfl) (fun _ _ _ h => h) (by assumption) (Or.inl ⟨by kernel_rfl, ?y43⟩) ?r43
            case y43 => (intro w hSw; (try dsimp only at hSw); go_simp; all_goals with_reducible rfl)
            try simp only [Act.put, List.setIfInBounds_toArray, List.set_cons_zero, List.set_cons_succ]
            refine wpAnyL_take (i := 7) (oi := _) (v := undef) rfl (by kernel_rfl) (fun _ _ _ h => h) (by assumption) (Or.inr ⟨by kernel_rfl, rfl⟩) ?_
            try simp only [Act.put, List.setIfInBounds_toArray, List.set_cons_zero, List.set_cons_succ]
            refine wpAnyL_take (i := 8) (oi := _) (v := undef) rfl (by kernel_rfl) (fun _ _ _ h => h) (by assumption) (Or.inr ⟨by kernel_rfl, rfl⟩) ?_
            try simp only [Act.put, List.setIfInBounds_toArray, List.set_cons_zero, List.set_cons_succ]
            refine wpAnyL_take (i := 9) (oi := _) (v := ?v46) rfl (by kernel_rfl) (fun _ _ _ h => h) (by assumption) (Or.inl ⟨by kernel_rfl, ?y46⟩) ?r46
            case y46 => (intro w hSw; (try dsimp only at hSw); go_simp; all_goals with_reducible rfl)
            try simp only [Act.put, List.setIfInBounds_toArray, List.set_cons_zero, List.set_cons_succ]
            refine wpAnyL_take (i := 10) (oi := _) (v := ?v47) rfl (by kernel_rfl) (fun _ _ _ h => h) (by assumption) (Or.inl ⟨by kernel_rfl, ?y47⟩) ?r47
            case y47 => (intro w hSw; (try dsimp only at hSw); go_simp; all_goals with_reducible rfl)
            try simp only [Act.put, List.setIfInBounds_toArray, List.set_cons_zero, List.set_cons_succ]
            refine wpAnyL_take (i := 11) (oi := _) (v := undef) rfl (by kernel_rfl) (fun _ _ _ h => h) (by assumption) (Or.inr ⟨by kernel_rfl, rfl⟩) ?_
            try simp only [Act.put, List.setIfInBounds_toArray, List.set_cons_zero, List.set_cons_succ]
            refine wpAnyL_take (i := 12) (oi := _) (v := undef) rfl (by kernel_rfl) (fun _ _ _ h => h) (by assumption) (Or.inr ⟨by kernel_rfl, rfl⟩) ?_
            try simp only [Act.put, List.setIfInBounds_toArray, List.set_cons_zero, List.set_cons_succ]
            refine wpAnyL_take (i := 13) (oi := _) (v := undef) rfl (by kernel_rfl) (fun _ _ _ h => h) (by assumption) (Or.inr ⟨by kernel_rfl, rfl⟩) ?_
            try simp only [Act.put, List.setIfInBounds_toArray, List.set_cons_zero, List.set_cons_succ]
            refine wpAnyL_take (i := 14) (oi := _) (v := undef) rfl (by kernel_rfl) (fun _ _ _ h => h) (by assumption) (Or.inr ⟨by kernel_rfl, rfl⟩) ?_
            try simp only [Act.put, List.setIfInBounds_toArray, List.set_cons_zero, List.set_cons_succ]
            refine wpAnyL_take (i := 15) (oi := _) (v := undef) rfl (by kernel_rfl) (fun _ _ _ h => h) (by assumption) (Or.inr ⟨by kernel_rfl, rfl⟩) ?_
            try simp only [Act.put, List.setIfInBounds_toArray, List.set_cons_zero, List.set_cons_succ]
            refine wpAnyL_take (i := 16) (oi := _) (v := undef) rfl (by kernel_rfl) (fun _ _ _ h => h) (by assumption) (Or.inr ⟨by kernel_rfl, rfl⟩) ?_
            try simp only [Act.put, List.setIfInBounds_toArray, List.set_cons_zero, List.set_cons_succ]
            refine wpAnyL_take (i := 17) (oi := _) (v := undef) rfl (by kernel_rfl) (fun _ _ _ h => h) (by assumption) (Or.inr ⟨by kernel_rfl, rfl⟩) ?_
            try simp only [Act.put, List.setIfInBounds_toArray, List.set_cons_zero, List.set_cons_succ]
            refine wpAnyL_take (i := 18) (oi := _) (v := undef) rfl (by kernel_rfl) (fun _ _ _ h => h) (by assumption) (Or.inr ⟨by kernel_rfl, rfl⟩) ?_
            try simp only [Act.put, List.setIfInBounds_toArray, List.set_cons_zero, List.set_cons_succ]
            refine wpAnyL_take (i := 19) (oi := _) (v := undef) rfl (by kernel_rfl) (fun _ _ _ h => h) (by assumption) (Or.inr ⟨by kernel_rfl, rfl⟩) ?_
            try simp only [Act.put, List.setIfInBounds_toArray, List.set_cons_zero, List.set_cons_succ]
            refine wpAnyL_take (i := 20) (oi := _) (v := ?v57) rfl (by kernel_rfl) (fun _ _ _ h => h) (by assumption) (Or.inl ⟨by kernel_rfl, ?y57⟩) ?r57
            case y57 => (intro w hSw; (try dsimp only at hSw); go_simp; all_goals with_reducible rfl)
            try simp only [Act.put, List.setIfInBounds_toArray, List.set_cons_zero, List.set_cons_succ]
            refine wpAnyL_take (i := 21) (oi := _) (v := ?v58) rfl (by kernel_rfl) (fun _ _ _ h => h) (by assumption) (Or.inl ⟨by kernel_rfl, ?y58⟩) ?r58
            case y58 => (intro w hSw; (try dsimp only at hSw); go_simp; all_goals with_reducible rfl)
            try simp only [Act.put, List.setIfInBounds_toArray, List.set_cons_zero, List.set_cons_succ]
            refine wpAnyL_take (i := 22) (oi := _) (v := undef) rfl (by kernel_rfl) (fun _ _ _ h => h) (by assumption) (Or.inr ⟨by kernel_rfl, rfl⟩) ?_
            try simp only [Act.put, List.setIfInBounds_toArray, List.set_cons_zero, List.set_cons_succ]
            refine wpAnyL_take (i := 23) (oi := _) (v := undef) rfl (by kernel_rfl) (fun _ _ _ h => h) (by assumption) (Or.inr ⟨by kernel_rfl, rfl⟩) ?_
            try simp only [Act.put, List.setIfInBounds_toArray, List.set_cons_zero, List.set_cons_succ]
            refine wpAnyL_take (i := 24) (oi := _) (v := undef) rfl (by kernel_rfl) (fun _ _ _ h => h) (by assumption) (Or.inr ⟨by kernel_rfl, rfl⟩) ?_
            try simp only [Act.put, List.setIfInBounds_toArray, List.set_cons_zero, List.set_cons_succ]
            refine wpAnyL_take (i := 25) (oi := _) (v := undef) rfl (by kernel_rfl) (fun _ _ _ h => h) (by assumption) (Or.inr ⟨by kernel_rfl, rfl⟩) ?_
            try simp only [Act.put, List.setIfInBounds_toArray, List.set_cons_zero, List.set_cons_succ]
            refine wpAnyL_take (i := 26) (oi := _) (v := undef) rfl (by kernel_rfl) (fun _ _ _ h => h) (by assumption) (Or.inr ⟨by kernel_rfl, rfl⟩) ?_
            try simp only [Act.put, List.setIfInBounds_toArray, List.set_cons_zero, List.set_cons_succ]
            refine wpAnyL_take (i := 27) (oi := _) (v := undef) rfl (by kernel_rfl) (fun _ _ _ h => h) (by assumption) (Or.inr ⟨by kernel_rfl, rfl⟩) ?_
            try simp only [Act.put, List.setIfInBounds_toArray, List.set_cons_zero, List.set_cons_succ]
            refine wpAnyL_take (i := 28) (oi := _) (v := undef) rfl (by kernel_rfl) (fun _ _ _ h => h) (by assumption) (Or.inr ⟨by kernel_rfl, rfl⟩) ?_
            try simp only [Act.put, List.setIfInBounds_toArray, List.set_cons_zero, List.set_cons_succ]
            refine wpAnyL_take (i := 29) (oi := _) (v := undef) rfl (by kernel_rfl) (fun _ _ _ h => h) (by assumption) (Or.inr ⟨by kernel_rfl, rfl⟩) ?_
            try simp only [Act.put, List.setIfInBounds_toArray, List.set_cons_zero, List.set_cons_succ]
            refine wpAnyL_take (i := 30) (oi := _) (v := undef) rfl (by kernel_rfl) (fun _ _ _ h => h) (by assumption) (Or.inr ⟨by kernel_rfl, rfl⟩) ?_
            try simp only [Act.put, List.setIfInBounds_toArray, List.set_cons_zero, List.set_cons_succ]
            refine wpAnyL_take (i := 31) (oi := _) (v := undef) rfl (by kernel_rfl) (fun _ _ _ h => h) (by assumption) (Or.inr ⟨by kernel_rfl, rfl⟩) ?_
            try simp only [Act.put, List.setIfInBounds_toArray, List.set_cons_zero, List.set_cons_succ]
            refine wpAnyL_take (i := 32) (oi := _) (v := undef) rfl (by kernel_rfl) (fun _ _ _ h => h) (by assumption) (Or.inr ⟨by kernel_rfl, rfl⟩) ?_
            try simp only [Act.put, List.setIfInBounds_toArray, List.set_cons_zero, List.set_cons_succ]
            refine wpAnyL_take (i := 33) (oi := _) (v := undef) rfl (by kernel_rfl) (fun _ _ _ h => h) (by assumption) (Or.inr ⟨by kernel_rfl, rfl⟩) ?_
            try simp only [Act.put, List.setIfInBounds_toArray, List.set_cons_zero, List.set_cons_succ]
            refine wpAnyL_take (i := 34) (oi := _) (v := ?v71) rfl (by kernel_rfl) (fun _ _ _ h => h) (by assumption) (Or.inl ⟨by kernel_rfl, ?y71⟩) ?r71
            case y71 => (intro w hSw; (try dsimp only at hSw); go_simp; all_goals with_reducible rfl)
            try simp only [Act.put, List.setIfInBounds_toArray, List.set_cons_zero, List.set_cons_succ]
            refine wpAnyL_last (j := 35) (o := _) (by kernel_rfl) rfl (by rfl) (by kernel_rfl) (fun K hK => ?_)
            go_simp
            (refine hK _ _ ?_; clear hK K)
            try simp only [Act.put, List.setIfInBounds_toArray, List.set_cons_zero, List.set_cons_succ]
            have hW4 := Lib.hid hHeld.1
            clear hHeld
            have HOR2 : Hid (orderedB l (pvO o k) ⟨th, xkd, bg, en, ck, pl, wt, dA, dc, evs⟩ (o.drop (k + 1)) (heapAll l (o.take k)) = (!decide (lv < bg) && okV (heapAll l (o.take k)) evs)) := Lib.hid (by have hp := HPL.out; rw [HORD.out, HTW.out]; first | (rw [hp]; simp; done) | (simp at hp; simp [hp]; done) | (simp [hp]; done))
            have HL0 : Hid (lv < bg ↔ leastV l (o.drop (k + 1)) < bg) := Lib.hid (by rw [HLV.out])
            obtain ⟨wo, rfl⟩ : ∃ wo : World, wo = wr := ⟨_, rfl⟩
            clear HORD HPL HTW
            go_wp2_with fail
            go_loopw [9] (fun i2 wr => ∃ m : Nat, i2 = .int .i64 m ∧ k + 1 ≤ m ∧ m ≤ o.length ∧ Hid (lv < bg ↔ leastV l (o.drop m) < bg) ∧ Hid (Below w0.heap.size w0 wr)) (fun i2 _ => o.length - (intOf i2).toNat)
            case atStart => exact ⟨k + 1, by go_num, Nat.le_refl _, by omega, HL0, hW4⟩
            case round =>
              clear HL0
              obtain ⟨m, rfl, hm1, hm2, hL, hW⟩ := hrel
              have hE := Lib.hid (HWW.out _ hW.out)
              obtain ⟨x0, x1, x2, x3, x4, x5, x6, x7⟩ := HX.out _ hW.out
              simp only [Nat.zero_add] at x0 x1 x2 x3 x4 x5 x6 x7
              have e1 := HO.out _ hE.out
              by_cases hml : m < o.length
              · obtain ⟨i2, hi2, hil2⟩ := HR.out _ (List.getElem_mem hml)
                have e2 := HOG.out _ hE.out m _ (List.getElem?_eq_getElem hml)
                rw [hi2] at e2
                obtain ⟨-, -, -, y3, -, -, -, -⟩ := HAG.out _ hE.out i2 _ (List.getElem?_eq_getElem hil2)
                have hst2 : Hid (leastV l (o.drop m) = min (leastV l (o.drop (m + 1))) l[i2].en) := Lib.hid (by rw [List.drop_eq_getElem_cons hml, leastV, hi2, attN_get hil2])
                have s1 : (m : Int) < (o.length : Int) := by omega
                have s2 : (0 : Int) ≤ (m : Int) := Int.natCast_nonneg _
                have s3 : (i2 : Int) < (l.length : Int) := by omega
                have s4 : (0 : Int) ≤ (i2 : Int) := Int.natCast_nonneg _
                clear hi2
                generalize l[i2].en = yen at *
                by_cases hb : yen < bg
                · have t9 : decide (yen < bg) = true := by simpa using hb
                  have hF := Lib.hid (HBAD.out (by rw [HOR2.out, decide_eq_true (hL.out.2 (by rw [hst2.out]; omega))]; rfl))
                  have hE2 := Lib.hid (fun q => below_drewN hE.out q)
                  clear hst2 hL HBAD HGOOD HOR2 hb hH0 hE
                  go_wp2_with fail
                  go_quiet (fail)
                  clear e2 x0 x1 x2 x3 x4 x5 x6 x7 y3
                  go_wp2_with fail
                  refine bodyPost_ret (v := .tuple #[.int .i64 (i : Int), .int .i64 16]) (by simp [results, Tryz.results11, go_sem]) rfl ?_
                  exact ⟨by rw [hF.out], HEND.out _ (hE2.out _)⟩
                · have t9 : decide (yen < bg) = false := by simpa using hb
                  have hL2 : Hid (lv < bg ↔ leastV l (o.drop (m + 1)) < bg) := Lib.hid (by rw [hL.out, hst2.out]; omega)
                  have hW3 := Lib.hid (fun q => below_drewN hW.out q)
                  clear hst2 hL hb
                  go_wp2_with fail
                  go_quiet (fail)
                  go_wp2_with fail
                  go_roundw
                  case rel => exact ⟨m + 1, by go_num, by omega, by omega, hL2, Lib.hid (hW3.out _)⟩
                  case measure => simp [intOf]; omega
              · have hlvb : Hid (decide (lv < bg) = false) := Lib.hid (decide_eq_false (fun h => by
                  have := hL.out.1 h
                  rw [List.drop_eq_nil_of_le (by omega)] at this
                  unfold leastV at this
                  have := hbg.2
                  omega))
                have hH := Lib.hid (hH0.out.below hW.out)
                have hDN := Lib.hid (rfDone_any h cs th xkd bg en ck pl wt dA dc evs (65 * evSum l (o.take k)) hcl HEN.out HEX.out wr hH.out (fun W hf => by
                  have hbw : Below w1.heap.size wr W := by rw [HHS.out]; exact hf.belowH (Nat.le_of_lt hH.out.lt)
                  exact (HEV.out _ (hE.out.trans hbw)).keep (Below.refl _ _) (HBS.out _ (hE.out.trans hbw))))
                rw [hgc.out] at hDN
                have hPE : Hid (∀ W, PutF h wr W → Below w1.heap.size w1 W) := Lib.hid (fun W hf => hE.out.trans (by rw [HHS.out]; exact hf.belowH (Nat.le_of_lt hH.out.lt)))
                clear hL hH0 hH hE
                cases hok : okV (heapAll l (o.take k)) evs
                · have hF := Lib.hid (HBAD.out (by rw [HOR2.out, hok, hlvb.out]; rfl))
                  rw [hok] at hDN
                  clear HBAD HGOOD HOR2 hok
                  go_wp2_with fail
                  clear x0 x1 x2 x3 x4 x5 x6 x7 e1
                  refine hDN.out.mono ?_
                  rintro e w5 ⟨rfl, -, hP5⟩
                  have hE := Lib.hid (hPE.out _ hP5)
                  have e1 := HO.out _ hE.out
                  clear hDN hP5 hPE
                  go_wp2_with fail
                  refine bodyPost_ret (v := .tuple #[.int .i64 (i : Int), .int .i64 16]) (by simp [results, Tryz.results11, go_sem]) rfl ?_
                  exact ⟨by rw [hF.out], HEND.out _ hE.out⟩
                · have hF := Lib.hid (HGOOD.out (by rw [HOR2.out, hok, hlvb.out]; rfl))
                  rw [hok] at hDN
                  clear HBAD HGOOD HOR2 hok
                  go_wp2_with fail
                  clear x0 x1 x2 x3 x4 x5 x6 x7 e1
                  refine hDN.out.mono ?_
                  rintro e w5 ⟨rfl, hcs, hP5⟩
                  obtain ⟨cs2, hl5, hH5, hg5⟩ := hcs trivial
                  have hE := Lib.hid (hPE.out _ hP5)
                  have hH5 := Lib.hid hH5
                  have hg6 : Hid (getV cs2 = heapAll l (o.take (k + 1))) := Lib.hid (by rw [hha.out]; exact hg5)
                  have hl6 : cs2.length ≤ 65 * evSum l (o.take (k + 1)) := by have := hsu.out; omega
                  clear hDN hP5 hcs hPE hg5
                  go_wp2_with fail
                  go_roundw
                  case rel => exact ⟨k + 1, cs2, by go_num, by omega, hl6, hF, hg6, hH5, hE⟩
                  case measure => simp [intOf]; omega
          · have t3 : decide (0 < k) = true := by simp; omega
            have t4 : decide ((0 : Int) < (k : Int)) = true := by simp; omega
            obtain ⟨k', hk'⟩ : ∃ k', k = k' + 1 := ⟨k - 1, by omega⟩
            have hkl : k' < o.length := by omega
            obtain ⟨i', hi', hil'⟩ := HR.out _ (List.getElem_mem hkl)
            have HPV : Hid (pvO o k = some (i' : Int)) := Lib.hid (by
              unfold pvO
              rw [if_neg hk0, hk', Nat.add_sub_cancel, List.getD_eq_getElem?_getD, List.getElem?_eq_getElem hkl, hi']; rfl)
            have hwr2 : IntKind.i64.wrap ((k : Int) - 1) = (k' : Int) := by rw [IntKind.wrap_i64]; omega
            have r1 : (0 : Int) ≤ (k' : Int) := Int.natCast_nonneg _
            have r2 : (k' : Int) < (o.length : Int) := by omega
            have r3 : (0 : Int) ≤ (i' : Int) := Int.natCast_nonneg _
            have r4 : (i' : Int) < (l.length : Int) := by omega
            have HOP := Lib.hid (fun W (h : Below w0.heap.size w0 W) => (HOG.out W (HWW.out W h) k' _ (List.getElem?_eq_getElem hkl)).trans (by rw [hi']))
            have HYP := Lib.hid (fun W (h : Below w0.heap.size w0 W) => HAG.out W (HWW.out W h) i' _ (List.getElem?_eq_getElem hil'))
            have HTW0 : Hid (twinB l (pvO o k) ⟨th, xkd, bg, en, ck, pl, wt, dA, dc, evs⟩ = (wt && l[i'].wr && decide (l[i'].pl = pl))) := Lib.hid (by unfold twinB; rw [HPV.out]; dsimp only; rw [attN_get hil'])
            clear hk0 hk' hi' hkl
            generalize l[i'] = y at *
            obtain ⟨yth, ykd, ybg, yen, yck, ypl, ywr, ydA, ydc, yevs⟩ := y
            dsimp only at HTW0 HYP
            have HS : Hid (∀ W, Below w0.heap.size w0 W → ChS1 w0 X th xkd bg en ck pl wt (.slice dA evs.length dc) g (goff + k') (i' : Int) b (off + i' * 8) ywr ypl W) := Lib.hid (fun W h => by
              obtain ⟨a0, a1, a2, a3, a4, a5, a6, a7, a8⟩ := HXS.out W h
              exact ⟨a0, a1, a2, a3, a4, a5, a6, a7, a8, HOP.out W h, (HYP.out W h).c6, (HYP.out W h).c5⟩)
            clear HOP HYP HXS
            cases wt
            · have HTW : Hid (twinB l (pvO o k) ⟨th, xkd, bg, en, ck, pl, false, dA, dc, evs⟩ = false) := Lib.hid (by rw [HTW0.out]; rfl)
              go_wp2_with fail
              clear hw0 hX c0 c1 c2 c3 c4 c5 c6 c7 e1
              refine wp_region_L (l := 35) (S := (ChS1 w0 X th xkd bg en ck pl false (.slice dA evs.length dc) g (goff + k') (i' : Int) b (off + i' * 8) ywr ypl)) (by kernel_rfl) ?_ (fun hHeld => ?_)
              · ((try dsimp only); (exact HS.out _ (Below.refl _ _).drew))
              refine wpAnyL_take (i := 0) (oi := _) (v := ?v73) rfl (by kernel_rfl) (fun _ _ _ h => h) (by assumption) (Or.inl ⟨by kernel_rfl, ?y73⟩) ?r73
              case y73 => (intro w hSw; (try dsimp only at hSw); go_simp; all_goals with_reducible rfl)
              try simp only [Act.put, List.setIfInBounds_toArray, List.set_cons_zero, List.set_cons_succ]
              refine wpAnyL_step (j := 1) (o := _) (by kernel_rfl) rfl (fun K hK => ?_)
              (go_simp; go_at_call 36; refine (placed_is th xkd bg en ck pl false (.slice dA evs.length dc) _ HPL.out _).mono ?_; rintro e w4 ⟨rfl, hb4⟩)
              refine hK _ _ ?_ (fun hHeld => ?_)
              · ((try dsimp only); (exact HS.out _ (hHeld.1.trans (hb4.mono hHeld.1.size))))
              clear hK K
              try simp only [Act.put, List.setIfInBounds_toArray, List.set_cons_zero, List.set_cons_succ]
              refine wpAnyL_take (i := 2) (oi := _) (v := ?v75) rfl (by kernel_rfl) (fun _ _ _ h => h) (by assumption) (Or.inl ⟨by kernel_rfl, ?y75⟩) ?r75
              case y75 => (intro w hSw; (try dsimp only at hSw); go_simp; all_goals with_reducible rfl)
              try simp only [Act.put, List.setIfInBounds_toArray, List.set_cons_zero, List.set_cons_succ]
              refine wpAnyL_take (i := 3) (oi := _) (v := ?v76) rfl (by kernel_rfl) (fun _ _ _ h => h) (by assumption) (Or.inl ⟨by kernel_rfl, ?y76⟩) ?r76
              case y76 => (intro w hSw; (try dsimp only at hSw); go_simp; all_goals with_reducible rfl)
              try simp only [Act.put, List.setIfInBounds_toArray, List.set_cons_zero, List.set_cons_succ]
              refine wpAnyL_take (i := 4) (oi := _) (v := ?v77) rfl (by kernel_rfl) (fun _ _ _ h => h) (by assumption) (Or.inl ⟨by kernel_rfl, ?y77⟩) ?r77
              case y77 => (intro w hSw; (try dsimp only at hSw); go_simp; all_goals with_reducible rfl)
              try simp only [Act.put, List.setIfInBounds_toArray, List.set_cons_zero, List.set_cons_succ]
              refine wpAnyL_take (i := 5) (oi := _) (v := ?v78) rfl (by kernel_rfl) (fun _ _ _ h => h) (by assumption) (Or.inl ⟨by kernel_rfl, ?y78⟩) ?r78
              case y78 => (intro w hSw; (try dsimp only at hSw); go_simp; all_goals with_reducible rfl)
              try simp only [Act.put, List.setIfInBounds_toArray, List.set_cons_zero, List.set_cons_succ]
              refine wpAnyL_take (i := 6) (oi := _) (v := ?v79) rfl (by kernel_rfl) (fun _ _ _ h => h) (by assumption) (Or.inl ⟨by kernel_rfl, ?y79⟩) ?r79
              case y79 => (intro w hSw; (try dsimp only at hSw); go_simp; all_goals with_reducible rfl)
              try simp only [Act.put, List.setIfInBounds_toArray, List.set_cons_zero, List.set_cons_succ]
              refine wpAnyL_take (i := 7) (oi := _) (v := ?v80) rfl (by kernel_rfl) (fun _ _ _ h => h) (by assumption) (Or.inl ⟨by kernel_rfl, ?y80⟩) ?r80
              case y80 => (intro w hSw; (try dsimp only at hSw); go_simp; all_goals with_reducible rfl)
              try simp only [Act.put, List.setIfInBounds_toArray, List.set_cons_zero, List.set_cons_succ]
              refine wpAnyL_take (i := 8) (oi := _) (v := ?v81) rfl (by kernel_rfl) (fun _ _ _ h => h) (by assumption) (Or.inl ⟨by kernel_rfl, ?y81⟩) ?r81
              case y81 => (intro w hSw; (try dsimp only at hSw); go_simp; all_goals with_reducible rfl)
              try simp only [Act.put, List.setIfInBounds_toArray, List.set_cons_zero, List.set_cons_succ]
              refine wpAnyL_take (i := 9) (oi := _) (v := ?v82) rfl (by kernel_rfl) (fun _ _ _ h => h) (by assumption) (Or.inl ⟨by kernel_rfl, ?y82⟩) ?r82
              case y82 => (intro w hSw; (try dsimp only at hSw); go_simp; all_goals with_reducible rfl)
              try simp only [Act.put, List.setIfInBounds_toArray, List.set_cons_zero, List.set_cons_succ]
              refine wpAnyL_take (i := 10) (oi := _) (v := ?v83) rfl (by kernel_rfl) (fun _ _ _ h => h) (by assumption) (Or.inl ⟨by kernel_rfl, ?y83⟩) ?r83
              case y83 => (intro w hSw; (try dsimp only at hSw); go_simp; all_goals with_reducible rfl)
              try simp only [Act.put, List.setIfInBounds_toArray, List.set_cons_zero, List.set_cons_succ]
              refine wpAnyL_take (i := 11) (oi := _) (v := undef) rfl (by kernel_rfl) (fun _ _ _ h => h) (by assumption) (Or.inr ⟨by kernel_rfl, rfl⟩) ?_
              try simp only [Act.put, List.setIfInBounds_toArray, List.set_cons_zero, List.set_cons_succ]
              refine wpAnyL_take (i := 12) (oi := _) (v := undef) rfl (by kernel_rfl) (fun _ _ _ h => h) (by assumption) (Or.inr ⟨by kernel_rfl, rfl⟩) ?_
              try simp only [Act.put, List.setIfInBounds_toArray, List.set_cons_zero, List.set_cons_succ]
              refine wpAnyL_take (i := 13) (oi := _) (v := undef) rfl (by kernel_rfl) (fun _ _ _ h => h) (by assumption) (Or.inr ⟨by kernel_rfl, rfl⟩) ?_
              try simp only [Act.put, List.setIfInBounds_toArray, List.set_cons_zero, List.set_cons_succ]
              refine wpAnyL_take (i := 14) (oi := _) (v := undef) rfl (by kernel_rfl) (fun _ _ _ h => h) (by assumption) (Or.inr ⟨by kernel_rfl, rfl⟩) ?_
              try simp only [Act.put, List.setIfInBounds_toArray, List.set_cons_zero, List.set_cons_succ]
              refine wpAnyL_take (i := 15) (oi := _) (v := undef) rfl (by kernel_rfl) (fun _ _ _ h => h) (by assumption) (Or.inr ⟨by kernel_rfl, rfl⟩) ?_
              try simp only [Act.put, List.setIfInBounds_toArray, List.set_cons_zero, List.set_cons_succ]
              refine wpAnyL_take (i := 16) (oi := _) (v := undef) rfl (by kernel_rfl) (fun _ _ _ h => h) (by assumption) (Or.inr ⟨by kernel_rfl, rfl⟩) ?_
              try simp only [Act.put, List.setIfInBounds_toArray, List.set_cons_zero, List.set_cons_succ]
              refine wpAnyL_take (i := 17) (oi := _) (v := undef) rfl (by kernel_rfl) (fun _ _ _ h => h) (by assumption) (Or.inr ⟨by kernel_rfl, rfl⟩) ?_
              try simp only [Act.put, List.setIfInBounds_toArray, List.set_cons_zero, List.set_cons_succ]
              refine wpAnyL_take (i := 18) (oi := _) (v := undef) rfl (by kernel_rfl) (fun _ _ _ h => h) (by assumption) (Or.inr ⟨by kernel_rfl, rfl⟩) ?_
              try simp only [Act.put, List.setIfInBounds_toArray, List.set_cons_zero, List.set_cons_succ]
              refine wpAnyL_take (i := 19) (oi := _) (v := undef) rfl (by kernel_rfl) (fun _ _ _ h => h) (by assumption) (Or.inr ⟨by kernel_rfl, rfl⟩) ?_
              try simp only [Act.put, List.setIfInBounds_toArray, List.set_cons_zero, List.set_cons_succ]
              refine wpAnyL_take (i := 20) (oi := _) (v := ?v93) rfl (by kernel_rfl) (fun _ _ _ h => h) (by assumption) (Or.inl ⟨by kernel_rfl, ?y93⟩) ?r93
              case y93 => (intro w hSw; (try dsimp only at hSw); go_simp; all_goals with_reducible rfl)
              try simp only [Act.put, List.setIfInBounds_toArray, List.set_cons_zero, List.set_cons_succ]
              refine wpAnyL_take (i := 21) (oi := _) (v := ?v94) rfl (by kernel_rfl) (fun _ _ _ h => h) (by assumption) (Or.inl ⟨by kernel_rfl, ?y94⟩) ?r94
              case y94 => (intro w hSw; (try dsimp only at hSw); go_simp; all_goals with_reducible rfl)
              try simp only [Act.put, List.setIfInBounds_toArray, List.set_cons_zero, List.set_cons_succ]
              refine wpAnyL_take (i := 22) (oi := _) (v := undef) rfl (by kernel_rfl) (fun _ _ _ h => h) (by assumption) (Or.inr ⟨by kernel_rfl, rfl⟩) ?_
              try simp only [Act.put, List.setIfInBounds_toArray, List.set_cons_zero, List.set_cons_succ]
              refine wpAnyL_take (i := 23) (oi := _) (v := undef) rfl (by kernel_rfl) (fun _ _ _ h => h) (by assumption) (Or.inr ⟨by kernel_rfl, rfl⟩) ?_
              try simp only [Act.put, List.setIfInBounds_toArray, List.set_cons_zero, List.set_cons_succ]
              refine wpAnyL_take (i := 24) (oi := _) (v := undef) rfl (by kernel_rfl) (fun _ _ _ h => h) (by assumption) (Or.inr ⟨by kernel_rfl, rfl⟩) ?_
              try simp only [Act.put, List.setIfInBounds_toArray, List.set_cons_zero, List.set_cons_succ]
              refine wpAnyL_take (i := 25) (oi := _) (v := undef) rfl (by kernel_rfl) (fun _ _ _ h => h) (by assumption) (Or.inr ⟨by kernel_rfl, rfl⟩) ?_
              try simp only [Act.put, List.setIfInBounds_toArray, List.set_cons_zero, List.set_cons_succ]
              refine wpAnyL_take (i := 26) (oi := _) (v := undef) rfl (by kernel_rfl) (fun _ _ _ h => h) (by assumption) (Or.inr ⟨by kernel_rfl, rfl⟩) ?_
              try simp only [Act.put, List.setIfInBounds_toArray, List.set_cons_zero, List.set_cons_succ]
              refine wpAnyL_take (i := 27) (oi := _) (v := undef) rfl (by kernel_rfl) (fun _ _ _ h => h) (by assumption) (Or.inr ⟨by kernel_rfl, rfl⟩) ?_
              try simp only [Act.put, List.setIfInBounds_toArray, List.set_cons_zero, List.set_cons_succ]
              refine wpAnyL_take (i := 28) (oi := _) (v := undef) rfl (by kernel_rfl) (fun _ _ _ h => h) (by assumption) (Or.inr ⟨by kernel_rfl, rfl⟩) ?_
              try simp only [Act.put, List.setIfInBounds_toArray, List.set_cons_zero, List.set_cons_succ]
              refine wpAnyL_take (i := 29) (oi := _) (v := undef) rfl (by kernel_rfl) (fun _ _ _ h => h) (by assumption) (Or.inr ⟨by kernel_rfl, rfl⟩) ?_
              try simp only [Act.put, List.setIfInBounds_toArray, List.set_cons_zero, List.set_cons_succ]
              refine wpAnyL_take (i := 30) (oi := _) (v := undef) rfl (by kernel_rfl) (fun _ _ _ h => h) (by assumption) (Or.inr ⟨by kernel_rfl, rfl⟩) ?_
              try simp only [Act.put, List.setIfInBounds_toArray, List.set_cons_zero, List.set_cons_succ]
              refine wpAnyL_take (i := 31) (oi := _) (v := undef) rfl (by kernel_rfl) (fun _ _ _ h => h) (by assumption) (Or.inr ⟨by kernel_rfl, rfl⟩) ?_
              try simp only [Act.put, List.setIfInBounds_toArray, List.set_cons_zero, List.set_cons_succ]
              refine wpAnyL_take (i := 32) (oi := _) (v := undef) rfl (by kernel_rfl) (fun _ _ _ h => h) (by assumption) (Or.inr ⟨by kernel_rfl, rfl⟩) ?_
              try simp only [Act.put, List.setIfInBounds_toArray, List.set_cons_zero, List.set_cons_succ]
              refine wpAnyL_take (i := 33) (oi := _) (v := undef) rfl (by kernel_rfl) (fun _ _ _ h => h) (by assumption) (Or.inr ⟨by kernel_rfl, rfl⟩) ?_
              try simp only [Act.put, List.setIfInBounds_toArray, List.set_cons_zero, List.set_cons_succ]
              refine wpAnyL_take (i := 34) (oi := _) (v := ?v107) rfl (by kernel_rfl) (fun _ _ _ h => h) (by assumption) (Or.inl ⟨by kernel_rfl, ?y107⟩) ?r107
              case y107 => (intro w hSw; (try dsimp only at hSw); go_simp; all_goals with_reducible rfl)
              try simp only [Act.put, List.setIfInBounds_toArray, List.set_cons_zero, List.set_cons_succ]
              refine wpAnyL_last (j := 35) (o := _) (by kernel_rfl) rfl (by rfl) (by kernel_rfl) (fun K hK => ?_)
              go_simp
              (refine hK _ _ ?_; clear hK K)
              try simp only [Act.put, List.setIfInBounds_toArray, List.set_cons_zero, List.set_cons_succ]
              have hW4 := Lib.hid hHeld.1
              clear hHeld
              have HOR2 : Hid (orderedB l (pvO o k) ⟨th, xkd, bg, en, ck, pl, false, dA, dc, evs⟩ (o.drop (k + 1)) (heapAll l (o.take k)) = (!decide (lv < bg) && okV (heapAll l (o.take k)) evs)) := Lib.hid (by have hp := HPL.out; rw [HORD.out, HTW.out]; first | (rw [hp]; simp; done) | (simp at hp; simp [hp]; done) | (simp [hp]; done))
              have HL0 : Hid (lv < bg ↔ leastV l (o.drop (k + 1)) < bg) := Lib.hid (by rw [HLV.out])
              obtain ⟨wo, rfl⟩ : ∃ wo : World, wo = wr := ⟨_, rfl⟩
              clear HORD HPL HTW
              go_wp2_with fail
              go_loopw [9] (fun i2 wr => ∃ m : Nat, i2 = .int .i64 m ∧ k + 1 ≤ m ∧ m ≤ o.length ∧ Hid (lv < bg ↔ leastV l (o.drop m) < bg) ∧ Hid (Below w0.heap.size w0 wr)) (fun i2 _ => o.length - (intOf i2).toNat)
              case atStart => exact ⟨k + 1, by go_num, Nat.le_refl _, by omega, HL0, hW4⟩
              case round =>
                clear HL0
                obtain ⟨m, rfl, hm1, hm2, hL, hW⟩ := hrel
                have hE := Lib.hid (HWW.out _ hW.out)
                obtain ⟨x0, x1, x2, x3, x4, x5, x6, x7⟩ := HX.out _ hW.out
                simp only [Nat.zero_add] at x0 x1 x2 x3 x4 x5 x6 x7
                have e1 := HO.out _ hE.out
                by_cases hml : m < o.length
                · obtain ⟨i2, hi2, hil2⟩ := HR.out _ (List.getElem_mem hml)
                  have e2 := HOG.out _ hE.out m _ (List.getElem?_eq_getElem hml)
                  rw [hi2] at e2
                  obtain ⟨-, -, -, y3, -, -, -, -⟩ := HAG.out _ hE.out i2 _ (List.getElem?_eq_getElem hil2)
                  have hst2 : Hid (leastV l (o.drop m) = min (leastV l (o.drop (m + 1))) l[i2].en) := Lib.hid (by rw [List.drop_eq_getElem_cons hml, leastV, hi2, attN_get hil2])
                  have s1 : (m : Int) < (o.length : Int) := by omega
                  have s2 : (0 : Int) ≤ (m : Int) := Int.natCast_nonneg _
                  have s3 : (i2 : Int) < (l.length : Int) := by omega
                  have s4 : (0 : Int) ≤ (i2 : Int) := Int.natCast_nonneg _
                  clear hi2
                  generalize l[i2].en = yen at *
                  by_cases hb : yen < bg
                  · have t9 : decide (yen < bg) = true := by simpa using hb
                    have hF := Lib.hid (HBAD.out (by rw [HOR2.out, decide_eq_true (hL.out.2 (by rw [hst2.out]; omega))]; rfl))
                    have hE2 := Lib.hid (fun q => below_drewN hE.out q)
                    clear hst2 hL HBAD HGOOD HOR2 hb hH0 hE
                    go_wp2_with fail
                    go_quiet (fail)
                    clear e2 x0 x1 x2 x3 x4 x5 x6 x7 y3
                    go_wp2_with fail
                    refine bodyPost_ret (v := .tuple #[.int .i64 (i : Int), .int .i64 16]) (by simp [results, Tryz.results11, go_sem]) rfl ?_
                    exact ⟨by rw [hF.out], HEND.out _ (hE2.out _)⟩
                  · have t9 : decide (yen < bg) = false := by simpa using hb
                    have hL2 : Hid (lv < bg ↔ leastV l (o.drop (m + 1)) < bg) := Lib.hid (by rw [hL.out, hst2.out]; omega)
                    have hW3 := Lib.hid (fun q => below_drewN hW.out q)
                    clear hst2 hL hb
                    go_wp2_with fail
                    go_quiet (fail)
                    go_wp2_with fail
                    go_roundw
                    case rel => exact ⟨m + 1, by go_num, by omega, by omega, hL2, Lib.hid (hW3.out _)⟩
                    case measure => simp [intOf]; omega
                · have hlvb : Hid (decide (lv < bg) = false) := Lib.hid (decide_eq_false (fun h => by
                    have := hL.out.1 h
                    rw [List.drop_eq_nil_of_le (by omega)] at this
                    unfold leastV at this
                    have := hbg.2
                    omega))
                  have hH := Lib.hid (hH0.out.below hW.out)
                  have hDN := Lib.hid (rfDone_any h cs th xkd bg en ck pl false dA dc evs (65 * evSum l (o.take k)) hcl HEN.out HEX.out wr hH.out (fun W hf => by
                    have hbw : Below w1.heap.size wr W := by rw [HHS.out]; exact hf.belowH (Nat.le_of_lt hH.out.lt)
                    exact (HEV.out _ (hE.out.trans hbw)).keep (Below.refl _ _) (HBS.out _ (hE.out.trans hbw))))
                  rw [hgc.out] at hDN
                  have hPE : Hid (∀ W, PutF h wr W → Below w1.heap.size w1 W) := Lib.hid (fun W hf => hE.out.trans (by rw [HHS.out]; exact hf.belowH (Nat.le_of_lt hH.out.lt)))
                  clear hL hH0 hH hE
                  cases hok : okV (heapAll l (o.take k)) evs
                  · have hF := Lib.hid (HBAD.out (by rw [HOR2.out, hok, hlvb.out]; rfl))
                    rw [hok] at hDN
                    clear HBAD HGOOD HOR2 hok
                    go_wp2_with fail
                    clear x0 x1 x2 x3 x4 x5 x6 x7 e1
                    refine hDN.out.mono ?_
                    rintro e w5 ⟨rfl, -, hP5⟩
                    have hE := Lib.hid (hPE.out _ hP5)
                    have e1 := HO.out _ hE.out
                    clear hDN hP5 hPE
                    go_wp2_with fail
                    refine bodyPost_ret (v := .tuple #[.int .i64 (i : Int), .int .i64 16]) (by simp [results, Tryz.results11, go_sem]) rfl ?_
                    exact ⟨by rw [hF.out], HEND.out _ hE.out⟩
                  · have hF := Lib.hid (HGOOD.out (by rw [HOR2.out, hok, hlvb.out]; rfl))
                    rw [hok] at hDN
                    clear HBAD HGOOD HOR2 hok
                    go_wp2_with fail
                    clear x0 x1 x2 x3 x4 x5 x6 x7 e1
                    refine hDN.out.mono ?_
                    rintro e w5 ⟨rfl, hcs, hP5⟩
                    obtain ⟨cs2, hl5, hH5, hg5⟩ := hcs trivial
                    have hE := Lib.hid (hPE.out _ hP5)
                    have hH5 := Lib.hid hH5
                    have hg6 : Hid (getV cs2 = heapAll l (o.take (k + 1))) := Lib.hid (by rw [hha.out]; exact hg5)
                    have hl6 : cs2.length ≤ 65 * evSum l (o.take (k + 1)) := by have := hsu.out; omega
                    clear hDN hP5 hcs hPE hg5
                    go_wp2_with fail
                    go_roundw
                    case rel => exact ⟨k + 1, cs2, by go_num, by omega, hl6, hF, hg6, hH5, hE⟩
                    case measure => simp [intOf]; omega
            · cases ywr
              · have HTW : Hid (twinB l (pvO o k) ⟨th, xkd, bg, en, ck, pl, true, dA, dc, evs⟩ = false) := Lib.hid (by rw [HTW0.out]; rfl)
                go_wp2_with fail
                clear hw0 hX c0 c1 c2 c3 c4 c5 c6 c7 e1
                refine wp_region_L (l := 35) (S := (ChS1 w0 X th xkd bg en ck pl true (.slice dA evs.length dc) g (goff + k') (i' : Int) b (off + i' * 8) false ypl)) (by kernel_rfl) ?_ (fun hHeld => ?_)
                · ((try dsimp only); (exact HS.out _ (Below.refl _ _).drew))
                refine wpAnyL_take (i := 0) (oi := _) (v := ?v109) rfl (by kernel_rfl) (fun _ _ _ h => h) (by assumption) (Or.inl ⟨by kernel_rfl, ?y109⟩) ?r109
                case y109 => (intro w hSw; (try dsimp only at hSw); go_simp; all_goals with_reducible rfl)
                try simp only [Act.put, List.setIfInBounds_toArray, List.set_cons_zero, List.set_cons_succ]
                refine wpAnyL_step (j := 1) (o := _) (by kernel_rfl) rfl (fun K hK => ?_)
                (go_simp; go_at_call 36; refine (placed_is th xkd bg en ck pl true (.slice dA evs.length dc) _ HPL.out _).mono ?_; rintro e w4 ⟨rfl, hb4⟩)
                refine hK _ _ ?_ (fun hHeld => ?_)
                · ((try dsimp only); (exact HS.out _ (hHeld.1.trans (hb4.mono hHeld.1.size))))
                clear hK K
                try simp only [Act.put, List.setIfInBounds_toArray, List.set_cons_zero, List.set_cons_succ]
                refine wpAnyL_take (i := 2) (oi := _) (v := ?v111) rfl (by kernel_rfl) (fun _ _ _ h => h) (by assumption) (Or.inl ⟨by kernel_rfl, ?y111⟩) ?r111
                case y111 => (intro w hSw; (try dsimp only at hSw); go_simp; all_goals with_reducible rfl)
                try simp only [Act.put, List.setIfInBounds_toArray, List.set_cons_zero, List.set_cons_succ]
                refine wpAnyL_take (i := 3) (oi := _) (v := ?v112) rfl (by kernel_rfl) (fun _ _ _ h => h) (by assumption) (Or.inl ⟨by kernel_rfl, ?y112⟩) ?r112
                case y112 => (intro w hSw; (try dsimp only at hSw); go_simp; all_goals with_reducible rfl)
                try simp only [Act.put, List.setIfInBounds_toArray, List.set_cons_zero, List.set_cons_succ]
                refine wpAnyL_take (i := 4) (oi := _) (v := ?v113) rfl (by kernel_rfl) (fun _ _ _ h => h) (by assumption) (Or.inl ⟨by kernel_rfl, ?y113⟩) ?r113
                case y113 => (intro w hSw; (try dsimp only at hSw); go_simp; all_goals with_reducible rfl)
                try simp only [Act.put, List.setIfInBounds_toArray, List.set_cons_zero, List.set_cons_succ]
                refine wpAnyL_take (i := 5) (oi := _) (v := ?v114) rfl (by kernel_rfl) (fun _ _ _ h => h) (by assumption) (Or.inl ⟨by kernel_rfl, ?y114⟩) ?r114
                case y114 => (intro w hSw; (try dsimp only at hSw); go_simp; all_goals with_reducible rfl)
                try simp only [Act.put, List.setIfInBounds_toArray, List.set_cons_zero, List.set_cons_succ]
                refine wpAnyL_take (i := 6) (oi := _) (v := ?v115) rfl (by kernel_rfl) (fun _ _ _ h => h) (by assumption) (Or.inl ⟨by kernel_rfl, ?y115⟩) ?r115
                case y115 => (intro w hSw; (try dsimp only at hSw); go_simp; all_goals with_reducible rfl)
                try simp only [Act.put, List.setIfInBounds_toArray, List.set_cons_zero, List.set_cons_succ]
                refine wpAnyL_take (i := 7) (oi := _) (v := ?v116) rfl (by kernel_rfl) (fun _ _ _ h => h) (by assumption) (Or.inl ⟨by kernel_rfl, ?y116⟩) ?r116
                case y116 => (intro w hSw; (try dsimp only at hSw); go_simp; all_goals with_reducible rfl)
                try simp only [Act.put, List.setIfInBounds_toArray, List.set_cons_zero, List.set_cons_succ]
                refine wpAnyL_take (i := 8) (oi := _) (v := ?v117) rfl (by kernel_rfl) (fun _ _ _ h => h) (by assumption) (Or.inl ⟨by kernel_rfl, ?y117⟩) ?r117
                case y117 => (intro w hSw; (try dsimp only at hSw); go_simp; all_goals with_reducible rfl)
                try simp only [Act.put, List.setIfInBounds_toArray, List.set_cons_zero, List.set_cons_succ]
                refine wpAnyL_take (i := 9) (oi := _) (v := ?v118) rfl (by kernel_rfl) (fun _ _ _ h => h) (by assumption) (Or.inl ⟨by kernel_rfl, ?y118⟩) ?r118
                case y118 => (intro w hSw; (try dsimp only at hSw); go_simp; all_goals with_reducible rfl)
                try simp only [Act.put, List.setIfInBounds_toArray, List.set_cons_zero, List.set_cons_succ]
                refine wpAnyL_take (i := 10) (oi := _) (v := ?v119) rfl (by kernel_rfl) (fun _ _ _ h => h) (by assumption) (Or.inl ⟨by kernel_rfl, ?y119⟩) ?r119
                case y119 => (intro w hSw; (try dsimp only at hSw); go_simp; all_goals with_reducible rfl)
                try simp only [Act.put, List.setIfInBounds_toArray, List.set_cons_zero, List.set_cons_succ]
                refine wpAnyL_take (i := 11) (oi := _) (v := ?v120) rfl (by kernel_rfl) (fun _ _ _ h => h) (by assumption) (Or.inl ⟨by kernel_rfl, ?y120⟩) ?r120
                case y120 => (intro w hSw; (try dsimp only at hSw); go_simp; all_goals with_reducible rfl)
                try simp only [Act.put, List.setIfInBounds_toArray, List.set_cons_zero, List.set_cons_succ]
                refine wpAnyL_take (i := 12) (oi := _) (v := ?v121) rfl (by kernel_rfl) (fun _ _ _ h => h) (by assumption) (Or.inl ⟨by kernel_rfl, ?y121⟩) ?r121
                case y121 => (intro w hSw; (try dsimp only at hSw); go_simp; all_goals with_reducible rfl)
                try simp only [Act.put, List.setIfInBounds_toArray, List.set_cons_zero, List.set_cons_succ]
                refine wpAnyL_take (i := 13) (oi := _) (v := ?v122) rfl (by kernel_rfl) (fun _ _ _ h => h) (by assumption) (Or.inl ⟨by kernel_rfl, ?y122⟩) ?r122
                case y122 => (intro w hSw; (try dsimp only at hSw); go_simp; all_goals with_reducible rfl)
                try simp only [Act.put, List.setIfInBounds_toArray, List.set_cons_zero, List.set_cons_succ]
                refine wpAnyL_take (i := 14) (oi := _) (v := ?v123) rfl (by kernel_rfl) (fun _ _ _ h => h) (by assumption) (Or.inl ⟨by kernel_rfl, ?y123⟩) ?r123
                case y123 => (intro w hSw; (try dsimp only at hSw); go_simp; all_goals with_reducible rfl)
                try simp only [Act.put, List.setIfInBounds_toArray, List.set_cons_zero, List.set_cons_succ]
                refine wpAnyL_take (i := 15) (oi := _) (v := ?v124) rfl (by kernel_rfl) (fun _ _ _ h => h) (by assumption) (Or.inl ⟨by kernel_rfl, ?y124⟩) ?r124
                case y124 => (intro w hSw; (try dsimp only at hSw); go_simp; all_goals with_reducible rfl)
                try simp only [Act.put, List.setIfInBounds_toArray, List.set_cons_zero, List.set_cons_succ]
                refine wpAnyL_take (i := 16) (oi := _) (v := ?v125) rfl (by kernel_rfl) (fun _ _ _ h => h) (by assumption) (Or.inl ⟨by kernel_rfl, ?y125⟩) ?r125
                case y125 => (intro w hSw; (try dsimp only at hSw); go_simp; all_goals with_reducible rfl)
                try simp only [Act.put, List.setIfInBounds_toArray, List.set_cons_zero, List.set_cons_succ]
                refine wpAnyL_take (i := 17) (oi := _) (v := ?v126) rfl (by kernel_rfl) (fun _ _ _ h => h) (by assumption) (Or.inl ⟨by kernel_rfl, ?y126⟩) ?r126
                case y126 => (intro w hSw; (try dsimp only at hSw); go_simp; all_goals with_reducible rfl)
                try simp only [Act.put, List.setIfInBounds_toArray, List.set_cons_zero, List.set_cons_succ]
                refine wpAnyL_take (i := 18) (oi := _) (v := ?v127) rfl (by kernel_rfl) (fun _ _ _ h => h) (by assumption) (Or.inl ⟨by kernel_rfl, ?y127⟩) ?r127
                case y127 => (intro w hSw; (try dsimp only at hSw); go_simp; all_goals with_reducible rfl)
                try simp only [Act.put, List.setIfInBounds_toArray, List.set_cons_zero, List.set_cons_succ]
                refine wpAnyL_take (i := 19) (oi := _) (v := ?v128) rfl (by kernel_rfl) (fun _ _ _ h => h) (by assumption) (Or.inl ⟨by kernel_rfl, ?y128⟩) ?r128
                case y128 => (intro w hSw; (try dsimp only at hSw); go_simp; all_goals with_reducible rfl)
                try simp only [Act.put, List.setIfInBounds_toArray, List.set_cons_zero, List.set_cons_succ]
                refine wpAnyL_take (i := 20) (oi := _) (v := ?v129) rfl (by kernel_rfl) (fun _ _ _ h => h) (by assumption) (Or.inl ⟨by kernel_rfl, ?y129⟩) ?r129
                case y129 => (intro w hSw; (try dsimp only at hSw); go_simp; all_goals with_reducible rfl)
                try simp only [Act.put, List.setIfInBounds_toArray, List.set_cons_zero, List.set_cons_succ]
                refine wpAnyL_take (i := 21) (oi := _) (v := ?v130) rfl (by kernel_rfl) (fun _ _ _ h => h) (by assumption) (Or.inl ⟨by kernel_rfl, ?y130⟩) ?r130
                case y130 => (intro w hSw; (try dsimp only at hSw); go_simp; all_goals with_reducible rfl)
                try simp only [Act.put, List.setIfInBounds_toArray, List.set_cons_zero, List.set_cons_succ]
                refine wpAnyL_take (i := 22) (oi := _) (v := undef) rfl (by kernel_rfl) (fun _ _ _ h => h) (by assumption) (Or.inr ⟨by kernel_rfl, rfl⟩) ?_
                try simp only [Act.put, List.setIfInBounds_toArray, List.set_cons_zero, List.set_cons_succ]
                refine wpAnyL_take (i := 23) (oi := _) (v := undef) rfl (by kernel_rfl) (fun _ _ _ h => h) (by assumption) (Or.inr ⟨by kernel_rfl, rfl⟩) ?_
                try simp only [Act.put, List.setIfInBounds_toArray, List.set_cons_zero, List.set_cons_succ]
                refine wpAnyL_take (i := 24) (oi := _) (v := undef) rfl (by kernel_rfl) (fun _ _ _ h => h) (by assumption) (Or.inr ⟨by kernel_rfl, rfl⟩) ?_
                try simp only [Act.put, List.setIfInBounds_toArray, List.set_cons_zero, List.set_cons_succ]
                refine wpAnyL_take (i := 25) (oi := _) (v := undef) rfl (by kernel_rfl) (fun _ _ _ h => h) (by assumption) (Or.inr ⟨by kernel_rfl, rfl⟩) ?_
                try simp only [Act.put, List.setIfInBounds_toArray, List.set_cons_zero, List.set_cons_succ]
                refine wpAnyL_take (i := 26) (oi := _) (v := undef) rfl (by kernel_rfl) (fun _ _ _ h => h) (by assumption) (Or.inr ⟨by kernel_rfl, rfl⟩) ?_
                try simp only [Act.put, List.setIfInBounds_toArray, List.set_cons_zero, List.set_cons_succ]
                refine wpAnyL_take (i := 27) (oi := _) (v := undef) rfl (by kernel_rfl) (fun _ _ _ h => h) (by assumption) (Or.inr ⟨by kernel_rfl, rfl⟩) ?_
                try simp only [Act.put, List.setIfInBounds_toArray, List.set_cons_zero, List.set_cons_succ]
                refine wpAnyL_take (i := 28) (oi := _) (v := undef) rfl (by kernel_rfl) (fun _ _ _ h => h) (by assumption) (Or.inr ⟨by kernel_rfl, rfl⟩) ?_
                try simp only [Act.put, List.setIfInBounds_toArray, List.set_cons_zero, List.set_cons_succ]
                refine wpAnyL_take (i := 29) (oi := _) (v := undef) rfl (by kernel_rfl) (fun _ _ _ h => h) (by assumption) (Or.inr ⟨by kernel_rfl, rfl⟩) ?_
                try simp only [Act.put, List.setIfInBounds_toArray, List.set_cons_zero, List.set_cons_succ]
                refine wpAnyL_take (i := 30) (oi := _) (v := undef) rfl (by kernel_rfl) (fun _ _ _ h => h) (by assumption) (Or.inr ⟨by kernel_rfl, rfl⟩) ?_
                try simp only [Act.put, List.setIfInBounds_toArray, List.set_cons_zero, List.set_cons_succ]
                refine wpAnyL_take (i := 31) (oi := _) (v := undef) rfl (by kernel_rfl) (fun _ _ _ h => h) (by assumption) (Or.inr ⟨by kernel_rfl, rfl⟩) ?_
                try simp only [Act.put, List.setIfInBounds_toArray, List.set_cons_zero, List.set_cons_succ]
                refine wpAnyL_take (i := 32) (oi := _) (v := undef) rfl (by kernel_rfl) (fun _ _ _ h => h) (by assumption) (Or.inr ⟨by kernel_rfl, rfl⟩) ?_
                try simp only [Act.put, List.setIfInBounds_toArray, List.set_cons_zero, List.set_cons_succ]
                refine wpAnyL_take (i := 33) (oi := _) (v := undef) rfl (by kernel_rfl) (fun _ _ _ h => h) (by assumption) (Or.inr ⟨by kernel_rfl, rfl⟩) ?_
                try simp only [Act.put, List.setIfInBounds_toArray, List.set_cons_zero, List.set_cons_succ]
                refine wpAnyL_take (i := 34) (oi := _) (v := ?v143) rfl (by kernel_rfl) (fun _ _ _ h => h) (by assumption) (Or.inl ⟨by kernel_rfl, ?y143⟩) ?r143
                case y143 => (intro w hSw; (try dsimp only at hSw); go_simp; all_goals with_reducible rfl)
                try simp only [Act.put, List.setIfInBounds_toArray, List.set_cons_zero, List.set_cons_succ]
                refine wpAnyL_last (j := 35) (o := _) (by kernel_rfl) rfl (by rfl) (by kernel_rfl) (fun K hK => ?_)
                go_simp
                (refine hK _ _ ?_; clear hK K)
                try simp only [Act.put, List.setIfInBounds_toArray, List.set_cons_zero, List.set_cons_succ]
                have hW4 := Lib.hid hHeld.1
                clear hHeld
                have HOR2 : Hid (orderedB l (pvO o k) ⟨th, xkd, bg, en, ck, pl, true, dA, dc, evs⟩ (o.drop (k + 1)) (heapAll l (o.take k)) = (!decide (lv < bg) && okV (heapAll l (o.take k)) evs)) := Lib.hid (by have hp := HPL.out; rw [HORD.out, HTW.out]; first | (rw [hp]; simp; done) | (simp at hp; simp [hp]; done) | (simp [hp]; done))
                have HL0 : Hid (lv < bg ↔ leastV l (o.drop (k + 1)) < bg) := Lib.hid (by rw [HLV.out])
                obtain ⟨wo, rfl⟩ : ∃ wo : World, wo = wr := ⟨_, rfl⟩
                clear HORD HPL HTW
                go_wp2_with fail
                go_loopw [9] (fun i2 wr => ∃ m : Nat, i2 = .int .i64 m ∧ k + 1 ≤ m ∧ m ≤ o.length ∧ Hid (lv < bg ↔ leastV l (o.drop m) < bg) ∧ Hid (Below w0.heap.size w0 wr)) (fun i2 _ => o.length - (intOf i2).toNat)
                case atStart => exact ⟨k + 1, by go_num, Nat.le_refl _, by omega, HL0, hW4⟩
                case round =>
                  clear HL0
                  obtain ⟨m, rfl, hm1, hm2, hL, hW⟩ := hrel
                  have hE := Lib.hid (HWW.out _ hW.out)
                  obtain ⟨x0, x1, x2, x3, x4, x5, x6, x7⟩ := HX.out _ hW.out
                  simp only [Nat.zero_add] at x0 x1 x2 x3 x4 x5 x6 x7
                  have e1 := HO.out _ hE.out
                  by_cases hml : m < o.length
                  · obtain ⟨i2, hi2, hil2⟩ := HR.out _ (List.getElem_mem hml)
                    have e2 := HOG.out _ hE.out m _ (List.getElem?_eq_getElem hml)
                    rw [hi2] at e2
                    obtain ⟨-, -, -, y3, -, -, -, -⟩ := HAG.out _ hE.out i2 _ (List.getElem?_eq_getElem hil2)
                    have hst2 : Hid (leastV l (o.drop m) = min (leastV l (o.drop (m + 1))) l[i2].en) := Lib.hid (by rw [List.drop_eq_getElem_cons hml, leastV, hi2, attN_get hil2])
                    have s1 : (m : Int) < (o.length : Int) := by omega
                    have s2 : (0 : Int) ≤ (m : Int) := Int.natCast_nonneg _
                    have s3 : (i2 : Int) < (l.length : Int) := by omega
                    have s4 : (0 : Int) ≤ (i2 : Int) := Int.natCast_nonneg _
                    clear hi2
                    generalize l[i2].en = yen at *
                    by_cases hb : yen < bg
                    · have t9 : decide (yen < bg) = true := by simpa using hb
                      have hF := Lib.hid (HBAD.out (by rw [HOR2.out, decide_eq_true (hL.out.2 (by rw [hst2.out]; omega))]; rfl))
                      have hE2 := Lib.hid (fun q => below_drewN hE.out q)
                      clear hst2 hL HBAD HGOOD HOR2 hb hH0 hE
                      go_wp2_with fail
                      go_quiet (fail)
                      clear e2 x0 x1 x2 x3 x4 x5 x6 x7 y3
                      go_wp2_with fail
                      refine bodyPost_ret (v := .tuple #[.int .i64 (i : Int), .int .i64 16]) (by simp [results, Tryz.results11, go_sem]) rfl ?_
                      exact ⟨by rw [hF.out], HEND.out _ (hE2.out _)⟩
                    · have t9 : decide (yen < bg) = false := by simpa using hb
                      have hL2 : Hid (lv < bg ↔ leastV l (o.drop (m + 1)) < bg) := Lib.hid (by rw [hL.out, hst2.out]; omega)
                      have hW3 := Lib.hid (fun q => below_drewN hW.out q)
                      clear hst2 hL hb
                      go_wp2_with fail
                      go_quiet (fail)
                      go_wp2_with fail
                      go_roundw
                      case rel => exact ⟨m + 1, by go_num, by omega, by omega, hL2, Lib.hid (hW3.out _)⟩
                      case measure => simp [intOf]; omega
                  · have hlvb : Hid (decide (lv < bg) = false) := Lib.hid (decide_eq_false (fun h => by
                      have := hL.out.1 h
                      rw [List.drop_eq_nil_of_le (by omega)] at this
                      unfold leastV at this
                      have := hbg.2
                      omega))
                    have hH := Lib.hid (hH0.out.below hW.out)
                    have hDN := Lib.hid (rfDone_any h cs th xkd bg en ck pl true dA dc evs (65 * evSum l (o.take k)) hcl HEN.out HEX.out wr hH.out (fun W hf => by
                      have hbw : Below w1.heap.size wr W := by rw [HHS.out]; exact hf.belowH (Nat.le_of_lt hH.out.lt)
                      exact (HEV.out _ (hE.out.trans hbw)).keep (Below.refl _ _) (HBS.out _ (hE.out.trans hbw))))
                    rw [hgc.out] at hDN
                    have hPE : Hid (∀ W, PutF h wr W → Below w1.heap.size w1 W) := Lib.hid (fun W hf => hE.out.trans (by rw [HHS.out]; exact hf.belowH (Nat.le_of_lt hH.out.lt)))
                    clear hL hH0 hH hE
                    cases hok : okV (heapAll l (o.take k)) evs
                    · have hF := Lib.hid (HBAD.out (by rw [HOR2.out, hok, hlvb.out]; rfl))
                      rw [hok] at hDN
                      clear HBAD HGOOD HOR2 hok
                      go_wp2_with fail
                      clear x0 x1 x2 x3 x4 x5 x6 x7 e1
                      refine hDN.out.mono ?_
                      rintro e w5 ⟨rfl, -, hP5⟩
                      have hE := Lib.hid (hPE.out _ hP5)
                      have e1 := HO.out _ hE.out
                      clear hDN hP5 hPE
                      go_wp2_with fail
                      refine bodyPost_ret (v := .tuple #[.int .i64 (i : Int), .int .i64 16]) (by simp [results, Tryz.results11, go_sem]) rfl ?_
                      exact ⟨by rw [hF.out], HEND.out _ hE.out⟩
                    · have hF := Lib.hid (HGOOD.out (by rw [HOR2.out, hok, hlvb.out]; rfl))
                      rw [hok] at hDN
                      clear HBAD HGOOD HOR2 hok
                      go_wp2_with fail
                      clear x0 x1 x2 x3 x4 x5 x6 x7 e1
                      refine hDN.out.mono ?_
                      rintro e w5 ⟨rfl, hcs, hP5⟩
                      obtain ⟨cs2, hl5, hH5, hg5⟩ := hcs trivial
                      have hE := Lib.hid (hPE.out _ hP5)
                      have hH5 := Lib.hid hH5
                      have hg6 : Hid (getV cs2 = heapAll l (o.take (k + 1))) := Lib.hid (by rw [hha.out]; exact hg5)
                      have hl6 : cs2.length ≤ 65 * evSum l (o.take (k + 1)) := by have := hsu.out; omega
                      clear hDN hP5 hcs hPE hg5
                      go_wp2_with fail
                      go_roundw
                      case rel => exact ⟨k + 1, cs2, by go_num, by omega, hl6, hF, hg6, hH5, hE⟩
                      case measure => simp [intOf]; omega
              · by_cases hyp : ypl = pl
                · have t5 : (ypl == pl) = true := by simpa using hyp
                  have t6 : decide (ypl = pl) = true := by simpa using hyp
                  have HTW : Hid (twinB l (pvO o k) ⟨th, xkd, bg, en, ck, pl, true, dA, dc, evs⟩ = true) := Lib.hid (by rw [HTW0.out, t6]; rfl)
                  clear hyp
                  go_wp2_with fail
                  clear hw0 hX c0 c1 c2 c3 c4 c5 c6 c7 e1
                  refine wp_region_L (l := 35) (S := (ChS1 w0 X th xkd bg en ck pl true (.slice dA evs.length dc) g (goff + k') (i' : Int) b (off + i' * 8) true ypl)) (by kernel_rfl) ?_ (fun hHeld => ?_)
                  · ((try dsimp only); (exact HS.out _ (Below.refl _ _).drew))
                  refine wpAnyL_take (i := 0) (oi := _) (v := ?v145) rfl (by kernel_rfl) (fun _ _ _ h => h) (by assumption) (Or.inl ⟨by kernel_rfl, ?y145⟩) ?r145
                  case y145 => (intro w hSw; (try dsimp only at hSw); go_simp; all_goals with_reducible rfl)
                  try simp only [Act.put, List.setIfInBounds_toArray, List.set_cons_zero, List.set_cons_succ]
                  refine wpAnyL_step (j := 1) (o := _) (by kernel_rfl) rfl (fun K hK => ?_)
                  (go_simp; go_at_call 36; refine (placed_is th xkd bg en ck pl true (.slice dA evs.length dc) _ HPL.out _).mono ?_; rintro e w4 ⟨rfl, hb4⟩)
                  refine hK _ _ ?_ (fun hHeld => ?_)
                  · ((try dsimp only); (exact HS.out _ (hHeld.1.trans (hb4.mono hHeld.1.size))))
                  clear hK K
                  try simp only [Act.put, List.setIfInBounds_toArray, List.set_cons_zero, List.set_cons_succ]
                  refine wpAnyL_take (i := 2) (oi := _) (v := ?v147) rfl (by kernel_rfl) (fun _ _ _ h => h) (by assumption) (Or.inl ⟨by kernel_rfl, ?y147⟩) ?r147
                  case y147 => (intro w hSw; (try dsimp only at hSw); go_simp; all_goals with_reducible rfl)
                  try simp only [Act.put, List.setIfInBounds_toArray, List.set_cons_zero, List.set_cons_succ]
                  refine wpAnyL_take (i := 3) (oi := _) (v := ?v148) rfl (by kernel_rfl) (fun _ _ _ h => h) (by assumption) (Or.inl ⟨by kernel_rfl, ?y148⟩) ?r148
                  case y148 => (intro w hSw; (try dsimp only at hSw); go_simp; all_goals with_reducible rfl)
                  try simp only [Act.put, List.setIfInBounds_toArray, List.set_cons_zero, List.set_cons_succ]
                  refine wpAnyL_take (i := 4) (oi := _) (v := ?v149) rfl (by kernel_rfl) (fun _ _ _ h => h) (by assumption) (Or.inl ⟨by kernel_rfl, ?y149⟩) ?r149
                  case y149 => (intro w hSw; (try dsimp only at hSw); go_simp; all_goals with_reducible rfl)
                  try simp only [Act.put, List.setIfInBounds_toArray, List.set_cons_zero, List.set_cons_succ]
                  refine wpAnyL_take (i := 5) (oi := _) (v := ?v150) rfl (by kernel_rfl) (fun _ _ _ h => h) (by assumption) (Or.inl ⟨by kernel_rfl, ?y150⟩) ?r150
                  case y150 => (intro w hSw; (try dsimp only at hSw); go_simp; all_goals with_reducible rfl)
                  try simp only [Act.put, List.setIfInBounds_toArray, List.set_cons_zero, List.set_cons_succ]
                  refine wpAnyL_take (i := 6) (oi := _) (v := ?v151) rfl (by kernel_rfl) (fun _ _ _ h => h) (by assumption) (Or.inl ⟨by kernel_rfl, ?y151⟩) ?r151
                  case y151 => (intro w hSw; (try dsimp only at hSw); go_simp; all_goals with_reducible rfl)
                  try simp only [Act.put, List.setIfInBounds_toArray, List.set_cons_zero, List.set_cons_succ]
                  refine wpAnyL_take (i := 7) (oi := _) (v := ?v152) rfl (by kernel_rfl) (fun _ _ _ h => h) (by assumption) (Or.inl ⟨by kernel_rfl, ?y152⟩) ?r152
                  case y152 => (intro w hSw; (try dsimp only at hSw); go_simp; all_goals with_reducible rfl)
                  try simp only [Act.put, List.setIfInBounds_toArray, List.set_cons_zero, List.set_cons_succ]
                  refine wpAnyL_take (i := 8) (oi := _) (v := ?v153) rfl (by kernel_rfl) (fun _ _ _ h => h) (by assumption) (Or.inl ⟨by kernel_rfl, ?y153⟩) ?r153
                  case y153 => (intro w hSw; (try dsimp only at hSw); go_simp; all_goals with_reducible rfl)
                  try simp only [Act.put, List.setIfInBounds_toArray, List.set_cons_zero, List.set_cons_succ]
                  refine wpAnyL_take (i := 9) (oi := _) (v := ?v154) rfl (by kernel_rfl) (fun _ _ _ h => h) (by assumption) (Or.inl ⟨by kernel_rfl, ?y154⟩) ?r154
                  case y154 => (intro w hSw; (try dsimp only at hSw); go_simp; all_goals with_reducible rfl)
                  try simp only [Act.put, List.setIfInBounds_toArray, List.set_cons_zero, List.set_cons_succ]
                  refine wpAnyL_take (i := 10) (oi := _) (v := ?v155) rfl (by kernel_rfl) (fun _ _ _ h => h) (by assumption) (Or.inl ⟨by kernel_rfl, ?y155⟩) ?r155
                  case y155 => (intro w hSw; (try dsimp only at hSw); go_simp; all_goals with_reducible rfl)
                  try simp only [Act.put, List.setIfInBounds_toArray, List.set_cons_zero, List.set_cons_succ]
                  refine wpAnyL_take (i := 11) (oi := _) (v := ?v156) rfl (by kernel_rfl) (fun _ _ _ h => h) (by assumption) (Or.inl ⟨by kernel_rfl, ?y156⟩) ?r156
                  case y156 => (intro w hSw; (try dsimp only at hSw); go_simp; all_goals with_reducible rfl)
                  try simp only [Act.put, List.setIfInBounds_toArray, List.set_cons_zero, List.set_cons_succ]
                  refine wpAnyL_take (i := 12) (oi := _) (v := ?v157) rfl (by kernel_rfl) (fun _ _ _ h => h) (by assumption) (Or.inl ⟨by kernel_rfl, ?y157⟩) ?r157
                  case y157 => (intro w hSw; (try dsimp only at hSw); go_simp; all_goals with_reducible rfl)
                  try simp only [Act.put, List.setIfInBounds_toArray, List.set_cons_zero, List.set_cons_succ]
                  refine wpAnyL_take (i := 13) (oi := _) (v := ?v158) rfl (by kernel_rfl) (fun _ _ _ h => h) (by assumption) (Or.inl ⟨by kernel_rfl, ?y158⟩) ?r158
                  case y158 => (intro w hSw; (try dsimp only at hSw); go_simp; all_goals with_reducible rfl)
                  try simp only [Act.put, List.setIfInBounds_toArray, List.set_cons_zero, List.set_cons_succ]
                  refine wpAnyL_take (i := 14) (oi := _) (v := ?v159) rfl (by kernel_rfl) (fun _ _ _ h => h) (by assumption) (Or.inl ⟨by kernel_rfl, ?y159⟩) ?r159
                  case y159 => (intro w hSw; (try dsimp only at hSw); go_simp; all_goals with_reducible rfl)
                  try simp only [Act.put, List.setIfInBounds_toArray, List.set_cons_zero, List.set_cons_succ]
                  refine wpAnyL_take (i := 15) (oi := _) (v := ?v160) rfl (by kernel_rfl) (fun _ _ _ h => h) (by assumption) (Or.inl ⟨by kernel_rfl, ?y160⟩) ?r160
                  case y160 => (intro w hSw; (try dsimp only at hSw); go_simp; all_goals with_reducible rfl)
                  try simp only [Act.put, List.setIfInBounds_toArray, List.set_cons_zero, List.set_cons_succ]
                  refine wpAnyL_take (i := 16) (oi := _) (v := ?v161) rfl (by kernel_rfl) (fun _ _ _ h => h) (by assumption) (Or.inl ⟨by kernel_rfl, ?y161⟩) ?r161
                  case y161 => (intro w hSw; (try dsimp only at hSw); go_simp; all_goals with_reducible rfl)
                  try simp only [Act.put, List.setIfInBounds_toArray, List.set_cons_zero, List.set_cons_succ]
                  refine wpAnyL_take (i := 17) (oi := _) (v := ?v162) rfl (by kernel_rfl) (fun _ _ _ h => h) (by assumption) (Or.inl ⟨by kernel_rfl, ?y162⟩) ?r162
                  case y162 => (intro w hSw; (try dsimp only at hSw); go_simp; all_goals with_reducible rfl)
                  try simp only [Act.put, List.setIfInBounds_toArray, List.set_cons_zero, List.set_cons_succ]
                  refine wpAnyL_take (i := 18) (oi := _) (v := ?v163) rfl (by kernel_rfl) (fun _ _ _ h => h) (by assumption) (Or.inl ⟨by kernel_rfl, ?y163⟩) ?r163
                  case y163 => (intro w hSw; (try dsimp only at hSw); go_simp; all_goals with_reducible rfl)
                  try simp only [Act.put, List.setIfInBounds_toArray, List.set_cons_zero, List.set_cons_succ]
                  refine wpAnyL_take (i := 19) (oi := _) (v := ?v164) rfl (by kernel_rfl) (fun _ _ _ h => h) (by assumption) (Or.inl ⟨by kernel_rfl, ?y164⟩) ?r164
                  case y164 => (intro w hSw; (try dsimp only at hSw); go_simp; all_goals with_reducible rfl)
                  try simp only [Act.put, List.setIfInBounds_toArray, List.set_cons_zero, List.set_cons_succ]
                  refine wpAnyL_take (i := 20) (oi := _) (v := ?v165) rfl (by kernel_rfl) (fun _ _ _ h => h) (by assumption) (Or.inl ⟨by kernel_rfl, ?y165⟩) ?r165
                  case y165 => (intro w hSw; (try dsimp only at hSw); go_simp; all_goals with_reducible rfl)
                  try simp only [Act.put, List.setIfInBounds_toArray, List.set_cons_zero, List.set_cons_succ]
                  refine wpAnyL_take (i := 21) (oi := _) (v := ?v166) rfl (by kernel_rfl) (fun _ _ _ h => h) (by assumption) (Or.inl ⟨by kernel_rfl, ?y166⟩) ?r166
                  case y166 => (intro w hSw; (try dsimp only at hSw); go_simp; all_goals with_reducible rfl)
                  try simp only [Act.put, List.setIfInBounds_toArray, List.set_cons_zero, List.set_cons_succ]
                  refine wpAnyL_take (i := 22) (oi := _) (v := ?v167) rfl (by kernel_rfl) (fun _ _ _ h => h) (by assumption) (Or.inl ⟨by kernel_rfl, ?y167⟩) ?r167
                  case y167 => (intro w hSw; (try dsimp only at hSw); go_simp; all_goals with_reducible rfl)
                  try simp only [Act.put, List.setIfInBounds_toArray, List.set_cons_zero, List.set_cons_succ]
                  refine wpAnyL_take (i := 23) (oi := _) (v := ?v168) rfl (by kernel_rfl) (fun _ _ _ h => h) (by assumption) (Or.inl ⟨by kernel_rfl, ?y168⟩) ?r168
                  case y168 => (intro w hSw; (try dsimp only at hSw); go_simp; all_goals with_reducible rfl)
                  try simp only [Act.put, List.setIfInBounds_toArray, List.set_cons_zero, List.set_cons_succ]
                  refine wpAnyL_take (i := 24) (oi := _) (v := ?v169) rfl (by kernel_rfl) (fun _ _ _ h => h) (by assumption) (Or.inl ⟨by kernel_rfl, ?y169⟩) ?r169
                  case y169 => (intro w hSw; (try dsimp only at hSw); go_simp; all_goals with_reducible rfl)
                  try simp only [Act.put, List.setIfInBounds_toArray, List.set_cons_zero, List.set_cons_succ]
                  refine wpAnyL_take (i := 25) (oi := _) (v := ?v170) rfl (by kernel_rfl) (fun _ _ _ h => h) (by assumption) (Or.inl ⟨by kernel_rfl, ?y170⟩) ?r170
                  case y170 => (intro w hSw; (try dsimp only at hSw); go_simp; all_goals with_reducible rfl)
                  try simp only [Act.put, List.setIfInBounds_toArray, List.set_cons_zero, List.set_cons_succ]
                  refine wpAnyL_take (i := 26) (oi := _) (v := ?v171) rfl (by kernel_rfl) (fun _ _ _ h => h) (by assumption) (Or.inl ⟨by kernel_rfl, ?y171⟩) ?r171
                  case y171 => (intro w hSw; (try dsimp only at hSw); go_simp; all_goals with_reducible rfl)
                  try simp only [Act.put, List.setIfInBounds_toArray, List.set_cons_zero, List.set_cons_succ]
                  refine wpAnyL_take (i := 27) (oi := _) (v := ?v172) rfl (by kernel_rfl) (fun _ _ _ h => h) (by assumption) (Or.inl ⟨by kernel_rfl, ?y172⟩) ?r172
                  case y172 => (intro w hSw; (try dsimp only at hSw); go_simp; all_goals with_reducible rfl)
                  try simp only [Act.put, List.setIfInBounds_toArray, List.set_cons_zero, List.set_cons_succ]
                  refine wpAnyL_take (i := 28) (oi := _) (v := ?v173) rfl (by kernel_rfl) (fun _ _ _ h => h) (by assumption) (Or.inl ⟨by kernel_rfl, ?y173⟩) ?r173
                  case y173 => (intro w hSw; (try dsimp only at hSw); go_simp; all_goals with_reducible rfl)
                  try simp only [Act.put, List.setIfInBounds_toArray, List.set_cons_zero, List.set_cons_succ]
                  refine wpAnyL_take (i := 29) (oi := _) (v := ?v174) rfl (by kernel_rfl) (fun _ _ _ h => h) (by assumption) (Or.inl ⟨by kernel_rfl, ?y174⟩) ?r174
                  case y174 => (intro w hSw; (try dsimp only at hSw); go_simp; all_goals with_reducible rfl)
                  try simp only [Act.put, List.setIfInBounds_toArray, List.set_cons_zero, List.set_cons_succ]
                  refine wpAnyL_take (i := 30) (oi := _) (v := ?v175) rfl (by kernel_rfl) (fun _ _ _ h => h) (by assumption) (Or.inl ⟨by kernel_rfl, ?y175⟩) ?r175
                  case y175 => (intro w hSw; (try dsimp only at hSw); go_simp; all_goals with_reducible rfl)
                  try simp only [Act.put, List.setIfInBounds_toArray, List.set_cons_zero, List.set_cons_succ]
                  refine wpAnyL_take (i := 31) (oi := _) (v := ?v176) rfl (by kernel_rfl) (fun _ _ _ h => h) (by assumption) (Or.inl ⟨by kernel_rfl, ?y176⟩) ?r176
                  case y176 => (intro w hSw; (try dsimp only at hSw); go_simp; all_goals with_reducible rfl)
                  try simp only [Act.put, List.setIfInBounds_toArray, List.set_cons_zero, List.set_cons_succ]
                  refine wpAnyL_take (i := 32) (oi := _) (v := ?v177) rfl (by kernel_rfl) (fun _ _ _ h => h) (by assumption) (Or.inl ⟨by kernel_rfl, ?y177⟩) ?r177
                  case y177 => (intro w hSw; (try dsimp only at hSw); go_simp; all_goals with_reducible rfl)
                  try simp only [Act.put, List.setIfInBounds_toArray, List.set_cons_zero, List.set_cons_succ]
                  refine wpAnyL_take (i := 33) (oi := _) (v := ?v178) rfl (by kernel_rfl) (fun _ _ _ h => h) (by assumption) (Or.inl ⟨by kernel_rfl, ?y178⟩) ?r178
                  case y178 => (intro w hSw; (try dsimp only at hSw); go_simp; all_goals with_reducible rfl)
                  try simp only [Act.put, List.setIfInBounds_toArray, List.set_cons_zero, List.set_cons_succ]
                  refine wpAnyL_take (i := 34) (oi := _) (v := ?v179) rfl (by kernel_rfl) (fun _ _ _ h => h) (by assumption) (Or.inl ⟨by kernel_rfl, ?y179⟩) ?r179
                  case y179 => (intro w hSw; (try dsimp only at hSw); go_simp; all_goals with_reducible rfl)
                  try simp only [Act.put, List.setIfInBounds_toArray, List.set_cons_zero, List.set_cons_succ]
                  refine wpAnyL_last (j := 35) (o := _) (by kernel_rfl) rfl (by rfl) (by kernel_rfl) (fun K hK => ?_)
                  go_simp
                  (refine hK _ _ ?_; clear hK K)
                  try simp only [Act.put, List.setIfInBounds_toArray, List.set_cons_zero, List.set_cons_succ]
                  have hW4 := Lib.hid hHeld.1
                  clear hHeld
                  have hF := Lib.hid (HBAD.out (by rw [HORD.out, HTW.out, Bool.not_true, Bool.false_and, Bool.and_false]))
                  have hE := Lib.hid (HWW.out _ hW4.out)
                  have e1 := HO.out _ hE.out
                  clear HBAD HGOOD HORD hH0
                  go_wp2_with fail
                  refine bodyPost_ret (v := .tuple #[.int .i64 (i : Int), .int .i64 16]) (by simp [results, Tryz.results11, go_sem]) rfl ?_
                  exact ⟨by rw [hF.out], HEND.out _ hE.out⟩
                · have t5 : (ypl == pl) = false := by simpa using hyp
                  have t6 : decide (ypl = pl) = false := by simpa using hyp
                  have HTW : Hid (twinB l (pvO o k) ⟨th, xkd, bg, en, ck, pl, true, dA, dc, evs⟩ = false) := Lib.hid (by rw [HTW0.out, t6]; rfl)
                  clear hyp
                  go_wp2_with fail
                  clear hw0 hX c0 c1 c2 c3 c4 c5 c6 c7 e1
                  refine wp_region_L (l := 35) (S := (ChS1 w0 X th xkd bg en ck pl true (.slice dA evs.length dc) g (goff + k') (i' : Int) b (off + i' * 8) true ypl)) (by kernel_rfl) ?_ (fun hHeld => ?_)
                  · ((try dsimp only); (exact HS.out _ (Below.refl _ _).drew))
                  refine wpAnyL_take (i := 0) (oi := _) (v := ?v181) rfl (by kernel_rfl) (fun _ _ _ h => h) (by assumption) (Or.inl ⟨by kernel_rfl, ?y181⟩) ?r181
                  case y181 => (intro w hSw; (try dsimp only at hSw); go_simp; all_goals with_reducible rfl)
                  try simp only [Act.put, List.setIfInBounds_toArray, List.set_cons_zero, List.set_cons_succ]
                  refine wpAnyL_step (j := 1) (o := _) (by kernel_rfl) rfl (fun K hK => ?_)
                  (go_simp; go_at_call 36; refine (placed_is th xkd bg en ck pl true (.slice dA evs.length dc) _ HPL.out _).mono ?_; rintro e w4 ⟨rfl, hb4⟩)
                  refine hK _ _ ?_ (fun hHeld => ?_)
                  · ((try dsimp only); (exact HS.out _ (hHeld.1.trans (hb4.mono hHeld.1.size))))
                  clear hK K
                  try simp only [Act.put, List.setIfInBounds_toArray, List.set_cons_zero, List.set_cons_succ]
                  refine wpAnyL_take (i := 2) (oi := _) (v := ?v183) rfl (by kernel_rfl) (fun _ _ _ h => h) (by assumption) (Or.inl ⟨by kernel_rfl, ?y183⟩) ?r183
                  case y183 => (intro w hSw; (try dsimp only at hSw); go_simp; all_goals with_reducible rfl)
                  try simp only [Act.put, List.setIfInBounds_toArray, List.set_cons_zero, List.set_cons_succ]
                  refine wpAnyL_take (i := 3) (oi := _) (v := ?v184) rfl (by kernel_rfl) (fun _ _ _ h => h) (by assumption) (Or.inl ⟨by kernel_rfl, ?y184⟩) ?r184
                  case y184 => (intro w hSw; (try dsimp only at hSw); go_simp; all_goals with_reducible rfl)
                  try simp only [Act.put, List.setIfInBounds_toArray, List.set_cons_zero, List.set_cons_succ]
                  refine wpAnyL_take (i := 4) (oi := _) (v := ?v185) rfl (by kernel_rfl) (fun _ _ _ h => h) (by assumption) (Or.inl ⟨by kernel_rfl, ?y185⟩) ?r185
                  case y185 => (intro w hSw; (try dsimp only at hSw); go_simp; all_goals with_reducible rfl)
                  try simp only [Act.put, List.setIfInBounds_toArray, List.set_cons_zero, List.set_cons_succ]
                  refine wpAnyL_take (i := 5) (oi := _) (v := ?v186) rfl (by kernel_rfl) (fun _ _ _ h => h) (by assumption) (Or.inl ⟨by kernel_rfl, ?y186⟩) ?r186
                  case y186 => (intro w hSw; (try dsimp only at hSw); go_simp; all_goals with_reducible rfl)
                  try simp only [Act.put, List.setIfInBounds_toArray, List.set_cons_zero, List.set_cons_succ]
                  refine wpAnyL_take (i := 6) (oi := _) (v := ?v187) rfl (by kernel_rfl) (fun _ _ _ h => h) (by assumption) (Or.inl ⟨by kernel_rfl, ?y187⟩) ?r187
                  case y187 => (intro w hSw; (try dsimp only at hSw); go_simp; all_goals with_reducible rfl)
                  try simp only [Act.put, List.setIfInBounds_toArray, List.set_cons_zero, List.set_cons_succ]
                  refine wpAnyL_take (i := 7) (oi := _) (v := ?v188) rfl (by kernel_rfl) (fun _ _ _ h => h) (by assumption) (Or.inl ⟨by kernel_rfl, ?y188⟩) ?r188
                  case y188 => (intro w hSw; (try dsimp only at hSw); go_simp; all_goals with_reducible rfl)
                  try simp only [Act.put, List.setIfInBounds_toArray, List.set_cons_zero, List.set_cons_succ]
                  refine wpAnyL_take (i := 8) (oi := _) (v := ?v189) rfl (by kernel_rfl) (fun _ _ _ h => h) (by assumption) (Or.inl ⟨by kernel_rfl, ?y189⟩) ?r189
                  case y189 => (intro w hSw; (try dsimp only at hSw); go_simp; all_goals with_reducible rfl)
                  try simp only [Act.put, List.setIfInBounds_toArray, List.set_cons_zero, List.set_cons_succ]
                  refine wpAnyL_take (i := 9) (oi := _) (v := ?v190) rfl (by kernel_rfl) (fun _ _ _ h => h) (by assumption) (Or.inl ⟨by kernel_rfl, ?y190⟩) ?r190
                  case y190 => (intro w hSw; (try dsimp only at hSw); go_simp; all_goals with_reducible rfl)
                  try simp only [Act.put, List.setIfInBounds_toArray, List.set_cons_zero, List.set_cons_succ]
                  refine wpAnyL_take (i := 10) (oi := _) (v := ?v191) rfl (by kernel_rfl) (fun _ _ _ h => h) (by assumption) (Or.inl ⟨by kernel_rfl, ?y191⟩) ?r191
                  case y191 => (intro w hSw; (try dsimp only at hSw); go_simp; all_goals with_reducible rfl)
                  try simp only [Act.put, List.setIfInBounds_toArray, List.set_cons_zero, List.set_cons_succ]
                  refine wpAnyL_take (i := 11) (oi := _) (v := ?v192) rfl (by kernel_rfl) (fun _ _ _ h => h) (by assumption) (Or.inl ⟨by kernel_rfl, ?y192⟩) ?r192
                  case y192 => (intro w hSw; (try dsimp only at hSw); go_simp; all_goals with_reducible rfl)
                  try simp only [Act.put, List.setIfInBounds_toArray, List.set_cons_zero, List.set_cons_succ]
                  refine wpAnyL_take (i := 12) (oi := _) (v := ?v193) rfl (by kernel_rfl) (fun _ _ _ h => h) (by assumption) (Or.inl ⟨by kernel_rfl, ?y193⟩) ?r193
                  case y193 => (intro w hSw; (try dsimp only at hSw); go_simp; all_goals with_reducible rfl)
                  try simp only [Act.put, List.setIfInBounds_toArray, List.set_cons_zero, List.set_cons_succ]
                  refine wpAnyL_take (i := 13) (oi := _) (v := ?v194) rfl (by kernel_rfl) (fun _ _ _ h => h) (by assumption) (Or.inl ⟨by kernel_rfl, ?y194⟩) ?r194
                  case y194 => (intro w hSw; (try dsimp only at hSw); go_simp; all_goals with_reducible rfl)
                  try simp only [Act.put, List.setIfInBounds_toArray, List.set_cons_zero, List.set_cons_succ]
                  refine wpAnyL_take (i := 14) (oi := _) (v := ?v195) rfl (by kernel_rfl) (fun _ _ _ h => h) (by assumption) (Or.inl ⟨by kernel_rfl, ?y195⟩) ?r195
                  case y195 => (intro w hSw; (try dsimp only at hSw); go_simp; all_goals with_reducible rfl)
                  try simp only [Act.put, List.setIfInBounds_toArray, List.set_cons_zero, List.set_cons_succ]
                  refine wpAnyL_take (i := 15) (oi := _) (v := ?v196) rfl (by kernel_rfl) (fun _ _ _ h => h) (by assumption) (Or.inl ⟨by kernel_rfl, ?y196⟩) ?r196
                  case y196 => (intro w hSw; (try dsimp only at hSw); go_simp; all_goals with_reducible rfl)
                  try simp only [Act.put, List.setIfInBounds_toArray, List.set_cons_zero, List.set_cons_succ]
                  refine wpAnyL_take (i := 16) (oi := _) (v := ?v197) rfl (by kernel_rfl) (fun _ _ _ h => h) (by assumption) (Or.inl ⟨by kernel_rfl, ?y197⟩) ?r197
                  case y197 => (intro w hSw; (try dsimp only at hSw); go_simp; all_goals with_reducible rfl)
                  try simp only [Act.put, List.setIfInBounds_toArray, List.set_cons_zero, List.set_cons_succ]
                  refine wpAnyL_take (i := 17) (oi := _) (v := ?v198) rfl (by kernel_rfl) (fun _ _ _ h => h) (by assumption) (Or.inl ⟨by kernel_rfl, ?y198⟩) ?r198
                  case y198 => (intro w hSw; (try dsimp only at hSw); go_simp; all_goals with_reducible rfl)
                  try simp only [Act.put, List.setIfInBounds_toArray, List.set_cons_zero, List.set_cons_succ]
                  refine wpAnyL_take (i := 18) (oi := _) (v := ?v199) rfl (by kernel_rfl) (fun _ _ _ h => h) (by assumption) (Or.inl ⟨by kernel_rfl, ?y199⟩) ?r199
                  case y199 => (intro w hSw; (try dsimp only at hSw); go_simp; all_goals with_reducible rfl)
                  try simp only [Act.put, List.setIfInBounds_toArray, List.set_cons_zero, List.set_cons_succ]
                  refine wpAnyL_take (i := 19) (oi := _) (v := ?v200) rfl (by kernel_rfl) (fun _ _ _ h => h) (by assumption) (Or.inl ⟨by kernel_rfl, ?y200⟩) ?r200
                  case y200 => (intro w hSw; (try dsimp only at hSw); go_simp; all_goals with_reducible rfl)
                  try simp only [Act.put, List.setIfInBounds_toArray, List.set_cons_zero, List.set_cons_succ]
                  refine wpAnyL_take (i := 20) (oi := _) (v := ?v201) rfl (by kernel_rfl) (fun _ _ _ h => h) (by assumption) (Or.inl ⟨by kernel_rfl, ?y201⟩) ?r201
                  case y201 => (intro w hSw; (try dsimp only at hSw); go_simp; all_goals with_reducible rfl)
                  try simp only [Act.put, List.setIfInBounds_toArray, List.set_cons_zero, List.set_cons_succ]
                  refine wpAnyL_take (i := 21) (oi := _) (v := ?v202) rfl (by kernel_rfl) (fun _ _ _ h => h) (by assumption) (Or.inl ⟨by kernel_rfl, ?y202⟩) ?r202
                  case y202 => (intro w hSw; (try dsimp only at hSw); go_simp; all_goals with_reducible rfl)
                  try simp only [Act.put, List.setIfInBounds_toArray, List.set_cons_zero, List.set_cons_succ]
                  refine wpAnyL_take (i := 22) (oi := _) (v := ?v203) rfl (by kernel_rfl) (fun _ _ _ h => h) (by assumption) (Or.inl ⟨by kernel_rfl, ?y203⟩) ?r203
                  case y203 => (intro w hSw; (try dsimp only at hSw); go_simp; all_goals with_reducible rfl)
                  try simp only [Act.put, List.setIfInBounds_toArray, List.set_cons_zero, List.set_cons_succ]
                  refine wpAnyL_take (i := 23) (oi := _) (v := ?v204) rfl (by kernel_rfl) (fun _ _ _ h => h) (by assumption) (Or.inl ⟨by kernel_rfl, ?y204⟩) ?r204
                  case y204 => (intro w hSw; (try dsimp only at hSw); go_simp; all_goals with_reducible rfl)
                  try simp only [Act.put, List.setIfInBounds_toArray, List.set_cons_zero, List.set_cons_succ]
                  refine wpAnyL_take (i := 24) (oi := _) (v := ?v205) rfl (by kernel_rfl) (fun _ _ _ h => h) (by assumption) (Or.inl ⟨by kernel_rfl, ?y205⟩) ?r205
                  case y205 => (intro w hSw; (try dsimp only at hSw); go_simp; all_goals with_reducible rfl)
                  try simp only [Act.put, List.setIfInBounds_toArray, List.set_cons_zero, List.set_cons_succ]
                  refine wpAnyL_take (i := 25) (oi := _) (v := ?v206) rfl (by kernel_rfl) (fun _ _ _ h => h) (by assumption) (Or.inl ⟨by kernel_rfl, ?y206⟩) ?r206
                  case y206 => (intro w hSw; (try dsimp only at hSw); go_simp; all_goals with_reducible rfl)
                  try simp only [Act.put, List.setIfInBounds_toArray, List.set_cons_zero, List.set_cons_succ]
                  refine wpAnyL_take (i := 26) (oi := _) (v := ?v207) rfl (by kernel_rfl) (fun _ _ _ h => h) (by assumption) (Or.inl ⟨by kernel_rfl, ?y207⟩) ?r207
                  case y207 => (intro w hSw; (try dsimp only at hSw); go_simp; all_goals with_reducible rfl)
                  try simp only [Act.put, List.setIfInBounds_toArray, List.set_cons_zero, List.set_cons_succ]
                  refine wpAnyL_take (i := 27) (oi := _) (v := ?v208) rfl (by kernel_rfl) (fun _ _ _ h => h) (by assumption) (Or.inl ⟨by kernel_rfl, ?y208⟩) ?r208
                  case y208 => (intro w hSw; (try dsimp only at hSw); go_simp; all_goals with_reducible rfl)
                  try simp only [Act.put, List.setIfInBounds_toArray, List.set_cons_zero, List.set_cons_succ]
                  refine wpAnyL_take (i := 28) (oi := _) (v := ?v209) rfl (by kernel_rfl) (fun _ _ _ h => h) (by assumption) (Or.inl ⟨by kernel_rfl, ?y209⟩) ?r209
                  case y209 => (intro w hSw; (try dsimp only at hSw); go_simp; all_goals with_reducible rfl)
                  try simp only [Act.put, List.setIfInBounds_toArray, List.set_cons_zero, List.set_cons_succ]
                  refine wpAnyL_take (i := 29) (oi := _) (v := ?v210) rfl (by kernel_rfl) (fun _ _ _ h => h) (by assumption) (Or.inl ⟨by kernel_rfl, ?y210⟩) ?r210
                  case y210 => (intro w hSw; (try dsimp only at hSw); go_simp; all_goals with_reducible rfl)
                  try simp only [Act.put, List.setIfInBounds_toArray, List.set_cons_zero, List.set_cons_succ]
                  refine wpAnyL_take (i := 30) (oi := _) (v := ?v211) rfl (by kernel_rfl) (fun _ _ _ h => h) (by assumption) (Or.inl ⟨by kernel_rfl, ?y211⟩) ?r211
                  case y211 => (intro w hSw; (try dsimp only at hSw); go_simp; all_goals with_reducible rfl)
                  try simp only [Act.put, List.setIfInBounds_toArray, List.set_cons_zero, List.set_cons_succ]
                  refine wpAnyL_take (i := 31) (oi := _) (v := ?v212) rfl (by kernel_rfl) (fun _ _ _ h => h) (by assumption) (Or.inl ⟨by kernel_rfl, ?y212⟩) ?r212
                  case y212 => (intro w hSw; (try dsimp only at hSw); go_simp; all_goals with_reducible rfl)
                  try simp only [Act.put, List.setIfInBounds_toArray, List.set_cons_zero, List.set_cons_succ]
                  refine wpAnyL_take (i := 32) (oi := _) (v := ?v213) rfl (by kernel_rfl) (fun _ _ _ h => h) (by assumption) (Or.inl ⟨by kernel_rfl, ?y213⟩) ?r213
                  case y213 => (intro w hSw; (try dsimp only at hSw); go_simp; all_goals with_reducible rfl)
                  try simp only [Act.put, List.setIfInBounds_toArray, List.set_cons_zero, List.set_cons_succ]
                  refine wpAnyL_take (i := 33) (oi := _) (v := ?v214) rfl (by kernel_rfl) (fun _ _ _ h => h) (by assumption) (Or.inl ⟨by kernel_rfl, ?y214⟩) ?r214
                  case y214 => (intro w hSw; (try dsimp only at hSw); go_simp; all_goals with_reducible rfl)
                  try simp only [Act.put, List.setIfInBounds_toArray, List.set_cons_zero, List.set_cons_succ]
                  refine wpAnyL_take (i := 34) (oi := _) (v := ?v215) rfl (by kernel_rfl) (fun _ _ _ h => h) (by assumption) (Or.inl ⟨by kernel_rfl, ?y215⟩) ?r215
                  case y215 => (intro w hSw; (try dsimp only at hSw); go_simp; all_goals with_reducible rfl)
                  try simp only [Act.put, List.setIfInBounds_toArray, List.set_cons_zero, List.set_cons_succ]
                  refine wpAnyL_last (j := 35) (o := _) (by kernel_rfl) rfl (by rfl) (by kernel_rfl) (fun K hK => ?_)
                  go_simp
                  (refine hK _ _ ?_; clear hK K)
                  try simp only [Act.put, List.setIfInBounds_toArray, List.set_cons_zero, List.set_cons_succ]
                  have hW4 := Lib.hid hHeld.1
                  clear hHeld
                  have HOR2 : Hid (orderedB l (pvO o k) ⟨th, xkd, bg, en, ck, pl, true, dA, dc, evs⟩ (o.drop (k + 1)) (heapAll l (o.take k)) = (!decide (lv < bg) && okV (heapAll l (o.take k)) evs)) := Lib.hid (by have hp := HPL.out; rw [HORD.out, HTW.out]; first | (rw [hp]; simp; done) | (simp at hp; simp [hp]; done) | (simp [hp]; done))
                  have HL0 : Hid (lv < bg ↔ leastV l (o.drop (k + 1)) < bg) := Lib.hid (by rw [HLV.out])
                  obtain ⟨wo, rfl⟩ : ∃ wo : World, wo = wr := ⟨_, rfl⟩
                  clear HORD HPL HTW
                  go_wp2_with fail
                  go_loopw [9] (fun i2 wr => ∃ m : Nat, i2 = .int .i64 m ∧ k + 1 ≤ m ∧ m ≤ o.length ∧ Hid (lv < bg ↔ leastV l (o.drop m) < bg) ∧ Hid (Below w0.heap.size w0 wr)) (fun i2 _ => o.length - (intOf i2).toNat)
                  case atStart => exact ⟨k + 1, by go_num, Nat.le_refl _, by omega, HL0, hW4⟩
                  case round =>
                    clear HL0
                    obtain ⟨m, rfl, hm1, hm2, hL, hW⟩ := hrel
                    have hE := Lib.hid (HWW.out _ hW.out)
                    obtain ⟨x0, x1, x2, x3, x4, x5, x6, x7⟩ := HX.out _ hW.out
                    simp only [Nat.zero_add] at x0 x1 x2 x3 x4 x5 x6 x7
                    have e1 := HO.out _ hE.out
                    by_cases hml : m < o.length
                    · obtain ⟨i2, hi2, hil2⟩ := HR.out _ (List.getElem_mem hml)
                      have e2 := HOG.out _ hE.out m _ (List.getElem?_eq_getElem hml)
                      rw [hi2] at e2
                      obtain ⟨-, -, -, y3, -, -, -, -⟩ := HAG.out _ hE.out i2 _ (List.getElem?_eq_getElem hil2)
                      have hst2 : Hid (leastV l (o.drop m) = min (leastV l (o.drop (m + 1))) l[i2].en) := Lib.hid (by rw [List.drop_eq_getElem_cons hml, leastV, hi2, attN_get hil2])
                      have s1 : (m : Int) < (o.length : Int) := by omega
                      have s2 : (0 : Int) ≤ (m : Int) := Int.natCast_nonneg _
                      have s3 : (i2 : Int) < (l.length : Int) := by omega
                      have s4 : (0 : Int) ≤ (i2 : Int) := Int.natCast_nonneg _
                      clear hi2
                      generalize l[i2].en = yen at *
                      by_cases hb : yen < bg
                      · have t9 : decide (yen < bg) = true := by simpa using hb
                        have hF := Lib.hid (HBAD.out (by rw [HOR2.out, decide_eq_true (hL.out.2 (by rw [hst2.out]; omega))]; rfl))
                        have hE2 := Lib.hid (fun q => below_drewN hE.out q)
                        clear hst2 hL HBAD HGOOD HOR2 hb hH0 hE
                        go_wp2_with fail
                        go_quiet (fail)
                        clear e2 x0 x1 x2 x3 x4 x5 x6 x7 y3
                        go_wp2_with fail
                        refine bodyPost_ret (v := .tuple #[.int .i64 (i : Int), .int .i64 16]) (by simp [results, Tryz.results11, go_sem]) rfl ?_
                        exact ⟨by rw [hF.out], HEND.out _ (hE2.out _)⟩
                      · have t9 : decide (yen < bg) = false := by simpa using hb
                        have hL2 : Hid (lv < bg ↔ leastV l (o.drop (m + 1)) < bg) := Lib.hid (by rw [hL.out, hst2.out]; omega)
                        have hW3 := Lib.hid (fun q => below_drewN hW.out q)
                        clear hst2 hL hb
                        go_wp2_with fail
                        go_quiet (fail)
                        go_wp2_with fail
                        go_roundw
                        case rel => exact ⟨m + 1, by go_num, by omega, by omega, hL2, Lib.hid (hW3.out _)⟩
                        case measure => simp [intOf]; omega
                    · have hlvb : Hid (decide (lv < bg) = false) := Lib.hid (decide_eq_false (fun h => by
                        have := hL.out.1 h
                        rw [List.drop_eq_nil_of_le (by omega)] at this
                        unfold leastV at this
                        have := hbg.2
                        omega))
                      have hH := Lib.hid (hH0.out.below hW.out)
                      have hDN := Lib.hid (rfDone_any h cs th xkd bg en ck pl true dA dc evs (65 * evSum l (o.take k)) hcl HEN.out HEX.out wr hH.out (fun W hf => by
                        have hbw : Below w1.heap.size wr W := by rw [HHS.out]; exact hf.belowH (Nat.le_of_lt hH.out.lt)
                        exact (HEV.out _ (hE.out.trans hbw)).keep (Below.refl _ _) (HBS.out _ (hE.out.trans hbw))))
                      rw [hgc.out] at hDN
                      have hPE : Hid (∀ W, PutF h wr W → Below w1.heap.size w1 W) := Lib.hid (fun W hf => hE.out.trans (by rw [HHS.out]; exact hf.belowH (Nat.le_of_lt hH.out.lt)))
                      clear hL hH0 hH hE
                      cases hok : okV (heapAll l (o.take k)) evs
                      · have hF := Lib.hid (HBAD.out (by rw [HOR2.out, hok, hlvb.out]; rfl))
                        rw [hok] at hDN
                        clear HBAD HGOOD HOR2 hok
                        go_wp2_with fail
                        clear x0 x1 x2 x3 x4 x5 x6 x7 e1
                        refine hDN.out.mono ?_
                        rintro e w5 ⟨rfl, -, hP5⟩
                        have hE := Lib.hid (hPE.out _ hP5)
                        have e1 := HO.out _ hE.out
                        clear hDN hP5 hPE
                        go_wp2_with fail
                        refine bodyPost_ret (v := .tuple #[.int .i64 (i : Int), .int .i64 16]) (by simp [results, Tryz.results11, go_sem]) rfl ?_
                        exact ⟨by rw [hF.out], HEND.out _ hE.out⟩
                      · have hF := Lib.hid (HGOOD.out (by rw [HOR2.out, hok, hlvb.out]; rfl))
                        rw [hok] at hDN
                        clear HBAD HGOOD HOR2 hok
                        go_wp2_with fail
                        clear x0 x1 x2 x3 x4 x5 x6 x7 e1
                        refine hDN.out.mono ?_
                        rintro e w5 ⟨rfl, hcs, hP5⟩
                        obtain ⟨cs2, hl5, hH5, hg5⟩ := hcs trivial
                        have hE := Lib.hid (hPE.out _ hP5)
                        have hH5 := Lib.hid hH5
                        have hg6 : Hid (getV cs2 = heapAll l (o.take (k + 1))) := Lib.hid (by rw [hha.out]; exact hg5)
                        have hl6 : cs2.length ≤ 65 * evSum l (o.take (k + 1)) := by have := hsu.out; omega
                        clear hDN hP5 hcs hPE hg5
                        go_wp2_with fail
                        go_roundw
                        case rel => exact ⟨k + 1, cs2, by go_num, by omega, hl6, hF, hg6, hH5, hE⟩
                        case measure => simp [intOf]; omega
      · have hF : Hid (res = (0, 0)) := Lib.hid (by rw [hV.out, List.drop_eq_nil_of_le (by omega)]; rfl)
        clear hV
        go_wp2_with fail
        refine bodyPost_ret (v := .tuple #[.int .i64 0, .int .i64 0]) (by simp [results, Tryz.results11, go_sem]) rfl ?_
        exact ⟨by rw [hF.out], HEND.out _ hW.out⟩
  · have HE : Hid (scheckV l = (0, checkedV l)) := Lib.hid (by unfold scheckV; rw [if_neg hck])
    have HN : Hid (∀ z, z = checkedV l → (z != 0) = true ∧ decide (z = 0) = false) := Lib.hid (fun z hz => by subst hz; simp [hck])
    obtain ⟨z, hz⟩ : ∃ z, checkedV l = z := ⟨_, rfl⟩
    rw [hz] at HE HC HN
    rw [HE.out]
    clear hck HE hz
    go_enter Tryz.func11, Tryz.ntmps11
    go_wp2_with fail
    refine (HC.out _ (Below.refl _ _)).mono ?_
    rintro e w0 ⟨rfl, hb1⟩
    have HB0 := Lib.hid hb1
    obtain ⟨t1, t2⟩ := HN.out _ rfl
    clear hb1 HN
    go_wp2_with fail
    refine bodyPost_ret (v := .tuple #[.int .i64 0, .int .i64 z]) (by simp [results, Tryz.results11, go_sem]) rfl ?_
    exact ⟨rfl, HB0.out⟩
end Go.Proofs.YtjaegddnikkibaaGreatDoor
